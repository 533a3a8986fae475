/-
  PF, parts 4 to 19: a small machine with values, and that Go's code does what it tells. Conditions: none beyond each theorem's own.
-/
import Derived.Test.YtaoijbibmcgdaaaGreatPFa
import Derived.WalkKit
import Derived.Below
import Derived.Laws.Cells
import Derived.Laws.Entries
import Derived.RowKit
import Derived.Laws.StructEq
import Derived.DeepKeys
import Derived.Lib.SmallJoins
import Derived.Laws.Pointers
import Derived.Lib.Strings
import Derived.Laws.MakeOwn
import Derived.Laws.Append
import Derived.Laws.AppendOwn
import Derived.Lib.ConvBytes
import Derived.Laws.BytesString
set_option linter.unusedVariables false
set_option linter.unusedSimpArgs false
namespace Go.Proofs.PF
abbrev Cell :=Nat×Nat
def cat (w:World)(c:Cell):Option Value:=w.cell? ⟨c.1,c.2,none⟩
def cfz (w:World)(c:Cell):Bool:=w.frozen? ⟨c.1,c.2,none⟩
section
variable (w:World) (X:Cell→Prop) (β:Nat→Cell)
inductive VRel :Value→AV→Prop
 |undef (v:Value):VRel v .undef
 |nov:VRel Go.undef .nov
 |bool (b:Bool):VRel (.bool b) (.bool b)
 |int (k:IntKind) (n:Int):VRel (.int k n) (.int k n)
 |str (s:ByteArray) (l:List UInt8) (h:s.data.toList=l):VRel (.string s) (.str l)
 |agg (cs:Array Value) (as:List AV) (hl:cs.size=as.length) (hf: ∀a∈as,a.flat1=true∧a.notOwn=true)
   (h: ∀i (hi:i<cs.size),VRel cs[i] (as[i]'(hl▸hi))):VRel (.agg cs) (.agg as)
 |tup (cs:Array Value) (as:List AV) (hl:cs.size=as.length) (hf: ∀a∈as,a.flat2=true∧a.notOwn=true)
   (h: ∀i (hi:i<cs.size),VRel cs[i] (as[i]'(hl▸hi))):VRel (.tuple cs) (.tup as)
 |lst0 (A:Option Addr) (cap:Nat) (g:Gr) (hg:g= .full→cap=0):VRel (.slice A 0 cap) (.lst g [])
 |lst (b o e cap:Nat) (g:Gr) (xs:List AV) (val:Nat→Value) (hc:xs.length≤cap) (hg:g= .full→cap=xs.length)
   (hx: ∀x∈xs,x.delem=true∧x.cells.length=e)
   (hv: ∀j,j<xs.length*e→cat w (b,o+j)=some (val j)∧¬X (b,o+j))
   (h: ∀j (hj:j<(xs.flatMap AV.cells).length),VRel (val j) ((xs.flatMap AV.cells)[j])):VRel (.slice (some ⟨b,o,none⟩) xs.length cap) (.lst g xs)
 |arr (A:Option Addr) (nm off len cap e:Nat) (ag:Bool) (hc:len≤cap) (hA:0<len→A=some ⟨(β nm).1,(β nm).2+off,none⟩):VRel (.slice A len cap) (.arr nm off len e ag)
 |arw (A:Option Addr) (nm len cap e:Nat) (ag:Bool) (hc:len≤cap) (hA:0<cap→A=some ⟨(β nm).1,(β nm).2,none⟩):VRel (.slice A len cap) (.arw nm len e ag)
 |ptr (nm off:Nat):VRel (.pointer (some ⟨(β nm).1,(β nm).2+off,none⟩)) (.ptr nm off)
 |ept (b o off:Nat) (cs:List AV) (val:Nat→Value) (hd: ∀c∈cs,c.dcell=true)
   (hv: ∀j,j<cs.length→cat w (b,o+j)=some (val j)∧¬X (b,o+j))
   (h: ∀j (hj:j<cs.length),VRel (val j) (cs[j])):VRel (.pointer (some ⟨b,o+off,none⟩)) (.ept cs off)
 |nilp:VRel (.pointer none) .nilp
 |fn (f:Nat) (cs:Array Value) (as:List AV) (hl:cs.size=as.length) (hf: ∀a∈as,a.isPtr=true)
   (h: ∀i (hi:i<cs.size),VRel cs[i] (as[i]'(hl▸hi))):VRel (.func (.func f) #[] cs) (.fn f as)
 |fnB (f:Nat) (bs:Array Value) (as:List AV) (hl:bs.size=as.length) (hd: ∀a∈as,a.delem=true)
   (h: ∀i (hi:i<bs.size),VRel bs[i] (as[i]'(hl▸hi))):VRel (.func (.func f) bs #[]) (.fn f [.tup as])
end
abbrev Glob :=Nat→(Nat→Option Go.Obj)→Prop
structure Base (Γ:Glob) where
 n:Nat
 H:Nat→Option Go.Obj
 ok:Γ n H
instance {Γ :Glob}:CoeOut (Base Γ) Nat:=⟨Base.n⟩
structure Kp (N0:Nat)(w:World)(X:Cell→Prop)(w':World)(X':Cell→Prop):Prop where
 os:w'.os=w.os
 tape:w'.tape=w.tape
 output:w'.output=w.output
 size:w.heap.size≤w'.heap.size
 fz: ∀c,c.1<w.heap.size→cfz w' c=cfz w c
 blk: ∀k,k<N0→w'.heap[k]? =w.heap[k]?
 keep: ∀c v,cat w c=some v→¬X c→cat w' c=some v∧¬X' c
theorem Kp.refl (N0:Nat)(w:World)(X:Cell→Prop):Kp N0 w X w X:=⟨rfl,rfl,rfl,Nat.le_refl _,fun _ _=>rfl,fun _ _=>rfl,fun _ _ h hx=>⟨h,hx⟩⟩
theorem Kp.trans {N0:Nat}{w w1 w2:World}{X X1 X2:Cell→Prop}(a:Kp N0 w X w1 X1)(b:Kp N0 w1 X1 w2 X2):Kp N0 w X w2 X2:=
 ⟨b.os.trans a.os,b.tape.trans a.tape,b.output.trans a.output,Nat.le_trans a.size b.size,fun c hc=>(b.fz c (Nat.lt_of_lt_of_le hc a.size)).trans (a.fz c hc),fun k hk=>(b.blk k hk).trans (a.blk k hk),
   fun c v h hx=>let⟨h1,h2⟩:=a.keep c v h hx;b.keep c v h1 h2⟩
theorem Kp.shrink {N0:Nat}{w w':World}{X X' X2:Cell→Prop}(a:Kp N0 w X w' X')(h: ∀c,X2 c→X' c):Kp N0 w X w' X2:=
 ⟨a.os,a.tape,a.output,a.size,a.fz,a.blk,fun c v h1 hx=>let⟨h2,h3⟩:=a.keep c v h1 hx;⟨h2,fun h4=>h3 (h c h4)⟩⟩
theorem VRel.mono {N0:Nat}{w w':World}{X X':Cell→Prop}{β:Nat→Cell}{v:Value}{a:AV}(h:VRel w X β v a)(k:Kp N0 w X w' X'):VRel w' X' β v a:=by
 induction h with
 |undef v=>exact .undef v
 |nov=>exact .nov
 |bool b=>exact .bool b
 |int k n=>exact .int k n
 |str s l h=>exact .str s l h
 |agg cs as hl hf h ih=>exact .agg cs as hl hf ih
 |tup cs as hl hf h ih=>exact .tup cs as hl hf ih
 |lst0 A cap g hg=>exact .lst0 A cap g hg
 |lst b o e cap g xs val hc hg hx hv h ih=>exact .lst b o e cap g xs val hc hg hx (fun j hj=>k.keep _ _ (hv j hj).1 (hv j hj).2) ih
 |arr A nm off len cap e ag hc hA=>exact .arr A nm off len cap e ag hc hA
 |arw A nm len cap e ag hc hA=>exact .arw A nm len cap e ag hc hA
 |ptr nm off=>exact .ptr nm off
 |ept b o off cs val hd hv h ih=>exact .ept b o off cs val hd (fun j hj=>k.keep _ _ (hv j hj).1 (hv j hj).2) ih
 |nilp=>exact .nilp
 |fn f cs as hl hf h ih=>exact .fn f cs as hl hf ih
 |fnB f bs as hl hd h ih=>exact .fnB f bs as hl hd ih
theorem dcell_refs2 {a:AV}(h:a.dcell=true):refs2 a=[]:=by
 cases a<;>simp_all[AV.dcell]
theorem delem_flat {xs:List AV}(h: ∀x∈xs,x.delem=true): ∀c∈xs.flatMap AV.cells,c.dcell=true:=by
 intro c hc
 obtain⟨x,hx,hc⟩:=List.mem_flatMap.1 hc
 have:=h x hx
 cases x with
 |agg cs=>simp only[AV.delem,List.all_eq_true]at this;exact this c hc
 |_=>simp only[AV.cells,List.mem_singleton]at hc;subst hc;exact this
theorem VRel.data {w:World}{X:Cell→Prop}{β β':Nat→Cell}{v:Value}{a:AV}(h:VRel w X β v a)(hd:a.dcell=true):VRel w X β' v a:=by
 induction h with
 |bool b=>exact .bool b
 |int k n=>exact .int k n
 |str s l h=>exact .str s l h
 |lst0 A cap g hg=>exact .lst0 A cap g hg
 |lst b o e cap g xs val hc hg hx hv h ih=>
  exact .lst b o e cap g xs val hc hg hx hv fun j hj=>ih j hj (delem_flat (fun x hx'=>(hx x hx').1) _ (List.getElem_mem hj))
 |_=>simp[AV.dcell]at hd
theorem VRel.deF {w:World}{X:Cell→Prop}{β β':Nat→Cell}{v:Value}{a:AV}(h:VRel w X β v a)(hd:a.delem=true):VRel w X β' v a:=by
 cases a with
 |agg cs=>
  simp only[AV.delem,List.all_eq_true]at hd
  cases h with
  |agg vs as hl hf h=>exact .agg vs cs hl hf fun i hi=>(h i hi).data (hd _ (List.getElem_mem _))
 |_=>exact h.data hd
theorem delem_notOwn {a:AV}(h:a.delem=true):a.notOwn=true:=by
 cases a with
 |lst g xs=>cases g<;>first|rfl|cases h
 |arw=>cases h
 |_=>rfl
section
variable {w:World} {X:Cell→Prop} {β β':Nat→Cell} (f:Nat→Nat)
theorem VRel.re1 {v:Value}{a:AV}(h:VRel w X β v a)(hp:a.isPtr=true)(hr: ∀o∈refs1 a,β' (f o)=β o):VRel w X β' v (ren1 f a):=by
 cases a with
 |ptr nm off=>
  cases h
  have:=hr nm (by simp)
  show VRel w X β' _ (.ptr (f nm) off)
  rw[←this];exact .ptr (f nm) off
 |_=>cases hp
theorem VRel.re2 {v:Value}{a:AV}(h:VRel w X β v a)(hf:a.flat1=true)(hr: ∀o∈refs2 a,β' (f o)=β o):VRel w X β' v (ren2 f a):=by
 cases a with
 |undef=>exact .undef v
 |nov=>cases h;exact .nov
 |bool b=>exact h.data rfl
 |int k n=>exact h.data rfl
 |str s=>exact h.data rfl
 |agg cs=>cases hf
 |tup cs=>cases hf
 |lst g xs=>
  cases h with
  |lst0 A cap g hg=>exact .lst0 A cap g hg
  |lst b o e cap g xs val hc hg hx hv h=>
   exact .lst b o e cap g xs val hc hg hx hv fun j hj=>(h j hj).data (delem_flat (fun x hx'=>(hx x hx').1) _ (List.getElem_mem hj))
 |arr nm off len e ag=>
  cases h with
  |arr A nm off len cap e ag hc hA=>
   have:=hr nm (by simp)
   exact .arr A (f nm) off len cap e ag hc (by rw[this];exact hA)
 |arw nm len e ag=>
  cases h with
  |arw A nm len cap e ag hc hA=>
   have:=hr nm (by simp)
   exact .arw A (f nm) len cap e ag hc (by rw[this];exact hA)
 |ptr nm off=>exact h.re1 f rfl hr
 |ept cs off=>
  cases h with
  |ept b o off cs val hd hv h=>exact .ept b o off cs val hd hv fun j hj=>(h j hj).data (hd _ (List.getElem_mem hj))
 |nilp=>cases h;exact .nilp
 |fn g as=>
  cases h with
  |fn g cs as hl hp h=>
   refine .fn g cs (as.map (ren1 f)) (by simpa using hl) ?_ ?_
   ·intro a ha
    obtain⟨a',ha',rfl⟩:=List.mem_map.1 ha
    have:=hp a' ha'
    cases a'<;>first|rfl|cases this
   ·intro i hi
    have hi':i<as.length:=hl▸hi
    have hm:as[i]∈as:=List.getElem_mem hi'
    simp only[List.getElem_map]
    exact(h i hi).re1 f (hp _ hm) fun o ho=>hr o (by simp only[refs2];exact List.mem_flatMap.2 ⟨_,hm,ho⟩)
  |fnB g bs as hl hd h=>exact .fnB g bs as hl hd fun i hi=>(h i hi).deF (hd _ (List.getElem_mem _))
theorem VRel.re3 {v:Value}{a:AV}(h:VRel w X β v a)(hf:a.flat2=true)(hr: ∀o∈refs3 a,β' (f o)=β o):VRel w X β' v (ren3 f a):=by
 cases a with
 |agg as=>
  cases h with
  |agg cs as hl hfl h=>
   refine .agg cs (as.map (ren2 f)) (by simpa using hl) ?_ ?_
   ·intro a ha
    obtain⟨a',ha',rfl⟩:=List.mem_map.1 ha
    obtain⟨h1,h2⟩:=hfl a' ha'
    refine⟨?_,?_⟩
    ·cases a'<;>first|rfl|cases h1
    ·cases a'<;>first|rfl|exact h2
   ·intro i hi
    have hi':i<as.length:=hl▸hi
    have hm:as[i]∈as:=List.getElem_mem hi'
    simp only[List.getElem_map]
    exact(h i hi).re2 f (hfl _ hm).1 fun o ho=>hr o (by simp only[refs3];exact List.mem_flatMap.2 ⟨_,hm,ho⟩)
 |tup cs=>cases hf
 |_=>exact h.re2 f rfl hr
theorem VRel.re {v:Value}{a:AV}(h:VRel w X β v a)(hr: ∀o∈refs a,β' (f o)=β o):VRel w X β' v (ren f a):=by
 cases a with
 |tup as=>
  cases h with
  |tup cs as hl hfl h=>
   refine .tup cs (as.map (ren3 f)) (by simpa using hl) ?_ ?_
   ·intro a ha
    obtain⟨a',ha',rfl⟩:=List.mem_map.1 ha
    obtain⟨h1,h2⟩:=hfl a' ha'
    refine⟨?_,?_⟩
    ·cases a'<;>first|rfl|cases h1
    ·cases a'<;>first|rfl|exact h2
   ·intro i hi
    have hi':i<as.length:=hl▸hi
    have hm:as[i]∈as:=List.getElem_mem hi'
    simp only[List.getElem_map]
    exact(h i hi).re3 f (hfl _ hm).1 fun o ho=>hr o (by simp only[refs];exact List.mem_flatMap.2 ⟨_,hm,ho⟩)
 |agg cs=>exact h.re3 f rfl hr
 |_=>exact h.re3 f rfl hr
end
theorem ren1_id (a:AV):ren1 id a=a:=by cases a<;>rfl
theorem ren2_id (a:AV):ren2 id a=a:=by
 cases a with
 |fn f cs=>simp only[ren2];rw[show ren1 id=id from funext ren1_id];simp
 |_=>rfl
theorem ren3_id (a:AV):ren3 id a=a:=by
 cases a with
 |agg cs=>simp only[ren3];rw[show ren2 id=id from funext ren2_id];simp
 |fn f cs=>exact ren2_id (.fn f cs)
 |_=>rfl
theorem ren_id (a:AV):ren id a=a:=by
 cases a with
 |tup vs=>simp only[ren];rw[show ren3 id=id from funext ren3_id];simp
 |agg cs=>exact ren3_id (.agg cs)
 |fn f cs=>exact ren3_id (.fn f cs)
 |_=>rfl
theorem VRel.base {w:World}{X:Cell→Prop}{β β':Nat→Cell}{v:Value}{a:AV}(h:VRel w X β v a)(hr: ∀o∈refs a,β' o=β o):VRel w X β' v a:=by
 have:=h.re (β':=β') id hr
 rwa [ren_id]at this
theorem VRel.cp {w:World}{X:Cell→Prop}{β:Nat→Cell}{v:Value}{a:AV}(h:VRel w X β v a):VRel w X β v a.cp:=by
 cases h with
 |lst0 A cap g hg=>cases g<;>first|exact .lst0 A cap _ hg|exact .lst0 A cap _ (by simp)
 |lst b o e cap g xs val hc hg hx hv h=>cases g<;>first|exact .lst b o e cap _ xs val hc hg hx hv h|exact .lst b o e cap _ xs val hc (by simp) hx hv h
 |undef v=>exact .undef v
 |nov=>exact .nov
 |bool b=>exact .bool b
 |int k n=>exact .int k n
 |str s l h=>exact .str s l h
 |agg cs as hl hf h=>exact .agg cs as hl hf h
 |tup cs as hl hf h=>exact .tup cs as hl hf h
 |arr A nm off len cap e ag hc hA=>exact .arr A nm off len cap e ag hc hA
 |arw A nm len cap e ag hc hA=>exact .arr A nm 0 len cap e ag hc fun h=>by rw[hA (by omega)];rfl
 |ptr nm off=>exact .ptr nm off
 |ept b o off cs val hd hv h=>exact .ept b o off cs val hd hv h
 |nilp=>exact .nilp
 |fn f cs as hl hf h=>exact .fn f cs as hl hf h
 |fnB f bs as hl hd h=>exact .fnB f bs as hl hd h
theorem VRel.no {w:World}{X:Cell→Prop}{β:Nat→Cell}{v:Value}{g:Gr}{xs:List AV}(h:VRel w X β v (.lst g xs)):VRel w X β v (.lst .no xs):=by
 cases h with
 |lst0 A cap g hg=>exact .lst0 A cap _ (by simp)
 |lst b o e cap g xs val hc hg hx hv h=>exact .lst b o e cap _ xs val hc (by simp) hx hv h
theorem VRel.dt {w:World}{X:Cell→Prop}{β:Nat→Cell}{v:Value}{a:AV}(h:VRel w X β v a):VRel w X β v a.dt:=by
 cases a with
 |lst g xs=>exact h.no
 |_=>exact h
inductive Key where
 |slot (k:Nat)
 |cell (o j:Nat)
 |obj (o:Nat)
 |val
 deriving DecidableEq
def XX (F:Cell→Prop)(Ow:Key→Cell→Prop)(c:Cell):Prop:=F c∨∃k,Ow k c
def OwnOk (S:Cell→Prop)(v:Value)(a:AV):Prop:=
 (∀e xs,a= .lst (.own e) xs→(∀x∈xs,x.cells.length=e)∧∀A len cap,v= .slice A len cap→len<cap→∃b o,A=some ⟨b,o,none⟩∧∀j,len*e≤j→j<cap*e→S (b,o+j))∧
 ∀nm n e ag,a= .arw nm n e ag→∀A len cap,v= .slice A len cap→len<cap→∃b o,A=some ⟨b,o,none⟩∧∀j,len*e≤j→j<cap*e→S (b,o+j)
theorem OwnOk.mono {S S':Cell→Prop}{v:Value}{a:AV}(h:OwnOk S v a)(hs: ∀c,S c→S' c):OwnOk S' v a:=
 ⟨fun e xs he=>⟨(h.1 e xs he).1,fun A len cap hv hl=>let⟨b,o,h1,h2⟩:=(h.1 e xs he).2 A len cap hv hl;⟨b,o,h1,fun j h3 h4=>hs _ (h2 j h3 h4)⟩⟩,
  fun nm n e ag he A len cap hv hl=>let⟨b,o,h1,h2⟩:=h.2 nm n e ag he A len cap hv hl;⟨b,o,h1,fun j h3 h4=>hs _ (h2 j h3 h4)⟩⟩
theorem OwnOk.of {S:Cell→Prop}{v:Value}{a:AV}(h:a.notOwn=true):OwnOk S v a:=⟨fun e xs he=>(by subst he;cases h),fun nm n e ag he=>(by subst he;cases h)⟩
theorem OwnOk.lst {S:Cell→Prop}{v:Value}{g:Gr}{xs:List AV}(h: ∀e ys,AV.lst g xs= .lst (.own e) ys→(∀x∈ys,x.cells.length=e)∧∀A len cap,v= .slice A len cap→len<cap→∃b o,A=some ⟨b,o,none⟩∧∀j,len*e≤j→j<cap*e→S (b,o+j)):OwnOk S v (.lst g xs):=
 ⟨h,fun _ _ _ _ he=>(by cases he)⟩
theorem OwnOk.arw {S:Cell→Prop}{v:Value}{nm n e:Nat}{ag:Bool}(h: ∀A len cap,v= .slice A len cap→len<cap→∃b o,A=some ⟨b,o,none⟩∧∀j,len*e≤j→j<cap*e→S (b,o+j)):OwnOk S v (.arw nm n e ag):=
 ⟨fun _ _ he=>(by cases he),fun _ _ _ _ he=>(by cases he;exact h)⟩
theorem notOwn_cp (a:AV):a.cp.notOwn=true:=by
 cases a with
 |lst g xs=>cases g<;>rfl
 |_=>rfl
theorem ownOk_cp {S:Cell→Prop}{v:Value}(a:AV):OwnOk S v a.cp:=.of (notOwn_cp a)
structure Inv {Γ:Glob}(N0:Base Γ)(w:World)(F:Cell→Prop)(Ow:Key→Cell→Prop):Prop where
 apart: ∀k k' c,Ow k c→Ow k' c→k=k'
 apartF: ∀k c,Ow k c→¬F c
 live: ∀c,XX F Ow c→(∃v,cat w c=some v)∧cfz w c=false
 low: ∀c,XX F Ow c→N0≤c.1
 base:N0.n≤w.heap.size
 glob: ∀k,k<N0.n→w.heap[k]? =N0.H k
def place (β:Nat→Cell)(nm j:Nat):Cell:=((β nm).1,(β nm).2+j)
structure ObjOk (w:World)(X:Cell→Prop)(β:Nat→Cell)(Ow:Key→Cell→Prop)(nm:Nat)(ob:Obj):Prop where
 cell: ∀j (hj:j<ob.cells.length),ob.cells[j].isCell=true∧∃u,cat w (place β nm j)=some u∧VRel w X β u ob.cells[j]∧OwnOk (Ow (.cell nm j)) u ob.cells[j]
 wr:ob.wr=true→∀j,j<ob.cells.length→Ow (.obj nm) (place β nm j)
 rd:ob.wr=false→∀j,j<ob.cells.length→¬X (place β nm j)
structure GR {Γ:Glob}(N0:Base Γ)(w:World)(F:Cell→Prop)(β:Nat→Cell)(Ow:Key→Cell→Prop)(sl:Nat→Value)(env:Env)(h:Heap)(v:Value)(a:AV):Prop where
 inv:Inv N0 w F Ow
 slot: ∀k,VRel w (XX F Ow) β (sl k) (get env k)∧OwnOk (Ow (.slot k)) (sl k) (get env k)
 val:VRel w (XX F Ow) β v a∧OwnOk (Ow .val) v a
 obj: ∀nm ob,hget h nm=some ob→ObjOk w (XX F Ow) β Ow nm ob
 refE: ∀k,∀o∈refs (get env k),(hget h o).isSome
 refV: ∀o∈refs a,(hget h o).isSome
 refH: ∀nm ob,hget h nm=some ob→∀c∈ob.cells,∀o∈refs2 c,(hget h o).isSome
theorem get_cons (d:Nat)(a:AV)(env:Env)(k:Nat):get ((d,a)::env) k=if d=k then a else get env k:=by
 simp only[get]
 by_cases h:d=k
 ·subst h;simp
 ·have hb:Nat.beq d k=false:=by
   cases hb:Nat.beq d k
   ·rfl
   ·exact absurd (Nat.eq_of_beq_eq_true hb) h
  simp[hb,h]
theorem hget_cons (d:Nat)(o:Obj)(h:Heap)(k:Nat):hget ((d,o)::h) k=if d=k then some o else hget h k:=by
 simp only[hget]
 by_cases hd:d=k
 ·subst hd;simp
 ·have hb:Nat.beq d k=false:=by
   cases hb:Nat.beq d k
   ·rfl
   ·exact absurd (Nat.eq_of_beq_eq_true hb) hd
  simp[hb,hd]
def dropK (Ow:Key→Cell→Prop)(p:Key→Prop):Key→Cell→Prop:=fun k c=> ¬p k∧Ow k c
theorem XX_drop {F:Cell→Prop}{Ow:Key→Cell→Prop}{p:Key→Prop}{c:Cell}(h:XX F (dropK Ow p) c):XX F Ow c:=
 h.imp id fun⟨k,hk⟩=>⟨k,hk.2⟩
theorem Inv.le {Γ:Glob}{N0:Base Γ}{w:World}{F:Cell→Prop}{Ow Ow':Key→Cell→Prop}(i:Inv N0 w F Ow)(f: ∀k c,Ow' k c→∃k',Ow k' c)
 (ap: ∀k k' c,Ow' k c→Ow' k' c→k=k'):Inv N0 w F Ow':=
 have hx: ∀c,XX F Ow' c→XX F Ow c:=fun c h=>h.imp id fun⟨k,hk⟩=>f k c hk
 ⟨ap,fun k c hk=>let⟨k',h'⟩:=f k c hk;i.apartF k' c h',fun c h=>i.live c (hx c h),fun c h=>i.low c (hx c h),i.base,i.glob⟩
theorem Inv.drop {Γ:Glob}{N0:Base Γ}{w:World}{F:Cell→Prop}{Ow:Key→Cell→Prop}(i:Inv N0 w F Ow)(p:Key→Prop):Inv N0 w F (dropK Ow p):=
 i.le (fun k _ h=>⟨k,h.2⟩) fun k k' c h h'=>i.apart k k' c h.2 h'.2
theorem ObjOk.le {w:World}{F:Cell→Prop}{β:Nat→Cell}{Ow Ow':Key→Cell→Prop}{nm:Nat}{ob:Obj}(g:ObjOk w (XX F Ow) β Ow nm ob)
 (hx: ∀c,XX F Ow' c→XX F Ow c) (h1: ∀j c,Ow (.cell nm j) c→Ow' (.cell nm j) c) (h2: ∀c,Ow (.obj nm) c→Ow' (.obj nm) c):ObjOk w (XX F Ow') β Ow' nm ob:=
 ⟨fun j hj=>let⟨a,u,b,c,d⟩:=g.cell j hj;⟨a,u,b,c.mono ((Kp.refl 0 w _).shrink hx),d.mono (h1 j)⟩,fun hw j hj=>h2 _ (g.wr hw j hj),fun hw j hj hx'=>g.rd hw j hj (hx _ hx')⟩
section
variable {Γ:Glob} {N0:Base Γ} {w:World} {F:Cell→Prop} {β:Nat→Cell} {Ow:Key→Cell→Prop} {sl:Nat→Value} {env:Env} {h:Heap} {v:Value} {a:AV}
theorem GR.pend (g:GR N0 w F β Ow sl env h v a){v':Value}{a':AV}(hv:VRel w (XX F Ow) β v' a')(ho:OwnOk (fun _=>False) v' a')(hr: ∀o∈refs a',(hget h o).isSome):
 GR N0 w F β (dropK Ow (· = .val)) sl env h v' a':=
 have hx: ∀c,XX F (dropK Ow (· = .val)) c→XX F Ow c:=fun _ h=>XX_drop h
 have k:=(Kp.refl N0 w (XX F Ow)).shrink hx
 {inv:=g.inv.drop _
  slot:=fun j=>⟨(g.slot j).1.mono k,(g.slot j).2.mono fun c hc=>⟨by simp,hc⟩⟩
  val:=⟨hv.mono k,ho.mono fun _ hf=>hf.elim⟩
  obj:=fun nm ob ho=>(g.obj nm ob ho).le hx (fun j c hc=>⟨by simp,hc⟩) fun c hc=>⟨by simp,hc⟩
  refE:=g.refE
  refV:=hr
  refH:=g.refH}
theorem GR.pend' (g:GR N0 w F β Ow sl env h v a){v':Value}{a':AV}(hv:VRel w (XX F Ow) β v' a')(ho:OwnOk (Ow .val) v' a')(hr: ∀o∈refs a',(hget h o).isSome):
 GR N0 w F β Ow sl env h v' a':=⟨g.inv,g.slot,⟨hv,ho⟩,g.obj,g.refE,hr,g.refH⟩
theorem GR.noval (g:GR N0 w F β Ow sl env h v a)(v':Value):GR N0 w F β (dropK Ow (· = .val)) sl env h v' .undef:=
 g.pend (.undef v') (.of rfl) (by simp)
def putOw (Ow:Key→Cell→Prop)(d:Nat):Key→Cell→Prop:=fun k c=>if k= .slot d then Ow .val c else if k= .val then False else Ow k c
theorem GR.put (g:GR N0 w F β Ow sl env h v a)(d:Nat)(u:Value):GR N0 w F β (putOw Ow d) (fun k=>if d=k then v else sl k) ((d,a)::env) h u .undef:=
 have hf: ∀k c,putOw Ow d k c→∃k',Ow k' c:=by
  intro k c hk
  simp only[putOw]at hk
  split at hk
  ·exact⟨_,hk⟩
  ·split at hk
   ·exact hk.elim
   ·exact⟨_,hk⟩
 have hx: ∀c,XX F (putOw Ow d) c→XX F Ow c:=fun c h=>h.imp id fun⟨k,hk⟩=>hf k c hk
 have kp:=(Kp.refl N0 w (XX F Ow)).shrink hx
 {inv:=g.inv.le hf (by
   intro k k' c h1 h2
   simp only[putOw]at h1 h2
   split at h1<;>split at h2
   ·rename_i e1 e2;rw[e1,e2]
   ·split at h2
    ·exact h2.elim
    ·rename_i e1 e2 e3
     exact absurd (g.inv.apart _ _ _ h1 h2).symm e3
   ·split at h1
    ·exact h1.elim
    ·rename_i e1 e2 e3
     exact absurd (g.inv.apart _ _ _ h1 h2) e3
   ·split at h1
    ·exact h1.elim
    ·split at h2
     ·exact h2.elim
     ·exact g.inv.apart _ _ _ h1 h2)
  slot:=by
   intro k
   rw[get_cons]
   by_cases hk:d=k
   ·subst hk
    simp only[if_true]
    exact⟨g.val.1.mono kp,g.val.2.mono fun c hc=>by simp[putOw,hc]⟩
   ·simp only[hk,if_false]
    exact⟨(g.slot k).1.mono kp,(g.slot k).2.mono fun c hc=>by
     have: ¬k=d:=fun e=>hk e.symm
     simp[putOw,hc,this]⟩
  val:=⟨.undef u,.of rfl⟩
  obj:=fun nm ob ho=>(g.obj nm ob ho).le hx (fun j c hc=>by simp[putOw,hc]) fun c hc=>by simp[putOw,hc]
  refE:=by
   intro k
   rw[get_cons]
   by_cases hk:d=k
   ·simp only[hk,if_true];exact g.refV
   ·simp only[hk,if_false];exact g.refE k
  refV:=by simp
  refH:=g.refH}
def takeOw (Ow:Key→Cell→Prop)(d:Nat):Key→Cell→Prop:=fun k c=>if k= .val then Ow (.slot d) c else if k= .slot d then False else Ow k c
theorem refs_cp (a:AV):refs a.cp=refs a:=by
 cases a with
 |lst g xs=>cases g<;>rfl
 |_=>rfl
theorem GR.take (g:GR N0 w F β Ow sl env h v a)(d:Nat):GR N0 w F β (takeOw Ow d) sl ((d,(get env d).cp)::env) h (sl d) (get env d):=
 have hf: ∀k c,takeOw Ow d k c→∃k',Ow k' c:=by
  intro k c hk
  simp only[takeOw]at hk
  split at hk
  ·exact⟨_,hk⟩
  ·split at hk
   ·exact hk.elim
   ·exact⟨_,hk⟩
 have hx: ∀c,XX F (takeOw Ow d) c→XX F Ow c:=fun c h=>h.imp id fun⟨k,hk⟩=>hf k c hk
 have kp:=(Kp.refl N0 w (XX F Ow)).shrink hx
 {inv:=g.inv.le hf (by
   intro k k' c h1 h2
   simp only[takeOw]at h1 h2
   split at h1<;>split at h2
   ·rename_i e1 e2;rw[e1,e2]
   ·split at h2
    ·exact h2.elim
    ·rename_i e1 e2 e3
     exact absurd (g.inv.apart _ _ _ h1 h2).symm e3
   ·split at h1
    ·exact h1.elim
    ·rename_i e1 e2 e3
     exact absurd (g.inv.apart _ _ _ h1 h2) e3
   ·split at h1
    ·exact h1.elim
    ·split at h2
     ·exact h2.elim
     ·exact g.inv.apart _ _ _ h1 h2)
  slot:=by
   intro k
   rw[get_cons]
   by_cases hk:d=k
   ·subst hk
    simp only[if_true]
    exact⟨((g.slot d).1.mono kp).cp,ownOk_cp _⟩
   ·simp only[hk,if_false]
    exact⟨(g.slot k).1.mono kp,(g.slot k).2.mono fun c hc=>by
     have: ¬k=d:=fun e=>hk e.symm
     simp[takeOw,hc,this]⟩
  val:=⟨(g.slot d).1.mono kp,(g.slot d).2.mono fun c hc=>by simp[takeOw,hc]⟩
  obj:=fun nm ob ho=>(g.obj nm ob ho).le hx (fun j c hc=>by simp[takeOw,hc]) fun c hc=>by simp[takeOw,hc]
  refE:=by
   intro k
   rw[get_cons]
   by_cases hk:d=k
   ·subst hk;simp only[if_true,refs_cp];exact g.refE d
   ·simp only[hk,if_false];exact g.refE k
  refV:=g.refE d
  refH:=g.refH}
structure Ext (w w':World):Prop where
 os:w'.os=w.os
 tape:w'.tape=w.tape
 output:w'.output=w.output
 size:w.heap.size≤w'.heap.size
 blk: ∀k,k<w.heap.size→w'.heap[k]? =w.heap[k]?
theorem cat_lt {w:World}{c:Cell}{v:Value}(h:cat w c=some v):c.1<w.heap.size:=by
 unfold cat World.cell? at h
 rcases Nat.lt_or_ge c.1 w.heap.size with hl|hl
 ·exact hl
 ·simp[Array.getElem?_eq_none hl]at h
theorem Ext.cat {w w':World}(x:Ext w w'){c:Cell}(h:c.1<w.heap.size):cat w' c=cat w c:=by
 unfold PF.cat World.cell?
 rw[show w'.heap[(⟨c.1,c.2,none⟩:Addr).block]? =w.heap[(⟨c.1,c.2,none⟩:Addr).block]? from x.blk _ h]
theorem Ext.cfz {w w':World}(x:Ext w w'){c:Cell}(h:c.1<w.heap.size):cfz w' c=cfz w c:=by
 unfold PF.cfz World.frozen?
 rw[show w'.heap[(⟨c.1,c.2,none⟩:Addr).block]? =w.heap[(⟨c.1,c.2,none⟩:Addr).block]? from x.blk _ h]
theorem Ext.refl (w:World):Ext w w:=⟨rfl,rfl,rfl,Nat.le_refl _,fun _ _=>rfl⟩
theorem Ext.trans {a b c:World}(x:Ext a b)(y:Ext b c):Ext a c:=
 ⟨y.os.trans x.os,y.tape.trans x.tape,y.output.trans x.output,Nat.le_trans x.size y.size,fun k hk=>(y.blk k (Nat.lt_of_lt_of_le hk x.size)).trans (x.blk k hk)⟩
theorem Ext.alloc (w:World)(o:Go.Obj):Ext w {w with heap:=w.heap.push o}:=
 ⟨rfl,rfl,rfl,by simp,fun k hk=>by simp only[Array.getElem?_push];rw[if_neg (by omega)]⟩
theorem Ext.draw (w:World)(n:Nat):Ext w {w with drawn:=n}:=⟨rfl,rfl,rfl,Nat.le_refl _,fun _ _=>rfl⟩
def FF (F:Cell→Prop)(w w':World):Prop:= ∀c,F c→cat w' c=cat w c∧cfz w' c=cfz w c
theorem FF.refl (F:Cell→Prop)(w:World):FF F w w:=fun _ _=>⟨rfl,rfl⟩
theorem FF.trans {F:Cell→Prop}{a b c:World}(x:FF F a b)(y:FF F b c):FF F a c:=fun d hd=>⟨(y d hd).1.trans (x d hd).1,(y d hd).2.trans (x d hd).2⟩
def addOw (Ow:Key→Cell→Prop)(K:Key)(S:Cell→Prop):Key→Cell→Prop:=fun k c=>if k=K then S c else Ow k c
theorem GR.grow (g:GR N0 w F β Ow sl env h v a){w':World}(x:Ext w w')(K:Key)(S:Cell→Prop)(hK: ∀c,¬Ow K c)
 (hS: ∀c,S c→w.heap.size≤c.1∧(∃u,cat w' c=some u)∧cfz w' c=false):
 GR N0 w' F β (addOw Ow K S) sl env h v a∧Kp N0 w (XX F Ow) w' (XX F (addOw Ow K S))∧FF F w w':=by
 have hX: ∀c,XX F (addOw Ow K S) c→XX F Ow c∨S c:=by
  intro c hc
  rcases hc with hc|⟨k,hk⟩
  ·exact .inl (.inl hc)
  ·simp only[addOw]at hk
   split at hk
   ·exact .inr hk
   ·exact .inl (.inr ⟨k,hk⟩)
 have kp:Kp N0 w (XX F Ow) w' (XX F (addOw Ow K S)):=
  ⟨x.os,x.tape,x.output,x.size,fun c hc=>x.cfz hc,fun k hk=>x.blk k (Nat.lt_of_lt_of_le hk g.inv.base),fun c u hc hx=>by
    have hl:=cat_lt hc
    refine⟨(x.cat hl).trans hc,fun h2=> ?_⟩
    rcases hX c h2 with h3|h3
    ·exact hx h3
    ·have:=(hS c h3).1;omega⟩
 have live: ∀c,XX F Ow c→cat w' c=cat w c∧cfz w' c=cfz w c:=by
  intro c hc
  obtain⟨⟨u,hu⟩,_⟩:=g.inv.live c hc
  have hl:=cat_lt hu
  exact⟨x.cat hl,x.cfz hl⟩
 refine⟨?_,kp,fun c hc=>live c (.inl hc)⟩
 have up: ∀k c,Ow k c→addOw Ow K S k c:=by
  intro k c hc
  simp only[addOw]
  split
  ·rename_i e;subst e;exact absurd hc (hK c)
  ·exact hc
 exact{
  inv:={
   apart:=by
    intro k k' c h1 h2
    simp only[addOw]at h1 h2
    split at h1<;>split at h2
    ·rename_i e1 e2;rw[e1,e2]
    ·have h3:=(hS c h1).1
     obtain⟨⟨u,hu⟩,_⟩:=g.inv.live c (.inr ⟨_,h2⟩)
     have:=cat_lt hu;omega
    ·have h3:=(hS c h2).1
     obtain⟨⟨u,hu⟩,_⟩:=g.inv.live c (.inr ⟨_,h1⟩)
     have:=cat_lt hu;omega
    ·exact g.inv.apart _ _ _ h1 h2
   apartF:=by
    intro k c h1 h2
    simp only[addOw]at h1
    split at h1
    ·have h3:=(hS c h1).1
     obtain⟨⟨u,hu⟩,_⟩:=g.inv.live c (.inl h2)
     have:=cat_lt hu;omega
    ·exact g.inv.apartF _ _ h1 h2
   live:=by
    intro c hc
    rcases hX c hc with h1|h1
    ·obtain⟨a1,a2⟩:=live c h1
     rw[a1,a2];exact g.inv.live c h1
    ·exact(hS c h1).2
   low:=by
    intro c hc
    rcases hX c hc with h1|h1
    ·exact g.inv.low c h1
    ·have:=(hS c h1).1;have:=g.inv.base;omega
   base:=Nat.le_trans g.inv.base x.size
   glob:=fun k hk=>(kp.blk k hk).trans (g.inv.glob k hk)}
  slot:=fun k=>⟨(g.slot k).1.mono kp,(g.slot k).2.mono (up _)⟩
  val:=⟨g.val.1.mono kp,g.val.2.mono (up _)⟩
  obj:=fun nm ob ho=>by
   have q:=g.obj nm ob ho
   refine⟨fun j hj=> ?_,fun hw j hj=>up _ _ (q.wr hw j hj),fun hw j hj hx=> ?_⟩
   ·obtain⟨c1,u,c2,c3,c4⟩:=q.cell j hj
    exact⟨c1,u,(x.cat (cat_lt c2)).trans c2,c3.mono kp,c4.mono (up _)⟩
   ·obtain⟨c1,u,c2,c3,c4⟩:=q.cell j hj
    exact(kp.keep _ _ c2 (q.rd hw j hj)).2 hx
  refE:=g.refE
  refV:=g.refV
  refH:=g.refH}
theorem GR.newObj (g:GR N0 w F β Ow sl env h v a){nm:Nat}(hn:hget h nm= .none)(b o:Nat)(ob:Obj)
 (hob: ∀j (hj:j<ob.cells.length),ob.cells[j].isCell=true∧(∀r∈refs2 ob.cells[j],(hget h r).isSome)∧∃u,cat w (b,o+j)=some u∧VRel w (XX F Ow) β u ob.cells[j]∧∀S,OwnOk S u ob.cells[j])
 (hw:ob.wr=true) (ho: ∀j,j<ob.cells.length→Ow (.obj nm) (b,o+j)):
 GR N0 w F (fun k=>if k=nm then(b,o)else β k) Ow sl env ((nm,ob)::h) v a∧(∀u x,(∀r∈refs x,(hget h r).isSome)→VRel w (XX F Ow) β u x→VRel w (XX F Ow) (fun k=>if k=nm then(b,o)else β k) u x):=by
 have hb: ∀u x,(∀r∈refs x,(hget h r).isSome)→VRel w (XX F Ow) β u x→VRel w (XX F Ow) (fun k=>if k=nm then(b,o)else β k) u x:=by
  intro u x hr hv
  refine hv.base fun r h1=> ?_
  have h2:=hr r h1
  have: ¬r=nm:=fun e=>by subst e;rw[hn]at h2;cases h2
  simp[this]
 have hb2: ∀u x,AV.isCell x=true→(∀r∈refs2 x,(hget h r).isSome)→VRel w (XX F Ow) β u x→VRel w (XX F Ow) (fun k=>if k=nm then(b,o)else β k) u x:=by
  intro u x hc hr hv
  refine hb u x ?_ hv
  have:refs x=refs2 x:=by cases x<;>first|rfl|cases hc
  rw[this];exact hr
 have hs: ∀r,(hget h r).isSome=true→(hget ((nm,ob)::h) r).isSome=true:=by
  intro r hr
  rw[hget_cons];split
  ·rfl
  ·exact hr
 refine⟨⟨g.inv,fun k=>⟨hb _ _ (g.refE k) (g.slot k).1,(g.slot k).2⟩,⟨hb _ _ g.refV g.val.1,g.val.2⟩,?_,fun k r hr=>hs r (g.refE k r hr),fun r hr=>hs r (g.refV r hr),?_⟩,hb⟩
 ·intro n2 ob2 h2
  rw[hget_cons]at h2
  by_cases e:nm=n2
  ·subst e
   simp only[if_true,zsi]at h2
   subst h2
   refine⟨fun j hj=> ?_,fun _ j hj=> ?_,fun hf=>by rw[hw]at hf;cases hf⟩
   ·obtain⟨c1,c3,u,c4,c5,c6⟩:=hob j hj
    refine⟨c1,u,by simpa [place]using c4,hb2 _ _ c1 c3 c5,c6 _⟩
   ·simpa [place]using ho j hj
  ·simp only[e,if_false]at h2
   have q:=g.obj n2 ob2 h2
   have e': ¬n2=nm:=fun h=>e h.symm
   refine⟨fun j hj=> ?_,fun hw j hj=> ?_,fun hw j hj=> ?_⟩
   ·obtain⟨c1,u,c2,c3,c4⟩:=q.cell j hj
    refine⟨c1,u,by simpa [place,e']using c2,hb2 _ _ c1 ?_ c3,c4⟩
    exact g.refH n2 ob2 h2 _ (List.getElem_mem hj)
   ·simpa [place,e']using q.wr hw j hj
   ·simpa [place,e']using q.rd hw j hj
 ·intro n2 ob2 h2 c hc r hr
  rw[hget_cons]at h2
  by_cases e:nm=n2
  ·subst e
   simp only[if_true,zsi]at h2
   subst h2
   obtain⟨j,hj,rfl⟩:=List.getElem_of_mem hc
   exact hs r ((hob j hj).2.1 r hr)
  ·simp only[e,if_false]at h2
   exact hs r (g.refH n2 ob2 h2 c hc r hr)
end
def wput (w:World)(b o:Nat):List Value→World
 | []=>w
 |u::r=>wput (w.setCell ⟨b,o,none⟩ u) b (o+1) r
theorem setCell_cat (w:World)(b o:Nat)(u:Value)(c:Cell):cat (w.setCell ⟨b,o,none⟩ u) c=if c=(b,o)then(cat w c).map (fun _=>u)else cat w c:=by
 obtain⟨c1,c2⟩:=c
 unfold cat World.cell? World.setCell
 simp only[Array.getElem?_modify]
 by_cases hb:b=c1
 ·subst hb
  simp only[if_true,Option.isSome_none,Bool.false_eq_true,if_false]
  cases hq:w.heap[b]? with
  |none=>simp
  |some ob=>
   cases ob with
   |cells cs e fr=>
    simp only[Option.map_some]
    by_cases ho:c2=o
    ·subst ho
     simp only[if_true,Array.getElem?_setIfInBounds]
     by_cases hl:c2<cs.size
     ·simp[hl]
     ·simp[hl]
    ·have: ¬((b,c2):Cell)=(b,o):=by simp[ho]
     simp only[this,if_false,Array.getElem?_setIfInBounds]
     rw[if_neg (fun e=>ho e.symm)]
   |_=>simp
 ·have: ¬((c1,c2):Cell)=(b,o):=by simp;intro e;exact absurd e.symm hb
  simp[hb,this]
theorem setCell_cfz (w:World)(b o:Nat)(u:Value)(c:Cell):cfz (w.setCell ⟨b,o,none⟩ u) c=cfz w c:=by
 obtain⟨c1,c2⟩:=c
 unfold cfz World.frozen? World.setCell
 simp only[Array.getElem?_modify]
 by_cases hb:b=c1
 ·subst hb
  simp only[if_true]
  cases hq:w.heap[b]? with
  |none=>rfl
  |some ob=>cases ob<;>rfl
 ·simp[hb]
theorem wput_cat (b:Nat)(us:List Value): ∀(w:World) (o:Nat) (c:Cell),
 cat (wput w b o us) c=if c.1=b∧o≤c.2∧c.2<o+us.length then(cat w c).map (fun _=>us.getD (c.2-o) (.tuple #[]))else cat w c:=by
 induction us with
 |nil=>intro w o c;simp only[wput,List.length_nil];rw[if_neg (by omega)]
 |cons u r ih=>
  intro w o c
  simp only[wput,ih,setCell_cat,List.length_cons]
  obtain⟨c1,c2⟩:=c
  simp only[zpi]
  by_cases h1:c1=b
  ·subst h1
   by_cases h2:c2=o
   ·subst h2
    rw[if_neg (by omega),if_pos ⟨rfl,rfl⟩,if_pos (by omega)]
    simp
   ·by_cases h3:o+1≤c2∧c2<o+1+r.length
    ·rw[if_pos ⟨rfl,h3⟩,if_neg (by simp[h2]),if_pos (by omega)]
     obtain⟨d,hd⟩: ∃d,c2-o=d+1:=⟨c2-o-1,by omega⟩
     rw[hd,show c2-(o+1)=d from by omega]
     simp
    ·rw[if_neg (by simpa using h3),if_neg (by simp[h2]),if_neg (by omega)]
  ·rw[if_neg (by simp[h1]),if_neg (by simp[h1]),if_neg (by simp[h1])]
theorem wput_cfz (b:Nat)(us:List Value): ∀(w:World) (o:Nat) (c:Cell),cfz (wput w b o us) c=cfz w c:=by
 induction us with
 |nil=>intro w o c;rfl
 |cons u r ih=>intro w o c;simp only[wput,ih,setCell_cfz]
theorem wput_size (b:Nat)(us:List Value): ∀(w:World) (o:Nat),(wput w b o us).heap.size=w.heap.size:=by
 induction us with
 |nil=>intro w o;rfl
 |cons u r ih=>intro w o;simp only[wput,ih];simp[World.setCell]
theorem wput_blk (b:Nat)(us:List Value): ∀(w:World) (o k:Nat),k≠b→(wput w b o us).heap[k]? =w.heap[k]? :=by
 induction us with
 |nil=>intro w o k _;rfl
 |cons u r ih=>
  intro w o k hk
  simp only[wput,ih _ _ _ hk,World.setCell,Array.getElem?_modify]
  rw[if_neg (fun e=>hk e.symm)]
theorem wput_rest (b:Nat)(us:List Value): ∀(w:World) (o:Nat),(wput w b o us).os=w.os∧(wput w b o us).tape=w.tape∧(wput w b o us).output=w.output:=by
 induction us with
 |nil=>intro w o;exact⟨rfl,rfl,rfl⟩
 |cons u r ih=>intro w o;exact ih _ _
theorem add_at (b o n:Nat):(⟨b,o,none⟩:Addr).add n=⟨b,o+n,none⟩:=by
 unfold Addr.add;split
 ·subst_vars;rfl
 ·rfl
theorem run_put {P:Program}(b o:Nat)(us:List Value): ∀(i:Nat) (w:World),(∀u∈us,u.oneCell'=true)→
 (∀j,j<us.length→(∃v,cat w (b,o+i+j)=some v)∧cfz w (b,o+i+j)=false)→(storeCells ⟨b,o,none⟩ us i).run P w= .ok () (wput w b (o+i) us):=by
 induction us with
 |nil=>intro i w _ _;rfl
 |cons u r ih=>
  intro i w h1 h2
  obtain⟨⟨v,hv⟩,hf⟩:=h2 0 (by simp)
  simp only[Nat.add_zero]at hv hf
  have e:(storeCells ⟨b,o,none⟩ (u::r) i)=(store ((⟨b,o,none⟩:Addr).add i) u >>= fun _=>storeCells ⟨b,o,none⟩ r (i+1)):=rfl
  rw[e,Sem.run_bind,add_at,run_store _ _ _ _ _ (h1 u (by simp))]
  rw[show w.cell? ⟨b,o+i,none⟩=some v from hv]
  simp only
  rw[show w.frozen? ⟨b,o+i,none⟩=false from hf]
  simp only[Bool.false_eq_true,if_false,Result.andThen_ok]
  rw[ih (i+1) _ (fun u hu=>h1 u (by simp[hu])) ?_]
  ·rfl
  ·intro j hj
   obtain⟨⟨v',hv'⟩,hf'⟩:=h2 (j+1) (by simp;omega)
   rw[setCell_cat,setCell_cfz]
   have e1:o+(i+1)+j=o+i+(j+1):=by omega
   rw[e1]
   refine⟨?_,hf'⟩
   rw[if_neg (by simp)]
   exact⟨v',hv'⟩
theorem VRel.oneCell {w:World}{X:Cell→Prop}{β:Nat→Cell}{v:Value}{a:AV}(h:VRel w X β v a)(hc:a.isCell=true):v.oneCell'=true:=by
 cases h<;>first|rfl|cases hc
def stOw (Ow:Key→Cell→Prop)(nm off n:Nat):Key→Cell→Prop:=fun k c=>
 match k with
 | .val=>False
 | .cell o j=>if o=nm∧off≤j∧j<off+n then(if n=1 then Ow .val c else False)else Ow k c
 |_=>Ow k c
theorem over_get (cs vs r:List AV)(h:over cs vs=some r):r.length=cs.length∧∀j,j<cs.length→r[j]? =if j<vs.length then vs[j]? else cs[j]? :=by
 induction vs generalizing cs r with
 |nil=>
  have:r=cs:=by cases cs<;>simpa [over]using h.symm
  subst this;simp
 |cons v vs ih=>
  cases cs with
  |nil=>cases h
  |cons c cs=>
   simp only[over]at h
   split at h
   ·rename_i r' h'
    injection h with h;subst h
    obtain⟨h1,h2⟩:=ih _ _ h'
    refine⟨by simp[h1],fun j hj=> ?_⟩
    cases j with
    |zero=>simp
    |succ j=>simp only[List.getElem?_cons_succ,List.length_cons];rw[h2 j (by simpa using hj)];simp
   ·cases h
theorem over_len (cs vs r:List AV)(h:over cs vs=some r):vs.length≤cs.length:=by
 induction vs generalizing cs r with
 |nil=>simp
 |cons v vs ih=>
  cases cs with
  |nil=>cases h
  |cons c cs=>
   simp only[over]at h
   split at h
   ·rename_i r' h';have:=ih _ _ h';simpa using this
   ·cases h
theorem storeC_get (off:Nat): ∀(cs vs r:List AV),storeC cs off vs=some r→r.length=cs.length∧off+vs.length≤cs.length∧∀j,j<cs.length→r[j]? =if off≤j∧j<off+vs.length then vs[j-off]? else cs[j]? :=by
 induction off with
 |zero=>
  intro cs vs r h
  have h':over cs vs=some r:=by cases cs<;>exact h
  obtain⟨h1,h2⟩:=over_get cs vs r h'
  refine⟨h1,by have:=over_len cs vs r h';omega,fun j hj=> ?_⟩
  rw[h2 j hj]
  by_cases hv:j<vs.length
  ·rw[if_pos hv,if_pos (by omega)];simp
  ·rw[if_neg hv,if_neg (by omega)]
 |succ off ih=>
  intro cs vs r h
  cases cs with
  |nil=>cases h
  |cons c cs=>
   simp only[storeC]at h
   split at h
   ·rename_i r' h'
    injection h with h;subst h
    obtain⟨h1,h2,h3⟩:=ih cs vs r' h'
    refine⟨by simp[h1],by simp;omega,fun j hj=> ?_⟩
    cases j with
    |zero=>simp
    |succ j=>
     simp only[List.getElem?_cons_succ]
     rw[h3 j (by simpa using hj)]
     by_cases hv:off≤j∧j<off+vs.length
     ·rw[if_pos hv,if_pos (by omega),show j+1-(off+1)=j-off from by omega]
     ·rw[if_neg hv,if_neg (by omega)]
   ·cases h
theorem hget_hset (h:Heap)(nm:Nat)(ob o:Obj)(hn:hget h nm=some o)(k:Nat):hget (hset h nm ob) k=if k=nm then some ob else hget h k:=by
 induction h with
 |nil=>cases hn
 |cons p r ih=>
  obtain⟨j,o'⟩:=p
  simp only[hget,hset]at hn ⊢
  cases hb:Nat.beq j nm with
  |true=>
   have:=Nat.eq_of_beq_eq_true hb;subst this
   simp only
   by_cases hk:j=k
   ·subst hk;simp
   ·have hb2:Nat.beq j k=false:=by
     cases hb2:Nat.beq j k
     ·rfl
     ·exact absurd (Nat.eq_of_beq_eq_true hb2) hk
    have: ¬k=j:=fun e=>hk e.symm
    simp[hget,hb2,this]
  |false=>
   rw[hb]at hn
   simp only[hget]
   rw[ih hn]
   by_cases hk:j=k
   ·subst hk
    have hne: ¬j=nm:=fun e=>by subst e;simp at hb
    simp[hne]
   ·have hb2:Nat.beq j k=false:=by
     cases hb2:Nat.beq j k
     ·rfl
     ·exact absurd (Nat.eq_of_beq_eq_true hb2) hk
    simp[hb2]
section
variable {Γ:Glob} {N0:Base Γ} {w:World} {F:Cell→Prop} {β:Nat→Cell} {Ow:Key→Cell→Prop} {sl:Nat→Value} {env:Env} {h:Heap} {v:Value} {a:AV}
theorem GR.store (g:GR N0 w F β Ow sl env h v a){nm:Nat}{ob:Obj}(hob:hget h nm=some ob)(hw:ob.wr=true)(off:Nat)(us:List Value)(as cs:List AV)(hl:us.length=as.length)
 (hst:storeC ob.cells off as=some cs)
 (hv: ∀i (hi:i<us.length),VRel w (XX F Ow) β us[i] (as[i]'(hl▸hi))∧(as[i]'(hl▸hi)).isCell=true∧(∀r∈refs2 (as[i]'(hl▸hi)),(hget h r).isSome)∧((as[i]'(hl▸hi)).notOwn=true∨(us.length=1∧OwnOk (Ow .val) us[i] (as[i]'(hl▸hi))))) (u0:Value):
 GR N0 (wput w (β nm).1 ((β nm).2+off) us) F β (stOw Ow nm off us.length) sl env (hset h nm {ob with cells:=cs}) u0 .undef∧
  Kp N0 w (XX F Ow) (wput w (β nm).1 ((β nm).2+off) us) (XX F (stOw Ow nm off us.length))∧FF F w (wput w (β nm).1 ((β nm).2+off) us):=by
 obtain⟨hlen,hoff,hcs⟩:=storeC_get off _ _ _ hst
 have q:=g.obj nm ob hob
 have hreg: ∀c:Cell,c.1=(β nm).1∧(β nm).2+off≤c.2∧c.2<(β nm).2+off+us.length→Ow (.obj nm) c:=by
  rintro⟨c1,c2⟩ ⟨h1,h2,h3⟩
  simp only at h1 h2 h3
  have:=q.wr hw (c2-(β nm).2) (by omega)
  simp only[place]at this
  rw[show(β nm).2+(c2-(β nm).2)=c2 from by omega]at this
  rw[h1];exact this
 have hf: ∀k c,stOw Ow nm off us.length k c→∃k',Ow k' c:=by
  intro k c hk
  cases k with
  |val=>exact hk.elim
  |cell o j=>
   simp only[stOw]at hk
   split at hk
   ·split at hk
    ·exact⟨_,hk⟩
    ·exact hk.elim
   ·exact⟨_,hk⟩
  |slot k=>exact⟨_,hk⟩
  |obj o=>exact⟨_,hk⟩
 have hx: ∀c,XX F (stOw Ow nm off us.length) c→XX F Ow c:=fun c h=>h.imp id fun⟨k,hk⟩=>hf k c hk
 have hcat: ∀c,¬Ow (.obj nm) c→cat (wput w (β nm).1 ((β nm).2+off) us) c=cat w c:=by
  intro c hc
  rw[wput_cat,if_neg (fun e=>hc (hreg c e))]
 have kp:Kp N0 w (XX F Ow) (wput w (β nm).1 ((β nm).2+off) us) (XX F (stOw Ow nm off us.length)):=by
  obtain⟨e1,e2,e3⟩:=wput_rest (β nm).1 us w ((β nm).2+off)
  refine⟨e1,e2,e3,by rw[wput_size];exact Nat.le_refl _,fun c _=>wput_cfz _ _ _ _ _,fun k hk=> ?_,fun c u hc hxc=>⟨?_,fun h2=>hxc (hx c h2)⟩⟩
  ·by_cases hkb:k=(β nm).1
   ·cases us with
    |nil=>rfl
    |cons u r=>
     have:=g.inv.low _ (.inr ⟨_,hreg ((β nm).1,(β nm).2+off) ⟨rfl,Nat.le_refl _,by simp⟩⟩)
     simp only at this;omega
   ·exact wput_blk _ _ _ _ _ hkb
  ·rw[hcat c (fun e=>hxc (.inr ⟨_,e⟩))];exact hc
 refine⟨?_,kp,fun c hc=>⟨hcat c (fun e=>g.inv.apartF _ _ e hc),wput_cfz _ _ _ _ _⟩⟩
 have upslot: ∀k c,Ow (.slot k) c→stOw Ow nm off us.length (.slot k) c:=fun k c h=>h
 have hr: ∀r,(hget h r).isSome=true→(hget (hset h nm {ob with cells:=cs}) r).isSome=true:=by
  intro r h1
  rw[hget_hset h nm _ ob hob];split
  ·rfl
  ·exact h1
 have ap: ∀k k' c,stOw Ow nm off us.length k c→stOw Ow nm off us.length k' c→k=k':=by
  intro k k' c h1 h2
  have key: ∀k c,stOw Ow nm off us.length k c→Ow k c∨(∃j,k= .cell nm j∧us.length=1∧off≤j∧j<off+us.length∧Ow .val c):=by
   intro k c hk
   cases k with
   |val=>exact hk.elim
   |cell o j=>
    simp only[stOw]at hk
    split at hk
    ·rename_i e
     split at hk
     ·rename_i e2;exact .inr ⟨j,by rw[e.1],e2,e.2.1,e.2.2,hk⟩
     ·exact hk.elim
    ·exact .inl hk
   |slot k=>exact .inl hk
   |obj o=>exact .inl hk
  rcases key k c h1 with a1|⟨j1,b1,b2,b3,b4,b5⟩
  ·rcases key k' c h2 with a2|⟨j2,c1,c2,c3,c4,c5⟩
   ·exact g.inv.apart _ _ _ a1 a2
   ·have:=g.inv.apart _ _ _ a1 c5
    subst this
    exact h1.elim
  ·rcases key k' c h2 with a2|⟨j2,c1,c2,c3,c4,c5⟩
   ·have:=g.inv.apart _ _ _ a2 b5
    subst this
    exact h2.elim
   ·rw[b1,c1];congr 1;omega
 exact{
  inv:=by
   have i1:=g.inv.le hf ap
   refine⟨i1.apart,i1.apartF,fun c hc=> ?_,i1.low,by rw[wput_size];exact g.inv.base,fun k hk=>(kp.blk k hk).trans (g.inv.glob k hk)⟩
   obtain⟨⟨u,hu⟩,hz⟩:=i1.live c hc
   rw[wput_cfz,wput_cat]
   refine⟨?_,hz⟩
   split
   ·rw[hu];exact⟨_,rfl⟩
   ·exact⟨u,hu⟩
  slot:=fun k=>⟨(g.slot k).1.mono kp,(g.slot k).2.mono (upslot k)⟩
  val:=⟨.undef u0,.of rfl⟩
  obj:=by
   intro n2 ob2 h2
   rw[hget_hset h nm _ ob hob]at h2
   by_cases e:n2=nm
   ·subst e
    simp only[if_true,zsi]at h2
    subst h2
    refine⟨fun j hj=> ?_,fun _ j hj=> ?_,fun hf2=> ?_⟩
    ·simp only at hj ⊢
     have hj':j<ob.cells.length:=by rw[←hlen];exact hj
     obtain⟨c1,u,c2,c3,c4⟩:=q.cell j hj'
     have hg:=hcs j hj'
     rw[zge hj]at hg
     by_cases hin:off≤j∧j<off+as.length
     ·rw[if_pos hin,zge (by omega)]at hg
      injection hg with hg
      have hi:j-off<us.length:=by omega
      obtain⟨d1,d2,d3,d4⟩:=hv (j-off) hi
      rw[hg]
      refine⟨d2,us[j-off],?_,d1.mono kp,?_⟩
      ·rw[wput_cat,if_pos (⟨rfl,by show(β n2).2+off≤(β n2).2+j;omega,by show(β n2).2+j<(β n2).2+off+us.length;omega⟩),c2]
       simp only[place,Option.map_some,zsi]
       rw[show(β n2).2+j-((β n2).2+off)=j-off from by omega]
       rw[List.getD_eq_getElem?_getD,zge hi];rfl
      ·rcases d4 with d4|⟨d4,d5⟩
       ·exact .of d4
       ·refine d5.mono fun c hc=> ?_
        simp only[stOw]
        rw[if_pos ⟨trivial,by omega,by omega⟩,if_pos d4];exact hc
     ·rw[if_neg hin,zge hj']at hg
      injection hg with hg
      rw[hg]
      refine⟨c1,u,?_,c3.mono kp,c4.mono fun c hc=> ?_⟩
      ·rw[wput_cat,if_neg ?_];exact c2
       rintro⟨_,e1,e2⟩
       have e1':(β n2).2+off≤(β n2).2+j:=e1
       have e2':(β n2).2+j<(β n2).2+off+us.length:=e2
       omega
      ·simp only[stOw];rw[if_neg (fun e=>by have:=e.2;omega)];exact hc
    ·exact q.wr hw j (by rw[←hlen];exact hj)
    ·rw[hw]at hf2;cases hf2
   ·simp only[e,if_false]at h2
    have q2:=g.obj n2 ob2 h2
    refine⟨fun j hj=> ?_,fun hw2 j hj=>q2.wr hw2 j hj,fun hw2 j hj hx2=>q2.rd hw2 j hj (hx _ hx2)⟩
    obtain⟨c1,u,c2,c3,c4⟩:=q2.cell j hj
    refine⟨c1,u,?_,c3.mono kp,c4.mono fun c hc=> ?_⟩
    ·rw[hcat]
     ·exact c2
     ·intro e2
      cases hw2:ob2.wr with
      |true=>
       have:=g.inv.apart _ _ _ e2 (q2.wr hw2 j hj)
       injection this with this;exact e this.symm
      |false=>exact q2.rd hw2 j hj (.inr ⟨_,e2⟩)
    ·simp only[stOw];rw[if_neg (by simp[e])];exact hc
  refE:=fun k r h1=>hr r (g.refE k r h1)
  refV:=by simp
  refH:=by
   intro n2 ob2 h2 c hc r hrr
   rw[hget_hset h nm _ ob hob]at h2
   by_cases e:n2=nm
   ·subst e
    simp only[if_true,zsi]at h2
    subst h2
    simp only at hc
    obtain⟨j,hj,rfl⟩:=List.getElem_of_mem hc
    have hj':j<ob.cells.length:=by rw[←hlen];exact hj
    have hg:=hcs j hj'
    rw[zge hj]at hg
    by_cases hin:off≤j∧j<off+as.length
    ·rw[if_pos hin,zge (by omega)]at hg
     injection hg with hg
     rw[hg]at hrr
     exact hr r ((hv (j-off) (by omega)).2.2.1 r hrr)
    ·rw[if_neg hin,zge hj']at hg
     injection hg with hg
     rw[hg]at hrr
     exact hr r (g.refH n2 ob hob _ (List.getElem_mem hj') r hrr)
   ·simp only[e,if_false]at h2
    exact hr r (g.refH n2 ob2 h2 c hc r hrr)}
theorem hget_freeze (h:Heap)(ns:List Nat)(k:Nat):hget (freeze h ns) k=(hget h k).map fun ob=>if ns.contains k then{ob with wr:=false}else ob:=by
 induction h with
 |nil=>rfl
 |cons p r ih=>
  obtain⟨j,o⟩:=p
  simp only[freeze,hget]
  cases hb:Nat.beq j k with
  |true=>have:=Nat.eq_of_beq_eq_true hb;subst this;rfl
  |false=>exact ih
theorem GR.freeze (g:GR N0 w F β Ow sl env h v a)(ns:List Nat):GR N0 w F β (dropK Ow fun k=> ∃n∈ns,k= .obj n) sl env (freeze h ns) v a:=by
 have hx: ∀c,XX F (dropK Ow fun k=> ∃n∈ns,k= .obj n) c→XX F Ow c:=fun _ h=>XX_drop h
 have k:=(Kp.refl N0 w (XX F Ow)).shrink hx
 have hr: ∀r,(hget h r).isSome=true→(hget (PF.freeze h ns) r).isSome=true:=by intro r h1;rw[hget_freeze];simpa using h1
 exact{
  inv:=g.inv.drop _
  slot:=fun j=>⟨(g.slot j).1.mono k,(g.slot j).2.mono fun c hc=>⟨by simp,hc⟩⟩
  val:=⟨g.val.1.mono k,g.val.2.mono fun c hc=>⟨by simp,hc⟩⟩
  obj:=by
   intro nm ob ho
   rw[hget_freeze]at ho
   cases h1:hget h nm with
   |none=>rw[h1]at ho;cases ho
   |some o1=>
    rw[h1]at ho
    simp only[Option.map_some,zsi]at ho
    have q:=g.obj nm o1 h1
    by_cases hn:ns.contains nm
    ·rw[if_pos hn]at ho
     subst ho
     have hn':nm∈ns:=by simpa using hn
     refine⟨fun j hj=> ?_,fun hf=>(by cases hf),fun _ j hj hx2=> ?_⟩
     ·obtain⟨c1,u,c2,c3,c4⟩:=q.cell j hj
      exact⟨c1,u,c2,c3.mono k,c4.mono fun c hc=>⟨by simp,hc⟩⟩
     ·cases hw:o1.wr with
      |true=>
       have h3:=q.wr hw j hj
       rcases hx2 with h4|⟨k',h4,h5⟩
       ·exact g.inv.apartF _ _ h3 h4
       ·have:=g.inv.apart _ _ _ h3 h5
        exact h4 ⟨nm,hn',this.symm⟩
      |false=>exact q.rd hw j hj (hx _ hx2)
    ·rw[if_neg hn]at ho
     subst ho
     have hn': ¬nm∈ns:=by simpa using hn
     exact q.le hx (fun j c hc=>⟨by simp,hc⟩) fun c hc=>⟨by rintro⟨n,h2,h3⟩;injection h3 with h3;subst h3;exact hn' h2,hc⟩
  refE:=fun j r h1=>hr r (g.refE j r h1)
  refV:=fun r h1=>hr r (g.refV r h1)
  refH:=by
   intro nm ob ho c hc r h1
   rw[hget_freeze]at ho
   cases h2:hget h nm with
   |none=>rw[h2]at ho;cases ho
   |some o1=>
    rw[h2]at ho
    simp only[Option.map_some,zsi]at ho
    have:c∈o1.cells:=by
     subst ho;split at hc<;>exact hc
    exact hr r (g.refH nm o1 h2 c this r h1)}
theorem hget_filter (h:Heap)(p:Nat→Bool)(k:Nat):hget (h.filter fun q=>p q.1) k=if p k then hget h k else none:=by
 induction h with
 |nil=>simp
 |cons q r ih=>
  obtain⟨j,o⟩:=q
  simp only[List.filter_cons]
  by_cases hp:p j=true
  ·rw[if_pos hp,hget_cons,hget_cons,ih]
   by_cases hk:j=k
   ·subst hk;simp[hp]
   ·simp[hk]
  ·rw[if_neg hp,ih,hget_cons]
   by_cases hk:j=k
   ·subst hk;simp[hp]
   ·simp[hk]
theorem get_map (ks:List Nat)(env:Env)(k:Nat):get (ks.map fun j=>(j,get env j)) k=if k∈ks then get env k else .undef:=by
 induction ks with
 |nil=>simp
 |cons j r ih=>
  rw[List.map_cons,get_cons,ih]
  by_cases hk:j=k
  ·subst hk;simp
  ·have: ¬k=j:=fun e=>hk e.symm
   simp[hk,this]
theorem GR.keep (g:GR N0 w F β Ow sl env h v a){ks ko:List Nat}{s':St}(hk:keep ks ko ⟨env,h⟩=some s')(u0:Value):
 ∃Ow',(∀k c,Ow' k c→Ow k c)∧GR N0 w F β Ow' sl s'.env s'.heap u0 .undef:=by
 simp only[PF.keep]at hk
 split at hk
 ·rename_i hc
  injection hk with hk
  subst hk
  simp only[zba,List.all_eq_true]at hc
  obtain⟨hc1,hc2⟩:=hc
  let p:Nat→Bool:=fun n=>decide (n<100)||ko.contains n
  have hp: ∀n,hget (h.filter fun q=>decide (q.1<100)||ko.contains q.1) n=if p n then hget h n else Option.none:=fun n=>hget_filter h p n
  let bad:Key→Prop:=fun k=>match k with
   | .val=>True
   | .slot k=>k∉ks
   | .obj n=>p n=false
   | .cell n _=>p n=false
  have hx: ∀c,XX F (dropK Ow bad) c→XX F Ow c:=fun _ h=>XX_drop h
  have kp:=(Kp.refl N0 w (XX F Ow)).shrink hx
  refine⟨dropK Ow bad,fun _ _ h=>h.2,?_⟩
  exact{
   inv:=g.inv.drop _
   slot:=by
    intro k
    rw[get_map]
    by_cases hk:k∈ks
    ·rw[if_pos hk]
     exact⟨(g.slot k).1.mono kp,(g.slot k).2.mono fun c hc=>⟨fun hb=>hb hk,hc⟩⟩
    ·rw[if_neg hk];exact⟨.undef _,.of rfl⟩
   val:=⟨.undef _,.of rfl⟩
   obj:=by
    intro nm ob ho
    rw[hp]at ho
    split at ho
    ·rename_i hpn
     exact(g.obj nm ob ho).le hx (fun j c hc=>⟨fun hb=>(by simp only[bad]at hb;rw[hpn]at hb;cases hb),hc⟩) fun c hc=>⟨fun hb=>(by simp only[bad]at hb;rw[hpn]at hb;cases hb),hc⟩
    ·cases ho
   refE:=by
    intro k r hr
    rw[get_map]at hr
    split at hr
    ·rename_i hk
     have h1:=hc1 (k,get env k) (List.mem_map.2 ⟨k,hk,rfl⟩) r hr
     rw[hp,if_pos h1];exact g.refE k r hr
    ·simp at hr
   refV:=by simp
   refH:=by
    intro nm ob ho c hcm r hr
    have ho':=ho
    rw[hp]at ho'
    split at ho'
    ·rename_i hpn
     have hm:(nm,ob)∈h.filter fun q=>decide (q.1<100)||ko.contains q.1:=by
      clear hc1 hc2 kp
      revert ho
      generalize (h.filter fun q=>decide (q.1<100)||ko.contains q.1)=hh
      intro ho
      induction hh with
      |nil=>cases ho
      |cons q rr ih=>
       obtain⟨j,o⟩:=q
       rw[hget_cons]at ho
       split at ho
       ·rename_i e;subst e;injection ho with ho;subst ho;simp
       ·exact List.mem_cons_of_mem _ (ih ho)
     have h1:=hc2 (nm,ob) hm c hcm r hr
     rw[hp,if_pos h1]
     exact g.refH nm ob ho' c hcm r hr
    ·cases ho'}
 ·cases hk
end
def szT (P:Program)(t:TypeId):Option Nat:=(P.info? t).map (·.size)
def descAgg :TypeDesc→Bool
 | .struct _| .array _ _=>true
 |_=>false
def aggT (P:Program)(t:TypeId):Option Bool:=(P.underlying t).map descAgg
def okConst1 :Value→AV→Bool
 | .bool b,.bool c=>b==c
 | .int k n,.int j m=>k==j&&n==m
 | .string s,.str l=>s.data.toList==l
 | .slice none 0 0,.lst (.own _) []=>true
 | .slice none 0 0,.lst .full []=>true
 | .pointer none,.nilp=>true
 |_,_=>false
def okConsts :List Value→List AV→Bool
 | [],[]=>true
 |v::r,a::s=>okConst1 v a&&okConsts r s
 |_,_=>false
def okConst (v:Value)(a:AV):Bool:=
 match v,a with
 | .agg cs,.agg as=>okConsts cs.toList as&&as.all AV.notOwn
 | .nilFunc,.undef=>true
 |v,a=>okConst1 v a
def okT :Operand→Opd→Bool
 | .tmp k,.t j=>k==j
 | .const v,.c a=>okConst v a
 | .func f,.c (.fn g [])=>f==g
 |_,_=>false
def okX :Operand→Opd→Bool
 | .tmp k,.x j=>k==j
 |x,y=>okT x y
def okTs :List Operand→List Opd→Bool
 | [],[]=>true
 |x::r,y::s=>okT x y&&okTs r s
 |_,_=>false
def okO :Option Operand→Option Opd→Bool
 |none,none=>true
 |some x,some y=>okT x y
 |_,_=>false
section
variable {P:Program} {Γ:Glob} {N0:Base Γ} {w:World} {F X:Cell→Prop} {β:Nat→Cell} {Ow:Key→Cell→Prop} {env:Env} {h:Heap} {v:Value} {a:AV} {act:Act}
abbrev slots (act:Act):Nat→Value:=fun k=>act.tmps.getD k undef
theorem okConst1_rel {v:Value}{a:AV}(h:okConst1 v a=true):VRel w X β v a∧OwnOk (fun _=>False) v a∧refs a=[]∧a.isCell=true:=by
 unfold okConst1 at h
 split at h
 ·have:=eq_of_beq h;subst this;exact⟨.bool _,.of rfl,rfl,rfl⟩
 ·simp only[zba,beq_iff_eq]at h
  obtain⟨rfl,rfl⟩:=h;exact⟨.int _ _,.of rfl,rfl,rfl⟩
 ·have:=eq_of_beq h;exact⟨.str _ _ this,.of rfl,rfl,rfl⟩
 ·refine⟨.lst0 _ _ _ (by simp),.lst fun e xs he=>⟨?_,?_⟩,rfl,rfl⟩
  ·injection he with h1 h2;subst h2;simp
  ·intro A len cap hv hl;injection hv with h1 h2 h3;omega
 ·exact⟨.lst0 _ _ _ (fun _=>rfl),.of rfl,rfl,rfl⟩
 ·exact⟨.nilp,.of rfl,rfl,rfl⟩
 ·cases h
theorem okConsts_rel {vs:List Value}{as:List AV}(h:okConsts vs as=true):vs.length=as.length∧∀i (h1:i<vs.length) (h2:i<as.length),okConst1 vs[i] as[i]=true:=by
 induction vs generalizing as with
 |nil=>
  cases as with
  |nil=>exact⟨rfl,fun i h1=>absurd h1 (by simp)⟩
  |cons a s=>cases h
 |cons v r ih=>
  cases as with
  |nil=>cases h
  |cons a s=>
   simp only[okConsts,zba]at h
   obtain⟨h1,h2⟩:=h
   obtain⟨h3,h4⟩:=ih h2
   refine⟨by simp[h3],fun i hi1 hi2=> ?_⟩
   cases i with
   |zero=>exact h1
   |succ i=>exact h4 i (by simpa using hi1) (by simpa using hi2)
theorem okConst_rel {v:Value}{a:AV}(h:okConst v a=true):VRel w X β v a∧OwnOk (fun _=>False) v a∧refs a=[]:=by
 unfold okConst at h
 split at h
 ·rename_i cs as
  simp only[zba,List.all_eq_true]at h
  obtain⟨h1,h2⟩:=h
  obtain⟨h3,h4⟩:=okConsts_rel h1
  have hr: ∀c∈as,refs2 c=[]∧c.isCell=true:=by
   intro c hc
   obtain⟨i,hi,rfl⟩:=List.getElem_of_mem hc
   obtain⟨-,-,q1,q2⟩:=okConst1_rel (w:=w) (X:=X) (β:=β) (h4 i (by omega) hi)
   refine⟨?_,q2⟩
   revert q1 q2
   generalize as[i]=c
   intro q1 q2
   cases c<;>first|exact q1|cases q2
  refine⟨.agg cs as (by simpa using h3) (fun c hc=>⟨?_,h2 c hc⟩) fun i hi=> ?_,.of rfl,?_⟩
  ·have:=(hr c hc).2
   cases c<;>first|rfl|cases this
  ·exact(okConst1_rel (h4 i (by simpa using hi) (h3▸by simpa using hi))).1
  ·simp only[refs,refs3,List.flatMap_eq_nil_iff];exact fun c hc=>(hr c hc).1
 ·exact⟨.undef _,.of rfl,rfl⟩
 ·obtain⟨q1,q2,q3,_⟩:=okConst1_rel (w:=w) (X:=X) (β:=β) h
  exact⟨q1,q2,q3⟩
theorem GR.opT (g:GR N0 w F β Ow (slots act) env h v a){x:Operand}{y:Opd}(hx:okT x y=true):
 VRel w (XX F Ow) β (act.eval x) (evo env y)∧OwnOk (fun _=>False) (act.eval x) (evo env y)∧(∀r∈refs (evo env y),(hget h r).isSome):=by
 unfold okT at hx
 split at hx
 ·have:=eq_of_beq hx;subst this
  exact⟨(g.slot _).1.cp,.of (notOwn_cp _),fun r hr=>g.refE _ r (by simpa only[evo,refs_cp]using hr)⟩
 ·obtain⟨q1,q2,q3⟩:=okConst_rel (w:=w) (X:=XX F Ow) (β:=β) hx
  exact⟨q1,q2,fun r hr=>by simp only[evo,q3]at hr;cases hr⟩
 ·have:=eq_of_beq hx;subst this
  exact⟨.fn _ #[] [] rfl (by simp) (fun i hi=>absurd hi (by simp)),.of rfl,fun r hr=>by simp[refs]at hr⟩
 ·cases hx
theorem okT_evoE {x:Operand}{y:Opd}(hx:okT x y=true)(env:Env):evoE env y=env:=by
 unfold okT at hx
 split at hx<;>first|rfl|cases hx
theorem GR.opX (g:GR N0 w F β Ow (slots act) env h v a){x:Operand}{y:Opd}(hx:okX x y=true):
 ∃Ow',(∀c,XX F Ow' c→XX F Ow c)∧GR N0 w F β Ow' (slots act) (evoE env y) h (act.eval x) (evo env y):=by
 unfold okX at hx
 split at hx
 ·have:=eq_of_beq hx;subst this
  rename_i k
  refine⟨takeOw Ow k,fun c hc=>hc.imp id fun⟨q,hq⟩=> ?_,g.take k⟩
  simp only[takeOw]at hq
  split at hq
  ·exact⟨_,hq⟩
  ·split at hq
   ·exact hq.elim
   ·exact⟨_,hq⟩
 ·obtain⟨q1,q2,q3⟩:=g.opT hx
  rw[okT_evoE hx]
  exact⟨_,fun c hc=>XX_drop hc,g.pend q1 q2 q3⟩
def Out (P:Program){Γ:Glob}(N0:Base Γ)(w:World)(F:Cell→Prop)(β:Nat→Cell)(h0:Heap)(X:Cell→Prop)(act:Act)(env:Env)(h:Heap)(r:Result Next)(a:AV):Prop:=
 ∃v w' β' Ow',(r= .ok (.value v) w'∨(r= .ok .skip w'∧v=undef))∧GR N0 w' F β' Ow' (slots act) env h v a∧Kp N0 w X w' (XX F Ow')∧FF F w w'∧∀k,(hget h0 k).isSome=true→k<100→β' k=β k
theorem GR.same (g:GR N0 w F β Ow (slots act) env h v a){r:Result Next}{v':Value}{a':AV}(hr:r= .ok (.value v') w)(hv:VRel w (XX F Ow) β v' a')(ho:OwnOk (fun _=>False) v' a')
 (hre: ∀r∈refs a',(hget h r).isSome):Out P N0 w F β h (XX F Ow) act env h r a':=
 ⟨v',w,β,_,.inl hr,g.pend hv ho hre,(Kp.refl N0 w _).shrink fun _ hc=>XX_drop hc,FF.refl _ _,fun _ _ _=>rfl⟩
theorem run_sizeOf {t n:Nat}(h:szT P t=some n)(w:World):(sizeOf t).run P w= .ok n w:=by
 unfold szT at h
 cases hi:P.info? t with
 |none=>rw[hi]at h;cases h
 |some i=>
  rw[hi]at h
  simp only[Option.map_some,zsi]at h
  simp[sizeOf,typeInfo,hi,h]
theorem run_isAgg {t:Nat}{b:Bool}(h:aggT P t=some b)(w:World):(isAgg t).run P w= .ok b w:=by
 unfold aggT at h
 cases hu:P.underlying t with
 |none=>rw[hu]at h;cases h
 |some d=>
  rw[hu]at h
  simp only[Option.map_some,zsi]at h
  subst h
  simp only[isAgg,Sem.run_bind,run_underlying hu,Result.andThen_ok]
  cases d<;>rfl
def CellsAt (w:World)(X:Cell→Prop)(β:Nat→Cell)(b o:Nat)(cs:List AV):Prop:=
 ∀j (hj:j<cs.length),cs[j].isCell=true∧∃u,cat w (b,o+j)=some u∧VRel w X β u cs[j]
theorem ObjOk.cells {nm:Nat}{ob:Obj}(q:ObjOk w X β Ow nm ob):CellsAt w X β (β nm).1 (β nm).2 ob.cells:=
 fun j hj=>let⟨a,u,b,c,_⟩:=q.cell j hj;⟨a,u,b,c⟩
theorem CellsAt.drop {b o:Nat}{cs:List AV}(h:CellsAt w X β b o cs)(n:Nat):CellsAt w X β b (o+n) (cs.drop n):=by
 intro j hj
 have hj':n+j<cs.length:=by simp at hj;omega
 obtain⟨q1,u,q2,q3⟩:=h (n+j) hj'
 simp only[List.getElem_drop]
 exact⟨q1,u,by rw[show o+n+j=o+(n+j)from by omega];exact q2,q3⟩
theorem takeN_get (n:Nat): ∀(cs r:List AV),takeN n cs=some r→r.length=n∧n≤cs.length∧∀j (h1:j<r.length) (h2:j<cs.length),r[j]=cs[j].cp:=by
 induction n with
 |zero=>intro cs r h;injection h with h;subst h;exact⟨rfl,Nat.zero_le _,fun j h1=>absurd h1 (by simp)⟩
 |succ n ih=>
  intro cs r h
  cases cs with
  |nil=>cases h
  |cons c cs=>
   simp only[takeN]at h
   split at h
   ·rename_i r' h'
    injection h with h;subst h
    obtain⟨h1,h2,h3⟩:=ih _ _ h'
    refine⟨by simp[h1],by simp;omega,fun j hj1 hj2=> ?_⟩
    cases j with
    |zero=>rfl
    |succ j=>exact h3 j (by simpa using hj1) (by simpa using hj2)
   ·cases h
theorem cp_isCell {a:AV}(h:a.isCell=true):a.cp.isCell=true:=by
 cases a with
 |lst g xs=>cases g<;>rfl
 |_=>exact h
theorem isCell_flat1 {a:AV}(h:a.isCell=true):a.flat1=true:=by cases a<;>first|rfl|cases h
theorem refs2_cp (a:AV):refs2 a.cp=refs2 a:=by
 cases a with
 |lst g xs=>cases g<;>rfl
 |_=>rfl
theorem load_cells {b o off sz t:Nat}{ag:Bool}{cs:List AV}{a':AV}(hc:CellsAt w X β b o cs)(hl:loadC cs off sz ag=some a')(hs:szT P t=some sz)(ha:aggT P t=some ag):
 ∃u,(loadVar t ⟨b,o+off,none⟩).run P w= .ok u w∧VRel w X β u a'∧a'.notOwn=true∧(∀r∈refs a',∃c∈cs,r∈refs2 c):=by
 cases ag with
 |true=>
  simp only[loadC]at hl
  split at hl
  ·rename_i r hr
   injection hl with hl;subst hl
   obtain⟨h1,h2,h3⟩:=takeN_get _ _ _ hr
   have hd:=hc.drop off
   let f:Nat→Value:=fun j=>(cat w (b,o+off+j)).getD undef
   have hf: ∀j,j<sz→cat w (b,o+off+j)=some (f j):=by
    intro j hj
    obtain⟨-,u,q2,-⟩:=hd j (by omega)
    simp only[f,q2];rfl
   have hrun:(loadCells ⟨b,o+off,none⟩ sz).run P w= .ok ((List.range sz).map f).toArray w:=
    run_loadCells w _ sz f fun j hj=>by rw[add_at];exact hf j hj
   refine⟨.agg ((List.range sz).map f).toArray,?_,?_,rfl,?_⟩
   ·simp[loadVar,run_isAgg ha,run_sizeOf hs,hrun]
   ·refine .agg _ _ (by simp[h1]) ?_ fun i hi=> ?_
    ·intro c hcm
     obtain⟨j,hj,rfl⟩:=List.getElem_of_mem hcm
     have hj2:j<(cs.drop off).length:=by omega
     rw[h3 j hj hj2]
     exact⟨isCell_flat1 (cp_isCell (hd j hj2).1),notOwn_cp _⟩
    ·have hi':i<sz:=by simpa using hi
     obtain⟨-,u,q2,q3⟩:=hd i (by omega)
     have e1:f i=u:=by have:=hf i hi';rw[q2]at this;exact(Option.some.inj this).symm
     have e2:(((List.range sz).map f).toArray)[i]=f i:=by simp
     rw[e2,e1,h3 i (by omega) (by omega)]
     exact q3.cp
   ·intro r1 hr1
    simp only[refs,refs3,List.mem_flatMap]at hr1
    obtain⟨c,hcm,hrc⟩:=hr1
    obtain⟨j,hj,rfl⟩:=List.getElem_of_mem hcm
    have hj2:j<(cs.drop off).length:=by omega
    rw[h3 j hj hj2,refs2_cp]at hrc
    exact⟨_,List.mem_of_mem_drop (List.getElem_mem hj2),hrc⟩
  ·cases hl
 |false=>
  simp only[loadC]at hl
  split at hl
  ·rename_i c rest hdr
   injection hl with hl;subst hl
   have hd:=hc.drop off
   obtain⟨q1,u,q2,q3⟩:=hd 0 (by rw[hdr];simp)
   simp only[Nat.add_zero]at q2
   have e0:(cs.drop off)[0]'(by rw[hdr];simp)=c:=by simp only[hdr,List.getElem_cons_zero]
   rw[e0]at q1 q3
   refine⟨u,?_,q3.cp,notOwn_cp _,?_⟩
   ·simp only[loadVar,Sem.run_bind,run_isAgg ha,Result.andThen_ok,Bool.false_eq_true,if_false,run_load]
    rw[show w.cell? ⟨b,o+off,none⟩=some u from q2]
   ·intro r hr
    have hm:c∈cs:=List.mem_of_mem_drop (i:=off) (by rw[hdr];simp)
    have:refs c.cp=refs2 c:=by
     rw[refs_cp]
     cases c<;>first|rfl|cases q1
    rw[this]at hr
    exact⟨c,hm,hr⟩
  ·cases hl
end
section
variable {P:Program} {Γ:Glob} {N0:Base Γ} {w:World} {F X:Cell→Prop} {β:Nat→Cell} {Ow:Key→Cell→Prop} {env:Env} {h:Heap} {v:Value} {a:AV} {act:Act}
theorem VRel.toBool {v:Value}{b:Bool}(h:VRel w X β v (.bool b)):v= .bool b:=by cases h;rfl
theorem VRel.toInt {v:Value}{k:IntKind}{n:Int}(h:VRel w X β v (.int k n)):v= .int k n:=by cases h;rfl
theorem VRel.toStr {v:Value}{l:List UInt8}(h:VRel w X β v (.str l)): ∃s:ByteArray,v= .string s∧s.data.toList=l:=by cases h with|str s l h=>exact⟨s,rfl,h⟩
theorem VRel.toPtr {v:Value}{nm off:Nat}(h:VRel w X β v (.ptr nm off)):v= .pointer (some ⟨(β nm).1,(β nm).2+off,none⟩):=by cases h;rfl
theorem VRel.toEpt {v:Value}{cs:List AV}{off:Nat}(h:VRel w X β v (.ept cs off)): ∃b o,v= .pointer (some ⟨b,o,none⟩):=by cases h;exact⟨_,_,rfl⟩
def blockOf (w:World)(cs:Array Value)(T:TypeId):World:={w with heap:=w.heap.push (.cells cs T)}
theorem cat_block (w:World)(cs:Array Value)(T:TypeId)(j:Nat):cat (blockOf w cs T) (w.heap.size,j)=cs[j]? :=by
 unfold cat World.cell? blockOf
 rw[show(w.heap.push (.cells cs T))[(⟨w.heap.size,j,none⟩:Addr).block]? =some (.cells cs T)from Array.getElem?_push_size]
 rfl
theorem cfz_block (w:World)(cs:Array Value)(T:TypeId)(j:Nat):cfz (blockOf w cs T) (w.heap.size,j)=false:=by
 unfold cfz World.frozen? blockOf
 rw[show(w.heap.push (.cells cs T))[(⟨w.heap.size,j,none⟩:Addr).block]? =some (.cells cs T)from Array.getElem?_push_size]
 simp
theorem ext_block (w:World)(cs:Array Value)(T:TypeId):Ext w (blockOf w cs T):=Ext.alloc w _
theorem GR.forget (g:GR N0 w F β Ow (slots act) env h v a){nm:Nat}(hn:hget h nm=none)(u0:Value):
 GR N0 w F β (dropK Ow fun k=>k= .val∨k= .obj nm∨∃j,k= .cell nm j) (slots act) env h u0 .undef:=by
 have hx: ∀c,XX F (dropK Ow fun k=>k= .val∨k= .obj nm∨∃j,k= .cell nm j) c→XX F Ow c:=fun _ h=>XX_drop h
 have k:=(Kp.refl N0 w (XX F Ow)).shrink hx
 exact{
  inv:=g.inv.drop _
  slot:=fun j=>⟨(g.slot j).1.mono k,(g.slot j).2.mono fun c hc=>⟨by simp,hc⟩⟩
  val:=⟨.undef _,.of rfl⟩
  obj:=fun n2 ob ho=>by
   have hne: ¬n2=nm:=fun e=>by subst e;rw[hn]at ho;cases ho
   exact(g.obj n2 ob ho).le hx (fun j c hc=>⟨by simp[hne],hc⟩) fun c hc=>⟨by simp[hne],hc⟩
  refE:=g.refE
  refV:=by simp
  refH:=g.refH}
theorem GR.newBlock (g:GR N0 w F β Ow (slots act) env h v a){nm:Nat}(hn:hget h nm=none)(cs:Array Value)(T:TypeId)(as:List AV)(hl:as.length≤cs.size)
 (hv: ∀j (h1:j<as.length) (h2:j<cs.size),as[j].isCell=true∧(∀S,OwnOk S cs[j] as[j])∧(∀r∈refs2 as[j],(hget h r).isSome)∧VRel w (XX F Ow) β cs[j] as[j]) (u0:Value):
 ∃β' Ow',GR N0 (blockOf w cs T) F β' Ow' (slots act) env ((nm,⟨true,as⟩)::h) u0 .undef∧Kp N0 w (XX F Ow) (blockOf w cs T) (XX F Ow')∧FF F w (blockOf w cs T)∧β' nm=(w.heap.size,0)∧∀k,k≠nm→β' k=β k:=by
 have g1:=g.forget hn u0
 have hx: ∀c,XX F (dropK Ow fun k=>k= .val∨k= .obj nm∨∃j,k= .cell nm j) c→XX F Ow c:=fun _ h=>XX_drop h
 have k1:=(Kp.refl N0 w (XX F Ow)).shrink hx
 have hcat: ∀j,j<as.length→∃u,cat (blockOf w cs T) (w.heap.size,j)=some u:=fun j hj=>⟨cs[j]'(by omega),by rw[cat_block,Array.getElem?_eq_getElem (by omega)]⟩
 obtain⟨g2,k2,f2⟩:=g1.grow (ext_block w cs T) (.obj nm) (fun c=>c.1=w.heap.size∧c.2<as.length) (fun c hc=>hc.1 (.inr (.inl rfl))) (by
  rintro⟨c1,c2⟩ ⟨h1,h2⟩
  simp only at h1 h2
  subst h1
  exact⟨Nat.le_refl _,hcat c2 h2,cfz_block _ _ _ _⟩)
 obtain⟨g3,-⟩:=g2.newObj hn w.heap.size 0 ⟨true,as⟩ (by
  intro j hj
  simp only at hj ⊢
  obtain⟨q1,q2,q3,q4⟩:=hv j hj (by omega)
  refine⟨q1,q3,cs[j]'(by omega),?_,(q4.mono k1).mono k2,q2⟩
  rw[Nat.zero_add,cat_block,Array.getElem?_eq_getElem (by omega)]) rfl (by
  intro j hj
  simp only[addOw,if_true,Nat.zero_add]
  exact⟨trivial,hj⟩)
 exact⟨_,_,g3,k1.trans k2,f2,by simp,fun k hk=>by simp[hk]⟩
end
section
variable {P:Program} {Γ:Glob} {N0:Base Γ} {w:World} {F X:Cell→Prop} {β:Nat→Cell} {Ow:Key→Cell→Prop} {env env':Env} {h h':Heap} {v:Value} {a a':AV} {act:Act} {R:CallF} {o:Oper}
theorem snd_mv (g:GR N0 w F β Ow (slots act) env h v a){x:Operand}{y:Opd}(hx:okX x y=true)(hop:o.op= .move x∨o.op= .assign x)(ho:opv R env h (.mv y)=some (a',env',h')):
 Out P N0 w F β h (XX F Ow) act env' h' ((execOp act.eval o).run P w) a':=by
 simp only[opv,zsi,zpi]at ho
 obtain⟨rfl,rfl,rfl⟩:=ho
 obtain⟨Ow',hX,g'⟩:=g.opX hx
 refine⟨act.eval x,w,β,Ow',.inl ?_,g',(Kp.refl N0 w _).shrink hX,FF.refl _ _,fun _ _ _=>rfl⟩
 rcases hop with hop|hop<;>simp only[execOp,hop]<;>rfl
theorem snd_pick (g:GR N0 w F β Ow (slots act) env h v a){c x y:Operand}{c' x' y':Opd}(h1:okT c c'=true)(h2:okT x x'=true)(h3:okT y y'=true)(hop:o.op= .pick c x y)
 (ho:opv R env h (.pick c' x' y')=some (a',env',h')):Out P N0 w F β h (XX F Ow) act env' h' ((execOp act.eval o).run P w) a':=by
 have hc:=(g.opT h1).1
 simp only[opv]at ho
 cases hb:evo env c' with
 |bool b=>
  rw[hb]at ho hc
  have hc':=hc.toBool
  cases b with
  |true=>
   simp only[zsi,zpi]at ho
   obtain⟨rfl,rfl,rfl⟩:=ho
   obtain⟨q1,q2,q3⟩:=g.opT h2
   exact g.same (by simp[execOp,hop,hc',asBool]) q1 q2 q3
  |false=>
   simp only[zsi,zpi]at ho
   obtain⟨rfl,rfl,rfl⟩:=ho
   obtain⟨q1,q2,q3⟩:=g.opT h3
   exact g.same (by simp[execOp,hop,hc',asBool]) q1 q2 q3
 |_=>rw[hb]at ho;cases ho
theorem snd_nilc (g:GR N0 w F β Ow (slots act) env h v a){x:Operand}{x':Opd}(h1:okT x x'=true)(hop:o.op= .nilCheck x)
 (ho:opv R env h (.nilc x')=some (a',env',h')):Out P N0 w F β h (XX F Ow) act env' h' ((execOp act.eval o).run P w) a':=by
 obtain⟨q1,q2,q3⟩:=g.opT h1
 simp only[opv]at ho
 cases hb:evo env x' with
 |ptr nm off=>
  rw[hb]at ho q1 q2 q3
  simp only[zsi,zpi]at ho
  obtain⟨rfl,rfl,rfl⟩:=ho
  have e:=q1.toPtr
  exact g.same (v':=act.eval x) (by simp[execOp,hop,e]) q1 q2 q3
 |ept cs off=>
  rw[hb]at ho q1 q2 q3
  simp only[zsi,zpi]at ho
  obtain⟨rfl,rfl,rfl⟩:=ho
  obtain⟨b,oo,e⟩:=q1.toEpt
  exact g.same (v':=act.eval x) (by simp[execOp,hop,e]) q1 q2 q3
 |_=>rw[hb]at ho;cases ho
theorem snd_ext (g:GR N0 w F β Ow (slots act) env h v a){x:Operand}{x':Opd}{i:Nat}(h1:okT x x'=true)(hop:o.op= .extract x i)
 (ho:opv R env h (.ext x' i)=some (a',env',h')):Out P N0 w F β h (XX F Ow) act env' h' ((execOp act.eval o).run P w) a':=by
 obtain⟨q1,q2,q3⟩:=g.opT h1
 simp only[opv]at ho
 cases hb:evo env x' with
 |tup vs=>
  rw[hb]at ho q1 q3
  simp only[Option.map_eq_some_iff,zpi]at ho
  obtain⟨u,hu,rfl,rfl,rfl⟩:=ho
  cases hvx:act.eval x with
  |tuple cs=>
   rw[hvx]at q1
   cases q1 with
   |tup cs as hl hf hv=>
    obtain⟨hi,rfl⟩:=List.getElem?_eq_some_iff.1 hu
    have hi':i<cs.size:=by omega
    refine g.same (v':=cs[i]) ?_ (hv i hi') (.of (hf _ (List.getElem_mem hi)).2) fun r hr=>q3 r ?_
    ·simp[execOp,hop,hvx,Instr.extract,Array.getElem?_eq_getElem hi']
    ·have hm:vs[i]∈vs:=List.getElem_mem hi
     have hfl:=(hf _ hm).1
     simp only[refs]
     refine List.mem_flatMap.2 ⟨_,hm,?_⟩
     revert hr hfl
     generalize vs[i]=u
     intro hr hfl
     cases u<;>first|exact hr|exact absurd hfl (by simp)
  |_=>rw[hvx]at q1;cases q1
 |_=>rw[hb]at ho;cases ho
def fieldT (P:Program)(s:TypeId)(f:Nat):Option Field:=
 match P.underlying s with
 |some (.struct fs)=>fs[f]?
 |_=>none
theorem fieldT_run {s f:Nat}{fd:Field}(hf:fieldT P s f=some fd): ∃fs,P.underlying s=some (.struct fs)∧fs[f]? =some fd:=by
 unfold fieldT at hf
 split at hf
 ·rename_i fs hfs;exact⟨fs,hfs,hf⟩
 ·cases hf
theorem snd_fa (g:GR N0 w F β Ow (slots act) env h v a){s f off:Nat}{x:Operand}{x':Opd}{fd:Field}{sz:Nat}(h1:okT x x'=true)(hf:fieldT P s f=some fd)(hoff:fd.offset=off)
 (hz:szT P fd.type=some sz) (hz0:sz≠0) (hop:o.op= .fieldAddr s x f)
 (ho:opv R env h (.fa off x')=some (a',env',h')):Out P N0 w F β h (XX F Ow) act env' h' ((execOp act.eval o).run P w) a':=by
 obtain⟨q1,q2,q3⟩:=g.opT h1
 obtain⟨fs,hu,hfs⟩:=fieldT_run hf
 have hrun: ∀b p,act.eval x= .pointer (some ⟨b,p,none⟩)→(execOp act.eval o).run P w= .ok (.value (.pointer (some ⟨b,p+off,none⟩))) w:=by
  intro b p e
  simp only[execOp,hop,Instr.fieldAt,Sem.run_bind,run_underlying hu,Result.andThen_ok,hfs,e,Instr.sureAddr,Sem.run_pure,fieldPlace,run_sizeOf hz,hz0,if_false,add_at,hoff]
 simp only[opv]at ho
 cases hb:evo env x' with
 |ptr nm p=>
  rw[hb]at ho q1 q3
  simp only[zsi,zpi]at ho
  obtain⟨rfl,rfl,rfl⟩:=ho
  refine g.same (hrun _ _ q1.toPtr) ?_ (.of rfl) q3
  rw[Nat.add_assoc];exact .ptr nm (p+off)
 |ept cs p=>
  rw[hb]at ho q1 q3
  simp only[zsi,zpi]at ho
  obtain⟨rfl,rfl,rfl⟩:=ho
  cases hvx:act.eval x with
  |pointer A=>
   rw[hvx]at q1
   cases q1 with
   |ept b oo p cs val hd hv hh=>
    refine g.same (hrun _ _ hvx) ?_ (.of rfl) q3
    rw[Nat.add_assoc];exact .ept b oo (p+off) cs val hd hv hh
  |_=>rw[hvx]at q1;cases q1
 |_=>rw[hb]at ho;cases ho
theorem snd_fld (g:GR N0 w F β Ow (slots act) env h v a){s f off sz:Nat}{ag:Bool}{x:Operand}{x':Opd}{fd:Field}(h1:okT x x'=true)(hf:fieldT P s f=some fd)(hoff:fd.offset=off)
 (hz:szT P fd.type=some sz) (hag:aggT P fd.type=some ag) (hop:o.op= .field s x f)
 (ho:opv R env h (.fld off sz ag x')=some (a',env',h')):Out P N0 w F β h (XX F Ow) act env' h' ((execOp act.eval o).run P w) a':=by
 obtain⟨q1,q2,q3⟩:=g.opT h1
 obtain⟨fs,hu,hfs⟩:=fieldT_run hf
 simp only[opv]at ho
 cases hb:evo env x' with
 |agg as=>
  rw[hb]at ho q1 q3
  simp only[Option.map_eq_some_iff,zpi]at ho
  obtain⟨u,hu',rfl,rfl,rfl⟩:=ho
  cases hvx:act.eval x with
  |agg cs=>
   rw[hvx]at q1
   cases q1 with
   |agg cs as hl hfl hv=>
    have key: ∃y,(part fd.type cs off).run P w= .ok y w∧VRel w (XX F Ow) β y u∧u.notOwn=true∧(∀r∈refs u,∃c∈as,r∈refs2 c):=by
     cases ag with
     |true=>
      simp only[loadC]at hu'
      split at hu'
      ·rename_i r hr
       injection hu' with hu';subst hu'
       obtain⟨t1,t2,t3⟩:=takeN_get _ _ _ hr
       have t2':off+sz≤as.length∨sz=0:=by
        simp only[List.length_drop]at t2;omega
       refine⟨.agg (cs.extract off (off+sz)),by simp[part,run_isAgg hag,run_sizeOf hz],?_,rfl,?_⟩
       ·refine .agg _ _ (by simp only[Array.size_extract,t1];omega) ?_ fun i hi=> ?_
        ·intro c hc
         obtain⟨j,hj,rfl⟩:=List.getElem_of_mem hc
         have hj2:j<(as.drop off).length:=by omega
         rw[t3 j hj hj2]
         refine⟨?_,notOwn_cp _⟩
         have hm:(as.drop off)[j]∈as:=List.mem_of_mem_drop (List.getElem_mem hj2)
         have:=(hfl _ hm).1
         revert this
         generalize (as.drop off)[j]=c
         intro hc2
         cases c with
         |lst g xs=>cases g<;>rfl
         |_=>exact hc2
        ·have hi2:i<sz:=by simp only[Array.size_extract]at hi;omega
         have hj2:i<(as.drop off).length:=by omega
         rw[t3 i (by omega) hj2]
         simp only[Array.getElem_extract,List.getElem_drop]
         exact(hv (off+i) (by simp only[Array.size_extract]at hi;omega)).cp
       ·intro r1 hr1
        simp only[refs,refs3,List.mem_flatMap]at hr1
        obtain⟨c,hcm,hrc⟩:=hr1
        obtain⟨j,hj,rfl⟩:=List.getElem_of_mem hcm
        have hj2:j<(as.drop off).length:=by omega
        rw[t3 j hj hj2,refs2_cp]at hrc
        exact⟨_,List.mem_of_mem_drop (List.getElem_mem hj2),hrc⟩
      ·cases hu'
     |false=>
      simp only[loadC]at hu'
      split at hu'
      ·rename_i c rest hdr
       injection hu' with hu';subst hu'
       have hlt:off<as.length:=by
        rcases Nat.lt_or_ge off as.length with hh|hh
        ·exact hh
        ·rw[List.drop_eq_nil_of_le hh]at hdr;cases hdr
       have hc:as[off]=c:=by
        rw[List.drop_eq_getElem_cons hlt]at hdr
        injection hdr
       have hlt2:off<cs.size:=by omega
       refine⟨cs[off],?_,?_,notOwn_cp _,?_⟩
       ·simp only[part,Sem.run_bind,run_isAgg hag,Result.andThen_ok,Bool.false_eq_true,if_false,Array.getElem?_eq_getElem hlt2];rfl
       ·have:=(hv off hlt2).cp;rw[hc]at this;exact this
       ·intro r hr
        have hm:c∈as:=by rw[←hc];exact List.getElem_mem hlt
        have hfc:=(hfl c hm).1
        refine⟨c,hm,?_⟩
        rw[refs_cp]at hr
        cases c<;>first|exact hr|cases hfc
      ·cases hu'
    obtain⟨y,y1,y2,y3,y4⟩:=key
    refine g.same (v':=y) ?_ y2 (.of y3) fun r hr=>q3 r ?_
    ·simp only[execOp,hop,Instr.field,Sem.run_bind,run_underlying hu,Result.andThen_ok,hfs,hvx,asAgg,Sem.run_pure,hoff,y1]
    ·obtain⟨c,hc1,hc2⟩:=y4 r hr
     exact List.mem_flatMap.2 ⟨c,hc1,hc2⟩
  |_=>rw[hvx]at q1;cases q1
 |_=>rw[hb]at ho;cases ho
end
section
variable {P:Program} {Γ:Glob} {N0:Base Γ} {w:World} {F X:Cell→Prop} {β:Nat→Cell} {Ow:Key→Cell→Prop} {env env':Env} {h h':Heap} {v:Value} {a a':AV} {act:Act} {R:CallF} {o:Oper}
theorem eptCells {b oo:Nat}{cs:List AV}{val:Nat→Value}(hd: ∀c∈cs,c.dcell=true)(hv: ∀j,j<cs.length→cat w (b,oo+j)=some (val j)∧¬X (b,oo+j))(hh: ∀j (hj:j<cs.length),VRel w X β (val j) cs[j]):
 CellsAt w X β b oo cs:=by
 intro j hj
 refine⟨?_,val j,(hv j hj).1,hh j hj⟩
 have:=hd _ (List.getElem_mem hj)
 revert this
 generalize cs[j]=c
 intro hc
 cases c<;>first|rfl|cases hc
theorem snd_ld (g:GR N0 w F β Ow (slots act) env h v a){t sz:Nat}{ag:Bool}{x:Operand}{x':Opd}(h1:okT x x'=true)(hz:szT P t=some sz)(hag:aggT P t=some ag)(hop:o.op= .load t x)
 (ho:opv R env h (.ld sz ag x')=some (a',env',h')):Out P N0 w F β h (XX F Ow) act env' h' ((execOp act.eval o).run P w) a':=by
 obtain⟨q1,q2,q3⟩:=g.opT h1
 simp only[opv]at ho
 cases hb:evo env x' with
 |ptr nm off=>
  rw[hb]at ho q1 q3
  simp only[Option.bind_eq_some_iff,Option.map_eq_some_iff,zpi]at ho
  obtain⟨ob,hob,u,hu,rfl,rfl,rfl⟩:=ho
  obtain⟨y,y1,y2,y3,y4⟩:=load_cells (g.obj nm ob hob).cells hu hz hag
  refine g.same (v':=y) ?_ y2 (.of y3) fun r hr=> ?_
  ·simp only[execOp,hop,Instr.loadAt,q1.toPtr,Instr.sureAddr,Sem.run_bind,Sem.run_pure,Result.andThen_ok,y1]
  ·obtain⟨c,hc1,hc2⟩:=y4 r hr
   exact g.refH nm ob hob c hc1 r hc2
 |ept cs off=>
  rw[hb]at ho q1 q3
  simp only[Option.map_eq_some_iff,zpi]at ho
  obtain⟨u,hu,rfl,rfl,rfl⟩:=ho
  cases hvx:act.eval x with
  |pointer A=>
   rw[hvx]at q1
   cases q1 with
   |ept b oo off cs val hd hv hh=>
    obtain⟨y,y1,y2,y3,y4⟩:=load_cells (eptCells hd hv hh) hu hz hag
    refine g.same (v':=y) ?_ y2 (.of y3) fun r hr=> ?_
    ·simp only[execOp,hop,Instr.loadAt,hvx,Instr.sureAddr,Sem.run_bind,Sem.run_pure,Result.andThen_ok,y1]
    ·obtain⟨c,hc1,hc2⟩:=y4 r hr
     rw[dcell_refs2 (hd c hc1)]at hc2;cases hc2
  |_=>rw[hvx]at q1;cases q1
 |_=>rw[hb]at ho;cases ho
def takeC (Ow:Key→Cell→Prop)(nm j:Nat):Key→Cell→Prop:=fun k c=>if k= .val then Ow (.cell nm j) c else if k= .cell nm j then False else Ow k c
theorem GR.takeCell (g:GR N0 w F β Ow (slots act) env h v a){nm j:Nat}{ob:Obj}(hob:hget h nm=some ob)(hw:ob.wr=true)(hj:j<ob.cells.length):
 ∃u,cat w (place β nm j)=some u∧GR N0 w F β (takeC Ow nm j) (slots act) env (hset h nm {ob with cells:=ob.cells.set j (ob.cells[j].cp)}) u ob.cells[j]∧(∀c,XX F (takeC Ow nm j) c→XX F Ow c):=by
 obtain⟨q1,u,q2,q3,q4⟩:=(g.obj nm ob hob).cell j hj
 have hf: ∀k c,takeC Ow nm j k c→∃k',Ow k' c:=by
  intro k c hk
  simp only[takeC]at hk
  split at hk
  ·exact⟨_,hk⟩
  ·split at hk
   ·exact hk.elim
   ·exact⟨_,hk⟩
 have hx: ∀c,XX F (takeC Ow nm j) c→XX F Ow c:=fun c h=>h.imp id fun⟨k,hk⟩=>hf k c hk
 have kp:=(Kp.refl N0 w (XX F Ow)).shrink hx
 have hr: ∀r,(hget h r).isSome=true→(hget (hset h nm {ob with cells:=ob.cells.set j (ob.cells[j].cp)}) r).isSome=true:=by
  intro r h1
  rw[hget_hset h nm _ ob hob];split
  ·rfl
  ·exact h1
 refine⟨u,q2,?_,hx⟩
 exact{
  inv:=g.inv.le hf (by
   intro k k' c h1 h2
   simp only[takeC]at h1 h2
   split at h1<;>split at h2
   ·rename_i e1 e2;rw[e1,e2]
   ·split at h2
    ·exact h2.elim
    ·rename_i e1 e2 e3
     exact absurd (g.inv.apart _ _ _ h1 h2).symm e3
   ·split at h1
    ·exact h1.elim
    ·rename_i e1 e2 e3
     exact absurd (g.inv.apart _ _ _ h1 h2) e3
   ·split at h1
    ·exact h1.elim
    ·split at h2
     ·exact h2.elim
     ·exact g.inv.apart _ _ _ h1 h2)
  slot:=fun k=>⟨(g.slot k).1.mono kp,(g.slot k).2.mono fun c hc=>by simp[takeC,hc]⟩
  val:=⟨q3.mono kp,q4.mono fun c hc=>by simp[takeC,hc]⟩
  obj:=by
   intro n2 ob2 h2
   rw[hget_hset h nm _ ob hob]at h2
   by_cases e:n2=nm
   ·subst e
    simp only[if_true,zsi]at h2
    subst h2
    have q:=g.obj n2 ob hob
    refine⟨fun i hi=> ?_,fun _ i hi=> ?_,fun hf2=>by rw[hw]at hf2;cases hf2⟩
    ·simp only[List.length_set]at hi
     simp only[List.getElem_set]
     by_cases hij:j=i
     ·subst hij
      simp only[if_true]
      exact⟨cp_isCell q1,u,q2,(q3.mono kp).cp,ownOk_cp _⟩
     ·simp only[hij,if_false]
      obtain⟨c1,u',c2,c3,c4⟩:=q.cell i hi
      refine⟨c1,u',c2,c3.mono kp,c4.mono fun c hc=> ?_⟩
      have: ¬i=j:=fun e=>hij e.symm
      simp[takeC,hc,this]
    ·have:=q.wr hw i (by simpa using hi)
     simpa [takeC]using this
   ·simp only[e,if_false]at h2
    exact(g.obj n2 ob2 h2).le hx (fun i c hc=>by simp[takeC,e,hc]) fun c hc=>by simp[takeC,hc]
  refE:=fun k r h1=>hr r (g.refE k r h1)
  refV:=fun r h1=>hr r (g.refH nm ob hob _ (List.getElem_mem hj) r (by
   revert h1 q1
   generalize ob.cells[j]=c
   intro q1 h1
   cases c<;>first|exact h1|exact absurd q1 (by simp)))
  refH:=by
   intro n2 ob2 h2 c hc r hrr
   rw[hget_hset h nm _ ob hob]at h2
   by_cases e:n2=nm
   ·subst e
    simp only[if_true,zsi]at h2
    subst h2
    simp only at hc
    rcases List.mem_or_eq_of_mem_set hc with hc|hc
    ·exact hr r (g.refH n2 ob hob c hc r hrr)
    ·subst hc
     rw[refs2_cp]at hrr
     exact hr r (g.refH n2 ob hob _ (List.getElem_mem hj) r hrr)
   ·simp only[e,if_false]at h2
    exact hr r (g.refH n2 ob2 h2 c hc r hrr)}
theorem snd_ldx (g:GR N0 w F β Ow (slots act) env h v a){t:Nat}{x:Operand}{x':Opd}(h1:okT x x'=true)(hag:aggT P t=some false)(hop:o.op= .load t x)
 (ho:opv R env h (.ldx x')=some (a',env',h')):Out P N0 w F β h (XX F Ow) act env' h' ((execOp act.eval o).run P w) a':=by
 obtain⟨q1,q2,q3⟩:=g.opT h1
 simp only[opv]at ho
 cases hb:evo env x' with
 |ptr nm off=>
  rw[hb]at ho q1 q3
  simp only[Option.bind_eq_some_iff]at ho
  obtain⟨ob,hob,ho⟩:=ho
  split at ho
  ·rename_i hw
   simp only[Option.map_eq_some_iff,zpi]at ho
   obtain⟨u,hu,rfl,rfl,rfl⟩:=ho
   obtain⟨hj,rfl⟩:=List.getElem?_eq_some_iff.1 hu
   obtain⟨y,y1,y2,y3⟩:=g.takeCell hob hw hj
   refine⟨y,w,β,_,.inl ?_,y2,(Kp.refl N0 w _).shrink y3,FF.refl _ _,fun _ _ _=>rfl⟩
   simp only[execOp,hop,Instr.loadAt,q1.toPtr,Instr.sureAddr,Sem.run_bind,Sem.run_pure,Result.andThen_ok,loadVar,run_isAgg hag,Bool.false_eq_true,if_false,run_load]
   rw[show w.cell? ⟨(β nm).1,(β nm).2+off,none⟩=some y from y1]
   rfl
  ·cases ho
 |_=>rw[hb]at ho;cases ho
theorem cells_len {v:Value}{a:AV}(h:VRel w X β v a)(hc:a.cells.all AV.isCell=true):
 v.cells.size=a.cells.length∧∀i (h1:i<v.cells.toList.length) (h2:i<a.cells.length),VRel w X β v.cells.toList[i] a.cells[i]:=by
 have single: ∀(v:Value) (a:AV),VRel w X β v a→v.cells= #[v]→a.cells=[a]→v.cells.size=a.cells.length∧∀i (h1:i<v.cells.toList.length) (h2:i<a.cells.length),VRel w X β v.cells.toList[i] a.cells[i]:=by
  intro v a h e1 e2
  refine⟨by rw[e1,e2];rfl,fun i h1 h2=> ?_⟩
  have hi:i=0:=by rw[e2]at h2;simpa using h2
  subst hi
  have e3:v.cells.toList[0]=v:=by simp[e1]
  have e4:a.cells[0]=a:=by
   have: ∀(l:List AV) (hl:0<l.length),l=[a]→l[0]=a:=by intro l hl e;subst e;rfl
   exact this _ h2 e2
  rw[e3,e4];exact h
 cases h with
 |agg cs as hl hf h=>exact⟨hl,fun i h1 h2=>h i (by simpa [Value.cells]using h1)⟩
 |undef v=>simp at hc
 |nov=>simp at hc
 |tup cs as hl hf h=>simp at hc
 |bool b=>exact single _ _ (.bool b) rfl rfl
 |int k n=>exact single _ _ (.int k n) rfl rfl
 |str s l h=>exact single _ _ (.str s l h) rfl rfl
 |lst0 A cap g hg=>exact single _ _ (.lst0 A cap g hg) rfl rfl
 |lst b o e cap g xs val hc' hg hx hv h=>exact single _ _ (.lst b o e cap g xs val hc' hg hx hv h) rfl rfl
 |arr A nm off len cap e ag hc' hA=>exact single _ _ (.arr A nm off len cap e ag hc' hA) rfl rfl
 |arw A nm len cap e ag hc' hA=>exact single _ _ (.arw A nm len cap e ag hc' hA) rfl rfl
 |ptr nm off=>exact single _ _ (.ptr nm off) rfl rfl
 |ept b o off cs val hd hv h=>exact single _ _ (.ept b o off cs val hd hv h) rfl rfl
 |nilp=>exact single _ _ .nilp rfl rfl
 |fn f cs as hl hf h=>exact single _ _ (.fn f cs as hl hf h) rfl rfl
 |fnB f bs as hl hd h=>exact single _ _ (.fnB f bs as hl hd h) rfl rfl
theorem cells_refs (a:AV)(hc:a.cells.all AV.isCell=true): ∀c∈a.cells,∀r∈refs2 c,r∈refs a:=by
 intro c hm r hr
 cases a with
 |agg cs=>exact List.mem_flatMap.2 ⟨c,hm,hr⟩
 |tup vs=>simp at hc
 |undef=>simp at hc
 |nov=>simp at hc
 |_=>simp only[AV.cells,List.mem_singleton]at hm;subst hm;exact hr
theorem cells_own {S:Cell→Prop}{v:Value}{a:AV}(h:VRel w X β v a)(ho:OwnOk S v a)(hc:a.cells.all AV.isCell=true):
 ∀i (h1:i<v.cells.toList.length) (h2:i<a.cells.length),(a.cells[i]).notOwn=true∨(v.cells.toList.length=1∧OwnOk S v.cells.toList[i] a.cells[i]):=by
 intro i h1 h2
 by_cases hn:a.notOwn=true
 ·left
  cases a with
  |agg cs=>
   cases v with
   |agg ys=>cases h with|agg _ _ hl hf _=>exact(hf _ (List.getElem_mem h2)).2
   |_=>cases h
  |_=>
   have hi0:i=0:=by simpa using h2
   subst hi0
   exact hn
 ·right
  cases a with
  |lst gg xs=>
   have hi0:i=0:=by simpa using h2
   subst hi0
   have hys:v.cells.toList=[v]:=by
    cases v with
    |slice A l c=>rfl
    |_=>cases h
   refine⟨by rw[hys];rfl,?_⟩
   have:v.cells.toList[0]=v:=by
    have: ∀(l:List Value) (hl:0<l.length),l=[v]→l[0]=v:=by intro l hl e;subst e;rfl
    exact this _ h1 hys
   rw[this]
   exact ho
  |arw nm n e ag=>
   have hi0:i=0:=by simpa using h2
   subst hi0
   have hys:v.cells.toList=[v]:=by
    cases v with
    |slice A l c=>rfl
    |_=>cases h
   refine⟨by rw[hys];rfl,?_⟩
   have:v.cells.toList[0]=v:=by
    have: ∀(l:List Value) (hl:0<l.length),l=[v]→l[0]=v:=by intro l hl e;subst e;rfl
    exact this _ h1 hys
   rw[this]
   exact ho
  |_=>exact absurd rfl hn
theorem snd_st (g:GR N0 w F β Ow (slots act) env h v a){t sz:Nat}{x y:Operand}{x' y':Opd}(h1:okT x x'=true)(h2:okX y y'=true)(hz:szT P t=some sz)(hop:o.op= .store t x y)
 (ho:opv R env h (.st sz x' y')=some (a',env',h')):Out P N0 w F β h (XX F Ow) act env' h' ((execOp act.eval o).run P w) a':=by
 obtain⟨q1,-,-⟩:=g.opT h1
 obtain⟨Ow',hX,g'⟩:=g.opX h2
 simp only[opv]at ho
 cases hb:evo env x' with
 |ptr nm off=>
  rw[hb]at ho q1
  simp only[Option.bind_eq_some_iff]at ho
  obtain⟨ob,hob,ho⟩:=ho
  split at ho
  ·rename_i hc
   obtain⟨hw,hcl,hcc⟩:=hc
   simp only[Option.map_eq_some_iff,zpi]at ho
   obtain⟨cs,hcs,rfl,rfl,rfl⟩:=ho
   obtain⟨e1,e2⟩:=cells_len g'.val.1 hcc
   have el:(act.eval y).cells.toList.length=(evo env y').cells.length:=by simpa using e1
   obtain⟨k1,k2,k3⟩:=g'.store hob hw off (act.eval y).cells.toList (evo env y').cells cs el hcs (by
    intro i hi
    have hi':i<(evo env y').cells.length:=by omega
    refine⟨e2 i hi hi',?_,?_,?_⟩
    ·exact List.all_eq_true.1 hcc _ (List.getElem_mem hi')
    ·exact fun r hr=>g'.refV r (cells_refs _ hcc _ (List.getElem_mem hi') r hr)
    ·exact cells_own g'.val.1 g'.val.2 hcc i hi hi') undef
   refine⟨undef,_,β,_,.inr ⟨?_,rfl⟩,k1,((Kp.refl N0 w _).shrink hX).trans k2,k3,fun _ _ _=>rfl⟩
   have hlive: ∀j,j<(act.eval y).cells.toList.length→(∃v,cat w ((β nm).1,(β nm).2+off+0+j)=some v)∧cfz w ((β nm).1,(β nm).2+off+0+j)=false:=by
    intro j hj
    have hlt:=(storeC_get off _ _ _ hcs).2.1
    have:=(g.obj nm ob hob).wr hw (off+j) (by omega)
    have:=g.inv.live _ (.inr ⟨_,this⟩)
    simpa [place,Nat.add_assoc]using this
   have hrun:=run_put (P:=P) (β nm).1 ((β nm).2+off) (act.eval y).cells.toList 0 w (by
    intro u hu
    obtain⟨i,hi,rfl⟩:=List.getElem_of_mem hu
    exact(e2 i hi (by omega)).oneCell (List.all_eq_true.1 hcc _ (List.getElem_mem (by omega)))) hlive
   have hsz: ¬((act.eval y).cells.size≠sz):=by rw[e1,hcl];simp
   simp only[Nat.add_zero]at hrun
   simp only[execOp,hop,Instr.storeAt,q1.toPtr,Instr.sureAddr,Sem.run_bind,Sem.run_pure,Result.andThen_ok,storeVar,run_sizeOf hz,hsz,if_false]
   rw[hrun];rfl
  ·cases ho
 |_=>rw[hb]at ho;cases ho
theorem snd_mk (g:GR N0 w F β Ow (slots act) env h v a){f:Nat}{caps:Array Operand}{caps':List Opd}(h1:okTs caps.toList caps'=true)(hop:o.op= .makeFunc (.func f) #[] caps)
 (ho:opv R env h (.mk f caps')=some (a',env',h')):Out P N0 w F β h (XX F Ow) act env' h' ((execOp act.eval o).run P w) a':=by
 simp only[opv]at ho
 split at ho
 ·rename_i hp
  simp only[zsi,zpi]at ho
  obtain⟨rfl,rfl,rfl⟩:=ho
  have key: ∀(xs:List Operand) (ys:List Opd),okTs xs ys=true→xs.length=ys.length∧∀i (h1:i<xs.length) (h2:i<ys.length),okT xs[i] ys[i]=true:=by
   intro xs
   induction xs with
   |nil=>intro ys h;cases ys with
    |nil=>exact⟨rfl,fun i h1=>absurd h1 (by simp)⟩
    |cons=>cases h
   |cons x r ih=>
    intro ys h
    cases ys with
    |nil=>cases h
    |cons y s=>
     simp only[okTs,zba]at h
     obtain⟨i1,i2⟩:=ih s h.2
     refine⟨by simp[i1],fun i h1 h2=> ?_⟩
     cases i with
     |zero=>exact h.1
     |succ i=>exact i2 i (by simpa using h1) (by simpa using h2)
  obtain⟨e1,e2⟩:=key _ _ h1
  refine g.same (v':=.func (.func f) #[] (caps.map act.eval)) (by simp[execOp,hop,Instr.makeFunc]) ?_ (.of rfl) ?_
  ·refine .fn f _ _ (by simpa using e1) (fun c hc=>List.all_eq_true.1 hp c hc) fun i hi=> ?_
   have hi1:i<caps.size:=by simpa using hi
   have hi2:i<caps'.length:=by simp at e1;omega
   simp only[Array.getElem_map,List.getElem_map]
   have:=(g.opT (e2 i (by simpa using hi1) hi2)).1
   simpa using this
  ·intro r hr
   simp only[refs,refs3,refs2,List.mem_flatMap,List.mem_map]at hr
   obtain⟨c,⟨y,hy,rfl⟩,hr2⟩:=hr
   obtain⟨i,hi,rfl⟩:=List.getElem_of_mem hy
   have hq:=(g.opT (e2 i (by omega) hi)).2.2
   refine hq r ?_
   revert hr2
   generalize evo env caps'[i]=c
   intro hr2
   cases c<;>first|exact hr2|(simp at hr2)
 ·cases ho
theorem VRel.dtE {w:World}{X:Cell→Prop}{β:Nat→Cell}{v:Value}{a:AV}(h:VRel w X β v a):VRel w X β v a.dtE:=by
 cases a with
 |agg as=>
  cases h with
  |agg cs as hl hf h=>
   refine .agg cs (as.map AV.dt) (by simpa using hl) (fun c hc=> ?_) fun i hi=> ?_
   ·obtain⟨c',hc',rfl⟩:=List.mem_map.1 hc
    obtain⟨h1,h2⟩:=hf c' hc'
    cases c'<;>first|exact⟨rfl,rfl⟩|exact⟨h1,h2⟩
   ·have hi':i<as.length:=hl▸hi
    simp only[List.getElem_map]
    exact(h i hi).dt
 |_=>exact h.dt
theorem snd_mkB (g:GR N0 w F β Ow (slots act) env h v a){f:Nat}{caps:Array Operand}{caps':List Opd}(h1:okTs caps.toList caps'=true)
 (hop:o.op= .makeFunc (.func f) caps #[])
 (ho:opv R env h (.mkB f caps')=some (a',env',h')):Out P N0 w F β h (XX F Ow) act env' h' ((execOp act.eval o).run P w) a':=by
 simp only[opv]at ho
 split at ho
 ·rename_i hp
  simp only[zsi,zpi]at ho
  obtain⟨rfl,rfl,rfl⟩:=ho
  have hp':=List.all_eq_true.1 hp
  have key: ∀(xs:List Operand) (ys:List Opd),okTs xs ys=true→xs.length=ys.length∧∀i (h1:i<xs.length) (h2:i<ys.length),okT xs[i] ys[i]=true:=by
   intro xs
   induction xs with
   |nil=>intro ys h;cases ys with
    |nil=>exact⟨rfl,fun i h1=>absurd h1 (by simp)⟩
    |cons=>cases h
   |cons x r ih=>
    intro ys h
    cases ys with
    |nil=>cases h
    |cons y s=>
     simp only[okTs,zba]at h
     obtain⟨i1,i2⟩:=ih s h.2
     refine⟨by simp[i1],fun i h1 h2=> ?_⟩
     cases i with
     |zero=>exact h.1
     |succ i=>exact i2 i (by simpa using h1) (by simpa using h2)
  obtain⟨e1,e2⟩:=key _ _ h1
  refine g.same (v':=.func (.func f) (caps.map act.eval) #[]) (by simp[execOp,hop,Instr.makeFunc]) ?_ (.of rfl) ?_
  ·refine .fnB f _ _ (by simpa using e1) (fun c hc=>hp' c hc) fun i hi=> ?_
   have hi1:i<caps.size:=by simpa using hi
   have hi2:i<caps'.length:=by simp at e1;omega
   simp only[Array.getElem_map,List.getElem_map]
   have:=(g.opT (e2 i (by simpa using hi1) hi2)).1
   exact VRel.dtE (by simpa using this)
  ·intro r hr
   simp[refs,refs3,refs2,refs1]at hr
 ·cases ho
end
section
variable {P:Program} {Γ:Glob} {N0:Base Γ} {w:World} {F X:Cell→Prop} {β:Nat→Cell} {Ow:Key→Cell→Prop} {env env':Env} {h h':Heap} {v:Value} {a a':AV} {act:Act} {R:CallF} {o:Oper}
def flatF (f:TypeId→Option (List CK))(P:Program):Nat→List Field→Option (List CK)
 |_,[]=>some []
 |off,fd::r=>if fd.name≠ "_" ∧fd.offset=off then
   match f fd.type,aggT P fd.type with
   |some ks,some ag=>if szT P fd.type=some ks.length∧(ag=true∨ks.length=1)∧ks.length≠0 then(flatF f P (off+ks.length) r).map (ks++ ·)else none
   |_,_=>none
  else none
def flatT (P:Program):Nat→TypeId→Option (List CK)
 |0,_=>none
 |d+1,t=>
  match P.underlying t with
  |some (.int k)=>some [.i k]
  |some .string=>some [.s]
  |some .bool=>some [.b]
  |some (.struct fs)=>if P.stoodInHeld t then none else flatF (flatT P d) P 0 fs.toList
  |some (.array n e)=>
   match flatT P d e,aggT P e with
   |some ks,some ag=>if szT P e=some ks.length∧(ag=true∨ks.length=1)∧ks.length≠0 then some ((List.replicate n ks).flatten)else none
   |_,_=>none
  |_=>none
def Shows (w:World)(X:Cell→Prop)(β:Nat→Cell)(ag:Bool)(x:Value)(as:List AV):Prop:=
 match ag with
 |true=> ∃cs,x= .agg cs∧cs.size=as.length∧∀i (h1:i<cs.size) (h2:i<as.length),VRel w X β cs[i] as[i]
 |false=> ∃a,as=[a]∧VRel w X β x a
theorem shows_part {cs:Array Value}{as:List AV}(hl:cs.size=as.length)(hv: ∀i (h1:i<cs.size) (h2:i<as.length),VRel w X β cs[i] as[i]){t n off:Nat}{ag:Bool}
 (hz:szT P t=some n) (hag:aggT P t=some ag) (h1:ag=true∨n=1) (hb:off+n≤as.length):
 ∃y,(part t cs off).run P w= .ok y w∧Shows w X β ag y ((as.drop off).take n):=by
 cases ag with
 |true=>
  refine⟨.agg (cs.extract off (off+n)),by simp[part,run_isAgg hag,run_sizeOf hz],cs.extract off (off+n),rfl,by simp;omega,fun i h1 h2=> ?_⟩
  simp only[Array.getElem_extract,List.getElem_take,List.getElem_drop]
  exact hv _ _ _
 |false=>
  have hn:n=1:=by simpa using h1
  subst hn
  have hlt:off<cs.size:=by omega
  have hlt2:off<as.length:=by omega
  refine⟨cs[off],?_,as[off],?_,hv _ _ _⟩
  ·simp only[part,Sem.run_bind,run_isAgg hag,Result.andThen_ok,Bool.false_eq_true,if_false,Array.getElem?_eq_getElem hlt];rfl
  ·rw[List.drop_eq_getElem_cons hlt2];rfl
theorem eqCells_len (ks:List CK): ∀(as bs:List AV) {r:Bool},eqCells ks as bs=some r→as.length=ks.length∧bs.length=ks.length:=by
 induction ks with
 |nil=>
  intro as bs r h
  cases as<;>cases bs<;>first|exact⟨rfl,rfl⟩|cases h
 |cons k ks ih=>
  intro as bs r h
  cases as with
  |nil=>cases k<;>cases bs<;>cases h
  |cons a as=>
   cases bs with
   |nil=>cases k<;>cases a<;>cases h
   |cons b bs=>
    cases k<;>cases a<;>cases b<;>simp only[eqCells]at h<;>try(cases h;done)
    ·split at h
     ·simp only[Option.map_eq_some_iff]at h;obtain⟨r0,h0,-⟩:=h;obtain⟨e1,e2⟩:=ih _ _ h0;exact⟨by simp[e1],by simp[e2]⟩
     ·cases h
    ·simp only[Option.map_eq_some_iff]at h;obtain⟨r0,h0,-⟩:=h;obtain⟨e1,e2⟩:=ih _ _ h0;exact⟨by simp[e1],by simp[e2]⟩
    ·simp only[Option.map_eq_some_iff]at h;obtain⟨r0,h0,-⟩:=h;obtain⟨e1,e2⟩:=ih _ _ h0;exact⟨by simp[e1],by simp[e2]⟩
theorem eqCells_app (ks ks':List CK): ∀(as bs:List AV) (r:Bool),eqCells (ks++ks') as bs=some r→
 ∃r1 r2,eqCells ks (as.take ks.length) (bs.take ks.length)=some r1∧eqCells ks' (as.drop ks.length) (bs.drop ks.length)=some r2∧r=(r1&&r2):=by
 induction ks with
 |nil=>intro as bs r h;exact⟨true,r,by simp[eqCells],by simpa using h,by simp⟩
 |cons k ks ih=>
  intro as bs r h
  simp only[List.cons_append]at h
  cases as with
  |nil=>cases k<;>cases bs<;>cases h
  |cons a as=>
   cases bs with
   |nil=>cases k<;>cases a<;>cases h
   |cons b bs=>
    cases k<;>cases a<;>cases b<;>simp only[eqCells]at h<;>try(cases h;done)
    ·rename_i k j x j' y
     split at h
     ·rename_i hk
      simp only[Option.map_eq_some_iff]at h
      obtain⟨r0,h0,rfl⟩:=h
      obtain⟨r1,r2,e1,e2,rfl⟩:=ih _ _ _ h0
      exact⟨decide (x=y)&&r1,r2,by simp[eqCells,e1,hk],by simpa using e2,by simp[Bool.and_assoc]⟩
     ·cases h
    ·rename_i x y
     simp only[Option.map_eq_some_iff]at h
     obtain⟨r0,h0,rfl⟩:=h
     obtain⟨r1,r2,e1,e2,rfl⟩:=ih _ _ _ h0
     exact⟨decide (x=y)&&r1,r2,by simp[eqCells,e1],by simpa using e2,by simp[Bool.and_assoc]⟩
    ·rename_i x y
     simp only[Option.map_eq_some_iff]at h
     obtain⟨r0,h0,rfl⟩:=h
     obtain⟨r1,r2,e1,e2,rfl⟩:=ih _ _ _ h0
     exact⟨decide (x=y)&&r1,r2,by simp[eqCells,e1],by simpa using e2,by simp[Bool.and_assoc]⟩
def EqOk (P:Program)(w:World)(X:Cell→Prop)(β:Nat→Cell)(D:Nat)(t:TypeId)(ks:List CK):Prop:=
 ∀(ag:Bool) (x y:Value) (as bs:List AV) (r:Bool),aggT P t=some ag→Shows w X β ag x as→Shows w X β ag y bs→eqCells ks as bs=some r→(Op.equalIn D t x y).run P w= .ok r w
theorem eqFields_run {D:Nat}{xs ys:Array Value}{as bs:List AV}(hl1:xs.size=as.length)(hv1: ∀i (h1:i<xs.size) (h2:i<as.length),VRel w X β xs[i] as[i])
 (hl2:ys.size=bs.length) (hv2: ∀i (h1:i<ys.size) (h2:i<bs.length),VRel w X β ys[i] bs[i]) (f:TypeId→Option (List CK)) (hf: ∀t ks,f t=some ks→EqOk P w X β D t ks) (fs:List Field):
 ∀(off:Nat) (ks:List CK) (r:Bool),flatF f P off fs=some ks→eqCells ks (as.drop off) (bs.drop off)=some r→(Op.eqFields D xs ys fs).run P w= .ok r w:=by
 induction fs with
 |nil=>
  intro off ks r h1 h2
  simp only[flatF,zsi]at h1
  subst h1
  obtain⟨e1,e2⟩:=eqCells_len _ _ _ h2
  rw[List.eq_nil_of_length_eq_zero e1,List.eq_nil_of_length_eq_zero e2]at h2
  simp only[eqCells,zsi]at h2
  subst h2
  simp[Op.eqFields]
 |cons fd fs ih=>
  intro off ks r h1 h2
  simp only[flatF]at h1
  split at h1
  ·rename_i hfd
   split at h1
   ·rename_i ks1 ag hk1 hag
    split at h1
    ·rename_i hz
     simp only[Option.map_eq_some_iff]at h1
     obtain⟨ks2,h3,rfl⟩:=h1
     obtain⟨l1,l2⟩:=eqCells_len _ _ _ h2
     simp only[List.length_drop,List.length_append]at l1 l2
     obtain⟨r1,r2,e1,e2,rfl⟩:=eqCells_app _ _ _ _ _ h2
     rw[List.drop_drop,List.drop_drop]at e2
     have hr2:=ih _ _ _ h3 e2
     have hb: ∀{n m:Nat},n-off=ks1.length+m→ks1.length≠0→off+ks1.length≤n:=by intro n m h4 h5;omega
     have hle1:off+ks1.length≤as.length:=hb l1 hz.2.2
     have hle2:off+ks1.length≤bs.length:=hb l2 hz.2.2
     obtain⟨p,p1,p2⟩:=shows_part (P:=P) hl1 hv1 hz.1 hag hz.2.1 hle1
     obtain⟨q,q1,q2⟩:=shows_part (P:=P) hl2 hv2 hz.1 hag hz.2.1 hle2
     have heq:=hf _ _ hk1 ag p q _ _ r1 hag p2 q2 e1
     rw[Op.eqFields]
     simp only[hfd.1,ne_eq,not_false_eq_true,if_true,hfd.2,Sem.run_bind,p1,q1,heq,Result.andThen_ok]
     cases r1
     ·simp
     ·simpa using hr2
    ·cases h1
   ·cases h1
  ·cases h1
theorem eqItems_run {D:Nat}{xs ys:Array Value}{as bs:List AV}(hl1:xs.size=as.length)(hv1: ∀i (h1:i<xs.size) (h2:i<as.length),VRel w X β xs[i] as[i])
 (hl2:ys.size=bs.length) (hv2: ∀i (h1:i<ys.size) (h2:i<bs.length),VRel w X β ys[i] bs[i]) {e:TypeId} {ks:List CK} {ag:Bool} (hf:EqOk P w X β D e ks)
 (hz:szT P e=some ks.length) (hag:aggT P e=some ag) (h1:ag=true∨ks.length=1) (h0:ks.length≠0) (n:Nat):
 ∀(i:Nat) (r:Bool),eqCells ((List.replicate n ks).flatten) (as.drop (i*ks.length)) (bs.drop (i*ks.length))=some r→(Op.eqItems D e ks.length xs ys (List.range' i n)).run P w= .ok r w:=by
 induction n with
 |zero=>
  intro i r h2
  obtain⟨e1,e2⟩:=eqCells_len _ _ _ h2
  have e1':as.drop (i*ks.length)=[]:=List.eq_nil_of_length_eq_zero (by simpa using e1)
  have e2':bs.drop (i*ks.length)=[]:=List.eq_nil_of_length_eq_zero (by simpa using e2)
  rw[e1',e2']at h2
  simp only[List.replicate_zero,List.flatten_nil,eqCells,zsi]at h2
  subst h2
  simp[Op.eqItems]
 |succ n ih=>
  intro i r h2
  rw[List.replicate_succ,List.flatten_cons]at h2
  obtain⟨l1,l2⟩:=eqCells_len _ _ _ h2
  simp only[List.length_drop,List.length_append]at l1 l2
  obtain⟨r1,r2,e1,e2,rfl⟩:=eqCells_app _ _ _ _ _ h2
  rw[List.drop_drop,List.drop_drop,show i*ks.length+ks.length=(i+1)*ks.length from by rw[Nat.succ_mul]]at e2
  have hr2:=ih _ _ e2
  obtain⟨p,p1,p2⟩:=shows_part (P:=P) hl1 hv1 hz hag h1 (off:=i*ks.length) (by omega)
  obtain⟨q,q1,q2⟩:=shows_part (P:=P) hl2 hv2 hz hag h1 (off:=i*ks.length) (by omega)
  have heq:=hf ag p q _ _ r1 hag p2 q2 e1
  rw[List.range'_succ]
  simp only[Op.eqItems,Sem.run_bind,p1,q1,heq,Result.andThen_ok]
  cases r1
  ·simp
  ·simpa using hr2
theorem eq_run (d:Nat): ∀(t:TypeId) (ks:List CK),flatT P d t=some ks→∀D,d≤D→EqOk P w X β D t ks:=by
 induction d with
 |zero=>intro t ks h;cases h
 |succ d ih=>
  intro t ks h D hD ag x y as bs r hag hx hy he
  obtain⟨D,rfl⟩: ∃D',D=D'+1:=⟨D-1,by omega⟩
  simp only[flatT]at h
  have single: ∀k td,P.underlying t=some td→descAgg td=false→ks=[k]→∃p q,as=[p]∧bs=[q]∧VRel w X β x p∧VRel w X β y q∧eqCells [k] [p] [q]=some r:=by
   intro k td hu ha hk
   have:ag=false:=by
    unfold aggT at hag;rw[hu]at hag;simp only[Option.map_some,zsi]at hag;rw[←hag,ha]
   subst this
   obtain⟨p,rfl,hp⟩:=hx
   obtain⟨q,rfl,hq⟩:=hy
   exact⟨p,q,rfl,rfl,hp,hq,by rw[←hk];exact he⟩
  split at h
  ·rename_i k hu
   injection h with h
   obtain⟨p,q,rfl,rfl,hp,hq,hk⟩:=single (.i k) _ hu rfl h.symm
   cases p<;>cases q<;>simp only[eqCells]at hk<;>try(cases hk;done)
   split at hk
   ·rename_i hkk
    obtain⟨rfl,hk2⟩:=hkk
    subst hk2
    simp only[Option.map_some,zsi,Bool.and_true]at hk
    rw[hp.toInt,hq.toInt,run_equalIn_int w D t _ _ _ _ hu,←hk]
    congr 1
   ·cases hk
  ·rename_i hu
   injection h with h
   obtain⟨p,q,rfl,rfl,hp,hq,hk⟩:=single .s _ hu rfl h.symm
   cases p<;>cases q<;>simp only[eqCells]at hk<;>try(cases hk;done)
   rename_i s s'
   simp only[Option.map_some,zsi,Bool.and_true]at hk
   obtain⟨b1,rfl,e1⟩:=hp.toStr
   obtain⟨b2,rfl,e2⟩:=hq.toStr
   rw[run_equalIn_string w D t _ _ hu,←hk,ByteArray.toList_eq,ByteArray.toList_eq,e1,e2]
   congr 1
   by_cases hs:s=s'<;>simp[hs]
  ·rename_i hu
   injection h with h
   obtain⟨p,q,rfl,rfl,hp,hq,hk⟩:=single .b _ hu rfl h.symm
   cases p<;>cases q<;>simp only[eqCells]at hk<;>try(cases hk;done)
   simp only[Option.map_some,zsi,Bool.and_true]at hk
   rw[hp.toBool,hq.toBool,run_equalIn_bool w D t _ _ hu,←hk]
   congr 1
  ·rename_i fs hu
   split at h
   ·cases h
   ·rename_i hst
    have:ag=true:=by
     unfold aggT at hag;rw[hu]at hag;simp only[Option.map_some,zsi]at hag;rw[←hag];rfl
    subst this
    obtain⟨xs,rfl,hl1,hv1⟩:=hx
    obtain⟨ys,rfl,hl2,hv2⟩:=hy
    have hfo:P.fieldsOf t=fs:=by simp[Program.fieldsOf,hu]
    rw[run_equalIn_struct w D t xs ys (by rw[hfo];exact hu) (by simpa using hst),hfo]
    exact eqFields_run hl1 hv1 hl2 hv2 (flatT P d) (fun t ks ht=>ih t ks ht D (by omega)) _ 0 ks r h (by simpa using he)
  ·rename_i n e hu
   split at h
   ·rename_i ks1 ag1 hk1 hag1
    split at h
    ·rename_i hz
     injection h with h
     have:ag=true:=by
      unfold aggT at hag;rw[hu]at hag;simp only[Option.map_some,zsi]at hag;rw[←hag];rfl
     subst this
     obtain⟨xs,rfl,hl1,hv1⟩:=hx
     obtain⟨ys,rfl,hl2,hv2⟩:=hy
     obtain⟨i,hi⟩: ∃i,P.info? e=some i:=by
      have:=hz.1
      unfold szT at this
      cases hi:P.info? e with
      |none=>rw[hi]at this;cases this
      |some i=>exact⟨i,rfl⟩
     have hc:P.cellsOf e=ks1.length:=by
      have:=hz.1
      unfold szT at this
      unfold Program.cellsOf
      rw[this];rfl
     rw[run_equalIn_array w D xs ys hu hi,hc,List.range_eq_range']
     exact eqItems_run hl1 hv1 hl2 hv2 (ih e ks1 hk1 D (by omega)) hz.1 hag1 hz.2.1 hz.2.2 n 0 r (by rw[h];simpa using he)
    ·cases h
   ·cases h
  ·cases h
end
section
variable {P:Program} {Γ:Glob} {N0:Base Γ} {w:World} {F X:Cell→Prop} {β:Nat→Cell} {Ow:Key→Cell→Prop} {env env':Env} {h h':Heap} {v:Value} {a a':AV} {act:Act} {R:CallF} {o:Oper}
theorem run_guard_other (op:BinOp)(t:TypeId)(x y:Operand)(p q:Value)(h1:p≠.nilIface)(h2: ∀cs,p≠.agg cs):(eqGuard op t x y p q).run P w= .ok () w:=by
 unfold eqGuard
 cases p<;>cases q<;>first|(cases op<;>rfl)|exact absurd rfl h1|exact absurd rfl (h2 _)
theorem run_bin_int (op:BinOp)(t:TypeId)(k k':IntKind)(m n:Int){r:AV}(hr:binV op (.int k m) (.int k' n)=some r):
 ∃u,(binOp op t (.int k m) (.int k' n)).run P w= .ok u w∧VRel w X β u r∧r.dcell=true∧r.notOwn=true:=by
 have dec: ∀b:Bool,VRel w X β (.bool b) (.bool b):=fun b=>.bool b
 cases op<;>simp only[binV]at hr
 case shl=>
  split at hr
  ·cases hr
  ·rename_i hn
   injection hr with hr;subst hr
   exact⟨_,by simp only[binOp,Op.shift,if_neg hn];rfl,.int _ _,rfl,rfl⟩
 case shr=>
  split at hr
  ·cases hr
  ·rename_i hn
   injection hr with hr;subst hr
   exact⟨_,by simp only[binOp,Op.shift,if_neg hn];rfl,.int _ _,rfl,rfl⟩
 all_goals
  split at hr
  case isFalse=>cases hr
  rename_i hk
  subst hk
 case quo=>
  split at hr
  ·cases hr
  ·rename_i hn
   injection hr with hr;subst hr
   exact⟨_,by simp[binOp,Op.intDiv,hn],.int _ _,rfl,rfl⟩
 case rem=>
  split at hr
  ·cases hr
  ·rename_i hn
   injection hr with hr;subst hr
   exact⟨_,by simp[binOp,Op.intDiv,hn],.int _ _,rfl,rfl⟩
 all_goals
  injection hr with hr;subst hr
 case add=>exact⟨_,by simp[binOp,Op.intArith],.int _ _,rfl,rfl⟩
 case sub=>exact⟨_,by simp[binOp,Op.intArith],.int _ _,rfl,rfl⟩
 case mul=>exact⟨_,by simp[binOp,Op.intArith],.int _ _,rfl,rfl⟩
 case and=>exact⟨_,by simp[binOp,Op.intBits],.int _ _,rfl,rfl⟩
 case or=>exact⟨_,by simp[binOp,Op.intBits],.int _ _,rfl,rfl⟩
 case xor=>exact⟨_,by simp[binOp,Op.intBits],.int _ _,rfl,rfl⟩
 case andNot=>exact⟨_,by simp[binOp,Op.intBits],.int _ _,rfl,rfl⟩
 case eql=>exact⟨.bool (m==n),by simp[binOp,Op.intCmp],by rw[show(m==n)=decide (m=n)from rfl];exact dec _,rfl,rfl⟩
 case neq=>exact⟨.bool (m !=n),by simp[binOp,Op.intCmp],by rw[show(m !=n)=decide (m≠n)from by by_cases hh:m=n<;>simp[hh]];exact dec _,rfl,rfl⟩
 case lss=>exact⟨.bool (decide (m<n)),by simp[binOp,Op.intCmp],dec _,rfl,rfl⟩
 case leq=>exact⟨.bool (decide (m≤n)),by simp[binOp,Op.intCmp],dec _,rfl,rfl⟩
 case gtr=>exact⟨.bool (decide (n<m)),by simp[binOp,Op.intCmp],dec _,rfl,rfl⟩
 case geq=>exact⟨.bool (decide (n≤m)),by simp[binOp,Op.intCmp],dec _,rfl,rfl⟩
theorem beqL (a b:List UInt8):(a==b)=decide (a=b):=by by_cases h:a=b<;>simp[h]
theorem bneL (a b:List UInt8):(!(a==b))=decide (a≠b):=by by_cases h:a=b<;>simp[h]
theorem size_list (x:ByteArray):x.size=x.data.toList.length:=(Array.length_toList).symm
theorem run_bin_str (op:BinOp)(t:TypeId)(x y:ByteArray){r:AV}(hr:binV op (.str x.data.toList) (.str y.data.toList)=some r):
 ∃u,(binOp op t (.string x) (.string y)).run P w= .ok u w∧VRel w X β u r∧r.dcell=true∧r.notOwn=true:=by
 have hs: ∀z:ByteArray,z.toList=z.data.toList:=ByteArray.toList_eq
 have hbin:binOp op t (.string x) (.string y)=Op.stringOp op x y:=by cases op<;>rfl
 rw[hbin]
 cases op<;>simp only[binV]at hr<;>try(cases hr;done)
 case add=>
  split at hr
  ·rename_i hl
   injection hr with hr;subst hr
   refine⟨.string (x++y),?_,.str _ _ (Joins.data_append x y),rfl,rfl⟩
   have e1:=size_list x
   have e2:=size_list y
   have hmax:IntKind.i64.max=9223372036854775807:=by decide
   have hn: ¬(((x.size+y.size:Nat):Int)>IntKind.i64.max):=by rw[hmax,e1,e2];omega
   simp only[Op.stringOp,if_neg hn];rfl
  ·cases hr
 all_goals
  injection hr with hr;subst hr
 case eql=>exact⟨.bool (x.toList==y.toList),by simp[Op.stringOp],by rw[hs,hs,beqL];exact .bool _,rfl,rfl⟩
 case neq=>exact⟨.bool (!(x.toList==y.toList)),by simp[Op.stringOp],by rw[hs,hs,bneL];exact .bool _,rfl,rfl⟩
 case lss=>exact⟨.bool (Op.bytesLess x.toList y.toList),by simp[Op.stringOp],by rw[hs,hs];exact .bool _,rfl,rfl⟩
 case leq=>exact⟨.bool (Op.bytesLess x.toList y.toList||x.toList==y.toList),by simp[Op.stringOp],by rw[hs,hs];exact .bool _,rfl,rfl⟩
 case gtr=>exact⟨.bool (!(Op.bytesLess x.toList y.toList||x.toList==y.toList)),by simp[Op.stringOp],by rw[hs,hs];exact .bool _,rfl,rfl⟩
 case geq=>exact⟨.bool (!Op.bytesLess x.toList y.toList),by simp[Op.stringOp],by rw[hs,hs];exact .bool _,rfl,rfl⟩
theorem same_plain (g:GR N0 w F β Ow (slots act) env h v a){r:AV}{u:Value}(e1:(execOp act.eval o).run P w= .ok (.value u) w)(e3:VRel w (XX F Ow) β u r)(e4:r.dcell=true)(e5:r.notOwn=true):
 Out P N0 w F β h (XX F Ow) act env h ((execOp act.eval o).run P w) r:=by
 refine g.same e1 e3 (.of e5) fun r' hr'=> ?_
 have:refs r=[]:=by
  have:=dcell_refs2 e4
  cases r<;>first|exact this|cases e4
 rw[this]at hr';cases hr'
theorem snd_bin (g:GR N0 w F β Ow (slots act) env h v a){op:BinOp}{t ty:TypeId}{x y:Operand}{x' y':Opd}(h1:okT x x'=true)(h2:okT y y'=true)
 (hop:o.op= .binOp op t x y ty) (ho:opv R env h (.bin op x' y')=some (a',env',h')):Out P N0 w F β h (XX F Ow) act env' h' ((execOp act.eval o).run P w) a':=by
 obtain⟨q1,-,-⟩:=g.opT h1
 obtain⟨p1,-,-⟩:=g.opT h2
 simp only[opv,Option.map_eq_some_iff,zpi]at ho
 obtain⟨r,hr,rfl,rfl,rfl⟩:=ho
 have fin: ∀u,(eqGuard op t x y (act.eval x) (act.eval y)).run P w= .ok () w→(binOp op t (act.eval x) (act.eval y)).run P w= .ok u w→VRel w (XX F Ow) β u r→r.dcell=true→r.notOwn=true→
  Out P N0 w F β h (XX F Ow) act env h ((execOp act.eval o).run P w) r:=by
  intro u e1 e2 e3 e4 e5
  exact same_plain g (u:=u) (by simp only[execOp,hop,Sem.run_bind,e1,e2,Result.andThen_ok,Sem.run_pure]) e3 e4 e5
 cases hx:evo env x' with
 |int k m=>
  rw[hx]at hr q1
  have ex:=q1.toInt
  cases hy:evo env y' with
  |int k' n=>
   rw[hy]at hr p1
   have ey:=p1.toInt
   obtain⟨u,e1,e2,e3,e4⟩:=run_bin_int (P:=P) (w:=w) (X:=XX F Ow) (β:=β) op t k k' m n hr
   exact fin u (run_guard_other _ _ _ _ _ _ (by rw[ex];simp) (by rw[ex];simp)) (by rw[ex,ey];exact e1) e2 e3 e4
  |_=>rw[hy]at hr;cases hr
 |str s=>
  rw[hx]at hr q1
  obtain⟨b1,ex,rfl⟩:=q1.toStr
  cases hy:evo env y' with
  |str s'=>
   rw[hy]at hr p1
   obtain⟨b2,ey,rfl⟩:=p1.toStr
   obtain⟨u,e1,e2,e3,e4⟩:=run_bin_str (P:=P) (w:=w) (X:=XX F Ow) (β:=β) op t b1 b2 hr
   exact fin u (run_guard_other _ _ _ _ _ _ (by rw[ex];simp) (by rw[ex];simp)) (by rw[ex,ey];exact e1) e2 e3 e4
  |_=>rw[hy]at hr;cases hr
 |_=>rw[hx]at hr;cases hr
def negOp (neg:Bool):BinOp:=if neg then .neq else .eql
theorem bin_neq_bool (t:TypeId)(b c:Bool):binOp .neq t (.bool b) (.bool c)=(do pure (.bool (!(←Op.equal t (.bool b) (.bool c))))):=rfl
theorem bin_eql_bool (t:TypeId)(b c:Bool):binOp .eql t (.bool b) (.bool c)=(do pure (.bool (←Op.equal t (.bool b) (.bool c)))):=rfl
theorem bin_neq_ptr (t:TypeId)(b c:Option Addr):binOp .neq t (.pointer b) (.pointer c)=(do pure (.bool (!(←Op.equal t (.pointer b) (.pointer c))))):=rfl
theorem bin_eql_ptr (t:TypeId)(b c:Option Addr):binOp .eql t (.pointer b) (.pointer c)=(do pure (.bool (←Op.equal t (.pointer b) (.pointer c)))):=rfl
theorem snd_eqB (g:GR N0 w F β Ow (slots act) env h v a){neg:Bool}{t ty:TypeId}{x y:Operand}{x' y':Opd}(h1:okT x x'=true)(h2:okT y y'=true)(ht:P.underlying t=some .bool)
 (hop:o.op= .binOp (negOp neg) t x y ty) (ho:opv R env h (.eqB neg x' y')=some (a',env',h')):Out P N0 w F β h (XX F Ow) act env' h' ((execOp act.eval o).run P w) a':=by
 obtain⟨q1,-,-⟩:=g.opT h1
 obtain⟨p1,-,-⟩:=g.opT h2
 simp only[opv]at ho
 cases hx:evo env x' with
 |bool b=>
  cases hy:evo env y' with
  |bool b'=>
   rw[hx,hy]at ho
   rw[hx]at q1
   rw[hy]at p1
   have ex:=q1.toBool
   have ey:=p1.toBool
   simp only[zsi,zpi]at ho
   obtain⟨rfl,rfl,rfl⟩:=ho
   have hg: ∀op,(eqGuard op t x y (.bool b) (.bool b')).run P w= .ok () w:=fun op=>run_guard_other op t x y _ _ (by simp) (by simp)
   have hb:(Op.equal t (.bool b) (.bool b')).run P w= .ok (b==b') w:=run_equalIn_bool w 9999 t b b' ht
   cases neg with
   |true=>
    refine same_plain g (u:=.bool (!(b==b'))) ?_ ?_ rfl rfl
    ·simp only[execOp,hop,Sem.run_bind,hg,Result.andThen_ok,negOp,if_true,ex,ey,bin_neq_bool,hb,Sem.run_pure]
    ·simp only[if_true];rw[show(!(b==b'))=decide (b≠b')from by cases b<;>cases b'<;>rfl];exact .bool _
   |false=>
    refine same_plain g (u:=.bool (b==b')) ?_ ?_ rfl rfl
    ·simp only[execOp,hop,Sem.run_bind,hg,Result.andThen_ok,negOp,Bool.false_eq_true,if_false,ex,ey,bin_eql_bool,hb,Sem.run_pure]
    ·simp only[Bool.false_eq_true,if_false];rw[show(b==b')=decide (b=b')from by cases b<;>cases b'<;>rfl];exact .bool _
  |_=>rw[hx,hy]at ho;cases ho
 |_=>rw[hx]at ho;cases ho
theorem eqp1 {t e:TypeId}(ht:P.underlying t=some (.pointer e))(d:Nat)(q:Option Addr):(Op.equalIn (d+1) t (.pointer none) (.pointer q)).run P w= .ok q.isNone w:=by
 simp[Op.equalIn,run_underlying ht]
theorem eqp2 {t e:TypeId}(ht:P.underlying t=some (.pointer e))(d:Nat)(p:Addr):(Op.equalIn (d+1) t (.pointer (some p)) (.pointer none)).run P w= .ok false w:=by
 simp[Op.equalIn,run_underlying ht]
theorem snd_eqP (g:GR N0 w F β Ow (slots act) env h v a){neg:Bool}{t ty e:TypeId}{x y:Operand}{x' y':Opd}(h1:okT x x'=true)(h2:okT y y'=true)(ht:P.underlying t=some (.pointer e))
 (hop:o.op= .binOp (negOp neg) t x y ty) (ho:opv R env h (.eqP neg x' y')=some (a',env',h')):Out P N0 w F β h (XX F Ow) act env' h' ((execOp act.eval o).run P w) a':=by
 obtain⟨q1,-,-⟩:=g.opT h1
 obtain⟨p1,-,-⟩:=g.opT h2
 simp only[opv]at ho
 have key: ∀(p q:Option Addr) (b:Bool),act.eval x= .pointer p→act.eval y= .pointer q→(Op.equal t (.pointer p) (.pointer q)).run P w= .ok b w→a'= .bool (if neg then !b else b)→env'=env→h'=h→Out P N0 w F β h (XX F Ow) act env' h' ((execOp act.eval o).run P w) a':=by
  intro p q b ex ey hb ea ee eh
  subst ea ee eh
  have hg: ∀op,(eqGuard op t x y (.pointer p) (.pointer q)).run P w= .ok () w:=fun op=>run_guard_other op t x y _ _ (by simp) (by simp)
  cases neg with
  |true=>
   refine same_plain g (u:=.bool (!b)) ?_ ?_ rfl rfl
   ·simp only[execOp,hop,Sem.run_bind,hg,Result.andThen_ok,negOp,if_true,ex,ey,bin_neq_ptr,hb,Sem.run_pure]
   ·simp only[if_true];exact .bool _
  |false=>
   refine same_plain g (u:=.bool b) ?_ ?_ rfl rfl
   ·simp only[execOp,hop,Sem.run_bind,hg,Result.andThen_ok,negOp,Bool.false_eq_true,if_false,ex,ey,bin_eql_ptr,hb,Sem.run_pure]
   ·simp only[Bool.false_eq_true,if_false];exact .bool _
 cases hx:evo env x' with
 |nilp=>
  cases hy:evo env y' with
  |nilp=>
   rw[hx,hy]at ho
   rw[hx]at q1
   rw[hy]at p1
   simp only[zsi,zpi]at ho
   obtain⟨rfl,rfl,rfl⟩:=ho
   have ex:act.eval x= .pointer none:=by generalize act.eval x=z at q1;cases q1;rfl
   have ey:act.eval y= .pointer none:=by generalize act.eval y=z at p1;cases p1;rfl
   exact key none none true ex ey (eqp1 ht 9999 none) (by cases neg<;>rfl) rfl rfl
  |ptr nm off=>
   rw[hx,hy]at ho
   rw[hx]at q1
   rw[hy]at p1
   simp only[zsi,zpi]at ho
   obtain⟨rfl,rfl,rfl⟩:=ho
   have ex:act.eval x= .pointer none:=by generalize act.eval x=z at q1;cases q1;rfl
   exact key none _ false ex p1.toPtr (eqp1 ht 9999 (some _)) (by cases neg<;>rfl) rfl rfl
  |_=>rw[hx,hy]at ho;cases ho
 |ptr nm off=>
  cases hy:evo env y' with
  |nilp=>
   rw[hx,hy]at ho
   rw[hx]at q1
   rw[hy]at p1
   simp only[zsi,zpi]at ho
   obtain⟨rfl,rfl,rfl⟩:=ho
   have ey:act.eval y= .pointer none:=by generalize act.eval y=z at p1;cases p1;rfl
   exact key _ none false q1.toPtr ey (eqp2 ht 9999 _) (by cases neg<;>rfl) rfl rfl
  |_=>rw[hx,hy]at ho;cases ho
 |_=>rw[hx]at ho;cases ho
theorem snd_eqA (g:GR N0 w F β Ow (slots act) env h v a){neg:Bool}{ks:List CK}{t ty:TypeId}{d:Nat}{x y:Operand}{x' y':Opd}(h1:okT x x'=true)(h2:okT y y'=true)
 (ht:flatT P d t=some ks) (hd:d≤10000) (hag:aggT P t=some true) (hgd:P.eqGuardType P.depth t=false)
 (hop:o.op= .binOp (negOp neg) t x y ty) (ho:opv R env h (.eqA neg ks x' y')=some (a',env',h')):Out P N0 w F β h (XX F Ow) act env' h' ((execOp act.eval o).run P w) a':=by
 obtain⟨q1,-,-⟩:=g.opT h1
 obtain⟨p1,-,-⟩:=g.opT h2
 simp only[opv]at ho
 cases hx:evo env x' with
 |agg as=>
  cases hy:evo env y' with
  |agg bs=>
   rw[hx,hy]at ho
   rw[hx]at q1
   rw[hy]at p1
   simp only[Option.map_eq_some_iff,zpi]at ho
   obtain⟨b,hb,rfl,rfl,rfl⟩:=ho
   obtain⟨cs,ex,hl1,hv1⟩: ∃cs,act.eval x= .agg cs∧cs.size=as.length∧∀i (h1:i<cs.size) (h2:i<as.length),VRel w (XX F Ow) β cs[i] as[i]:=by
    generalize act.eval x=z at q1;cases q1 with|agg cs as hl hf hv=>exact⟨cs,rfl,hl,fun i h1 h2=>hv i h1⟩
   obtain⟨ds,ey,hl2,hv2⟩: ∃ds,act.eval y= .agg ds∧ds.size=bs.length∧∀i (h1:i<ds.size) (h2:i<bs.length),VRel w (XX F Ow) β ds[i] bs[i]:=by
    generalize act.eval y=z at p1;cases p1 with|agg cs as hl hf hv=>exact⟨cs,rfl,hl,fun i h1 h2=>hv i h1⟩
   have heq:=eq_run (P:=P) (w:=w) (X:=XX F Ow) (β:=β) d t ks ht 10000 hd true _ _ as bs b hag ⟨cs,rfl,hl1,hv1⟩ ⟨ds,rfl,hl2,hv2⟩ hb
   have hg: ∀op,(eqGuard op t x y (.agg cs) (.agg ds)).run P w= .ok () w:=fun op=>run_eqGuard_agg w op t x y cs ds hgd
   cases neg with
   |true=>
    refine same_plain g (u:=.bool (!b)) ?_ ?_ rfl rfl
    ·simp only[execOp,hop,Sem.run_bind,ex,ey,hg,Result.andThen_ok,negOp,if_true,run_neq_struct,heq,Sem.run_pure]
    ·simp only[if_true];exact .bool _
   |false=>
    refine same_plain g (u:=.bool b) ?_ ?_ rfl rfl
    ·simp only[execOp,hop,Sem.run_bind,ex,ey,hg,Result.andThen_ok,negOp,Bool.false_eq_true,if_false,run_eql_struct,heq,Sem.run_pure]
    ·simp only[Bool.false_eq_true,if_false];exact .bool _
  |_=>rw[hx,hy]at ho;cases ho
 |_=>rw[hx]at ho;cases ho
theorem snd_un (g:GR N0 w F β Ow (slots act) env h v a){op:UnOp}{t:TypeId}{x:Operand}{x':Opd}(h1:okT x x'=true)(hop:o.op= .unOp op t x)
 (ho:opv R env h (.un op x')=some (a',env',h')):Out P N0 w F β h (XX F Ow) act env' h' ((execOp act.eval o).run P w) a':=by
 obtain⟨q1,-,-⟩:=g.opT h1
 simp only[opv]at ho
 cases hx:evo env x' with
 |int k n=>
  rw[hx]at ho q1
  have ex:=q1.toInt
  cases op with
  |neg=>
   simp only[zsi,zpi]at ho
   obtain⟨rfl,rfl,rfl⟩:=ho
   exact same_plain g (u:=.int k (k.wrap (0-n))) (by simp only[execOp,hop,ex,Op.unary,Op.intArith];rfl) (.int _ _) rfl rfl
  |xor=>
   simp only[Option.map_eq_some_iff,zpi]at ho
   obtain⟨r,hr,rfl,rfl,rfl⟩:=ho
   simp only[binV,if_true,zsi]at hr
   subst hr
   exact same_plain g (u:=.int k _) (by simp only[execOp,hop,ex,Op.unary,Op.intBits];rfl) (.int _ _) rfl rfl
  |not=>cases ho
  |plus=>cases ho
 |bool b=>
  rw[hx]at ho q1
  have ex:=q1.toBool
  cases op with
  |not=>
   simp only[zsi,zpi]at ho
   obtain⟨rfl,rfl,rfl⟩:=ho
   exact same_plain g (u:=.bool (!b)) (by simp only[execOp,hop,ex,Op.unary];rfl) (.bool _) rfl rfl
  |_=>cases ho
 |_=>rw[hx]at ho;cases op<;>cases ho
theorem snd_toInt (g:GR N0 w F β Ow (slots act) env h v a){k:IntKind}{src dst:TypeId}{x:Operand}{x':Opd}(h1:okT x x'=true)(hs: ∃d,P.underlying src=some d)(hd:P.underlying dst=some (.int k))(hop:o.op= .convert src dst x)
 (ho:opv R env h (.toInt k x')=some (a',env',h')):Out P N0 w F β h (XX F Ow) act env' h' ((execOp act.eval o).run P w) a':=by
 obtain⟨q1,-,-⟩:=g.opT h1
 obtain⟨d,hs⟩:=hs
 simp only[opv,Option.map_eq_some_iff,zpi]at ho
 obtain⟨n,hn,rfl,rfl,rfl⟩:=ho
 cases hx:evo env x' with
 |int j m=>
  rw[hx]at hn q1
  simp only[intV,zsi]at hn
  subst hn
  exact same_plain g (u:=.int k (k.wrap m)) (by simp[execOp,hop,q1.toInt,convert,run_underlying hs,run_underlying hd,Conv.intToInt]) (.int _ _) rfl rfl
 |_=>rw[hx]at hn;cases hn
theorem snd_same (g:GR N0 w F β Ow (slots act) env h v a){src dst:TypeId}{x:Operand}{x':Opd}(h1:okT x x'=true)(hs: ∃d,P.underlying src=some d)(hd:P.underlying dst=some .string)(hop:o.op= .convert src dst x)
 (ho:opv R env h (.same x')=some (a',env',h')):Out P N0 w F β h (XX F Ow) act env' h' ((execOp act.eval o).run P w) a':=by
 obtain⟨q1,-,-⟩:=g.opT h1
 obtain⟨d,hs⟩:=hs
 simp only[opv]at ho
 cases hx:evo env x' with
 |str s=>
  rw[hx]at ho q1
  simp only[zsi,zpi]at ho
  obtain⟨rfl,rfl,rfl⟩:=ho
  obtain⟨b,ex,e⟩:=q1.toStr
  exact same_plain g (u:=.string b) (by simp[execOp,hop,ex,convert,run_underlying hs,run_underlying hd]) (.str _ _ e) rfl rfl
 |_=>rw[hx]at ho;cases ho
end
section
variable {P:Program} {Γ:Glob} {N0:Base Γ} {w:World} {F X:Cell→Prop} {β:Nat→Cell} {Ow:Key→Cell→Prop} {env env':Env} {h h':Heap} {v:Value} {a a':AV} {act:Act} {R:CallF} {o:Oper}
theorem run_bi {b:Builtin}{args:Array Operand}{at_:Array TypeId}(hop:o.op= .call {callee:=.builtin b,args:=args,argTypes:=at_}):
 (execOp act.eval o).run P w=(builtin b at_ o.type (args.map fun| .const _=>true|_=>false) (args.map act.eval)).run P w:=by
 simp only[execOp,hop,resolve,Sem.run_bind,Sem.run_pure,Result.andThen_ok,invoke]
 rfl
theorem VRel.toLst {v:Value}{g:Gr}{xs:List AV}(h:VRel w X β v (.lst g xs)): ∃A cap,v= .slice A xs.length cap∧xs.length≤cap:=by
 cases h with
 |lst0 A cap g hg=>exact⟨A,cap,rfl,Nat.zero_le _⟩
 |lst b o e cap g xs val hc hg hx hv h=>exact⟨_,cap,rfl,hc⟩
theorem VRel.toArr {v:Value}{nm off len e:Nat}{ag:Bool}(h:VRel w X β v (.arr nm off len e ag)): ∃A cap,v= .slice A len cap∧len≤cap∧(0<len→A=some ⟨(β nm).1,(β nm).2+off,none⟩):=by
 cases h with|arr A nm off len cap e ag hc hA=>exact⟨A,cap,rfl,hc,hA⟩
theorem snd_len (g:GR N0 w F β Ow (slots act) env h v a){st:Bool}{t:TypeId}{x:Operand}{x':Opd}(h1:okT x x'=true)
 (ht:if st then P.underlying t=some .string else∃e,P.underlying t=some (.slice e))
 (hop:o.op= .call {callee:=.builtin .len,args:= #[x],argTypes:= #[t]}) (ho:opv R env h (.len st x')=some (a',env',h')):
 Out P N0 w F β h (XX F Ow) act env' h' ((execOp act.eval o).run P w) a':=by
 obtain⟨q1,-,-⟩:=g.opT h1
 simp only[opv]at ho
 cases st with
 |true=>
  simp only[if_true]at ht
  cases hx:evo env x' with
  |str s=>
   rw[hx]at ho q1
   simp only[zsi,zpi]at ho
   obtain⟨rfl,rfl,rfl⟩:=ho
   obtain⟨b,ex,rfl⟩:=q1.toStr
   exact same_plain g (u:=.int .i64 b.size) (by rw[run_bi hop];simp[builtin,Builtin.len_,ex,run_underlying ht,goInt]) (by rw[←size_list];exact .int _ _) rfl rfl
  |_=>rw[hx]at ho;cases ho
 |false=>
  simp only[Bool.false_eq_true,if_false]at ht
  obtain⟨e,hu⟩:=ht
  cases hx:evo env x' with
  |lst gg xs=>
   rw[hx]at ho q1
   simp only[zsi,zpi]at ho
   obtain⟨rfl,rfl,rfl⟩:=ho
   obtain⟨A,cap,ex,_⟩:=q1.toLst
   exact same_plain g (u:=.int .i64 xs.length) (by rw[run_bi hop];simp[builtin,Builtin.len_,ex,run_underlying hu,goInt]) (.int _ _) rfl rfl
  |arr nm off len e' ag=>
   rw[hx]at ho q1
   simp only[zsi,zpi]at ho
   obtain⟨rfl,rfl,rfl⟩:=ho
   obtain⟨A,cap,ex,_⟩:=q1.toArr
   exact same_plain g (u:=.int .i64 len) (by rw[run_bi hop];simp[builtin,Builtin.len_,ex,run_underlying hu,goInt]) (.int _ _) rfl rfl
  |_=>rw[hx]at ho;cases ho
theorem snd_lenA (g:GR N0 w F β Ow (slots act) env h v a){n:Nat}{t:TypeId}{x:Operand}
 (ht:(∃e,P.underlying t=some (.array n e))∨∃p e,P.underlying t=some (.pointer p)∧P.underlying p=some (.array n e))
 (hop:o.op= .call {callee:=.builtin .len,args:= #[x],argTypes:= #[t]}) (ho:opv R env h (.lenA n)=some (a',env',h')):
 Out P N0 w F β h (XX F Ow) act env' h' ((execOp act.eval o).run P w) a':=by
 simp only[opv,zsi,zpi]at ho
 obtain⟨rfl,rfl,rfl⟩:=ho
 rcases ht with⟨e,hu⟩|⟨p,e,hu,hu'⟩
 ·exact same_plain g (u:=.int .i64 n) (by rw[run_bi hop];simp[builtin,Builtin.len_,run_underlying hu,goInt]) (.int _ _) rfl rfl
 ·exact same_plain g (u:=.int .i64 n) (by rw[run_bi hop];simp[builtin,Builtin.len_,run_underlying hu,run_underlying hu',goInt]) (.int _ _) rfl rfl
theorem fold_mm (mx:Bool)(rs:List Operand): ∀(ys:List Opd) (l:List Int) (k:IntKind) (m:Int),okTs rs ys=true→(ys.mapM fun y=>intV (evo env y))=some l→
 GR N0 w F β Ow (slots act) env h v a→
 (List.foldlM (if mx then Builtin.max2 else Builtin.min2) (.int k m) (rs.map act.eval)).run P w=
   .ok (.int k (l.foldl (fun x y=>if mx then(if y>x then y else x)else(if y<x then y else x)) m)) w:=by
 induction rs with
 |nil=>
  intro ys l k m hk hl g
  cases ys with
  |nil=>simp at hl;subst hl;simp
  |cons=>cases hk
 |cons r rs ih=>
  intro ys l k m hk hl g
  cases ys with
  |nil=>cases hk
  |cons y ys=>
   simp only[okTs,zba]at hk
   obtain⟨h1,h2⟩:=hk
   obtain⟨q1,-,-⟩:=g.opT h1
   rw[List.mapM_cons]at hl
   obtain⟨n,hn,hl⟩:=zbi hl
   obtain⟨l',hl',hl⟩:=zbi hl
   simp only[Option.pure_def,zsi]at hl
   subst hl
   cases hy:evo env y with
   |int k' n'=>
    rw[hy]at hn q1
    simp only[intV,zsi]at hn
    subst hn
    have ey:=q1.toInt
    rw[List.map_cons,List.foldlM_cons,ey,Sem.run_bind,List.foldl_cons]
    cases mx
    ·simp only[Bool.false_eq_true,if_false,Builtin.min2,Sem.run_pure,Result.andThen_ok]
     exact ih ys l' k _ h2 hl' g
    ·simp only[if_true,Builtin.max2,Sem.run_pure,Result.andThen_ok]
     exact ih ys l' k _ h2 hl' g
   |_=>rw[hy]at hn;cases hn
theorem snd_mm (g:GR N0 w F β Ow (slots act) env h v a){mx:Bool}{ats:Array TypeId}{x:Operand}{rs:List Operand}{x':Opd}{ys:List Opd}{as:Array Operand}(h1:okT x x'=true)(h2:okTs rs ys=true)
 (has:as.toList=x::rs) (hop:o.op= .call {callee:=.builtin (if mx then .max else .min),args:=as,argTypes:=ats}) (ho:opv R env h (.mm mx x' ys)=some (a',env',h')):
 Out P N0 w F β h (XX F Ow) act env' h' ((execOp act.eval o).run P w) a':=by
 obtain⟨q1,-,-⟩:=g.opT h1
 simp only[opv]at ho
 cases hx:evo env x' with
 |int k m=>
  rw[hx]at ho q1
  simp only[Option.map_eq_some_iff,zpi]at ho
  obtain⟨l,hl,rfl,rfl,rfl⟩:=ho
  have ex:=q1.toInt
  have f:=fold_mm (P:=P) mx rs ys l k m h2 hl g
  refine same_plain g (u:=.int k (l.foldl (fun x y=>if mx then(if y>x then y else x)else(if y<x then y else x)) m)) ?_ (.int _ _) rfl rfl
  rw[run_bi hop]
  have e1:(as.map act.eval).toList= .int k m::rs.map act.eval:=by rw[Array.toList_map,has,List.map_cons,ex]
  cases mx
  ·simp only[Bool.false_eq_true,if_false,builtin,Builtin.min_,e1]at f ⊢
   simp only[Sem.run_bind,f,Result.andThen_ok,Sem.run_pure]
  ·simp only[if_true,builtin,Builtin.max_,e1]at f ⊢
   simp only[Sem.run_bind,f,Result.andThen_ok,Sem.run_pure]
 |_=>rw[hx]at ho;cases ho
end
section
variable {P:Program} {Γ:Glob} {N0:Base Γ} {w:World} {F X:Cell→Prop} {β:Nat→Cell} {Ow:Key→Cell→Prop} {env env':Env} {h h':Heap} {v:Value} {a a':AV} {act:Act} {R:CallF} {o:Oper}
theorem part_run {t off sz:Nat}{ag:Bool}{cs:Array Value}{as:List AV}{u:AV}(hl:cs.size=as.length)(hfl: ∀a∈as,a.flat1=true∧a.notOwn=true)
 (hv: ∀i (hi:i<cs.size),VRel w X β cs[i] (as[i]'(hl▸hi))) (hz:szT P t=some sz) (hag:aggT P t=some ag) (hu':loadC as off sz ag=some u):
 ∃y,(part t cs off).run P w= .ok y w∧VRel w X β y u∧u.notOwn=true∧(∀r∈refs u,∃c∈as,r∈refs2 c):=by
 cases ag with
 |true=>
  simp only[loadC]at hu'
  split at hu'
  ·rename_i r hr
   injection hu' with hu';subst hu'
   obtain⟨t1,t2,t3⟩:=takeN_get _ _ _ hr
   have t2':off+sz≤as.length∨sz=0:=by
    simp only[List.length_drop]at t2;omega
   refine⟨.agg (cs.extract off (off+sz)),by simp[part,run_isAgg hag,run_sizeOf hz],?_,rfl,?_⟩
   ·refine .agg _ _ (by simp only[Array.size_extract,t1];omega) ?_ fun i hi=> ?_
    ·intro c hc
     obtain⟨j,hj,rfl⟩:=List.getElem_of_mem hc
     have hj2:j<(as.drop off).length:=by omega
     rw[t3 j hj hj2]
     refine⟨?_,notOwn_cp _⟩
     have hm:(as.drop off)[j]∈as:=List.mem_of_mem_drop (List.getElem_mem hj2)
     have:=(hfl _ hm).1
     revert this
     generalize (as.drop off)[j]=c
     intro hc2
     cases c with
     |lst g xs=>cases g<;>rfl
     |_=>exact hc2
    ·have hi2:i<sz:=by simp only[Array.size_extract]at hi;omega
     have hj2:i<(as.drop off).length:=by omega
     rw[t3 i (by omega) hj2]
     simp only[Array.getElem_extract,List.getElem_drop]
     exact(hv (off+i) (by simp only[Array.size_extract]at hi;omega)).cp
   ·intro r1 hr1
    simp only[refs,refs3,List.mem_flatMap]at hr1
    obtain⟨c,hcm,hrc⟩:=hr1
    obtain⟨j,hj,rfl⟩:=List.getElem_of_mem hcm
    have hj2:j<(as.drop off).length:=by omega
    rw[t3 j hj hj2,refs2_cp]at hrc
    exact⟨_,List.mem_of_mem_drop (List.getElem_mem hj2),hrc⟩
  ·cases hu'
 |false=>
  simp only[loadC]at hu'
  split at hu'
  ·rename_i c rest hdr
   injection hu' with hu';subst hu'
   have hlt:off<as.length:=by
    rcases Nat.lt_or_ge off as.length with hh|hh
    ·exact hh
    ·rw[List.drop_eq_nil_of_le hh]at hdr;cases hdr
   have hc:as[off]=c:=by
    rw[List.drop_eq_getElem_cons hlt]at hdr
    injection hdr
   have hlt2:off<cs.size:=by omega
   refine⟨cs[off],?_,?_,notOwn_cp _,?_⟩
   ·simp only[part,Sem.run_bind,run_isAgg hag,Result.andThen_ok,Bool.false_eq_true,if_false,Array.getElem?_eq_getElem hlt2];rfl
   ·have:=(hv off hlt2).cp;rw[hc]at this;exact this
   ·intro r hr
    have hm:c∈as:=by rw[←hc];exact List.getElem_mem hlt
    have hfc:=(hfl c hm).1
    refine⟨c,hm,?_⟩
    rw[refs_cp]at hr
    cases c<;>first|exact hr|cases hfc
  ·cases hu'
theorem byteAV_rel (s:ByteArray)(j:Nat)(b:UInt8)(h:s.data.toList[j]? =some b):s[j]? =some b:=by
 have hj:j<s.data.toList.length:=by
  rcases Nat.lt_or_ge j s.data.toList.length with hh|hh
  ·exact hh
  ·rw[List.getElem?_eq_none hh]at h;cases h
 have hj':j<s.size:=by rw[size_list];exact hj
 rw[zge hj]at h
 injection h with h
 rw[getElem?_pos s j hj',←h];rfl
theorem snd_ixS (g:GR N0 w F β Ow (slots act) env h v a){t:TypeId}{x i:Operand}{x' i':Opd}(h1:okT x x'=true)(h2:okT i i'=true)(ht:P.underlying t=some .string)
 (hop:o.op= .index t x i) (ho:opv R env h (.ixS x' i')=some (a',env',h')):Out P N0 w F β h (XX F Ow) act env' h' ((execOp act.eval o).run P w) a':=by
 obtain⟨q1,-,-⟩:=g.opT h1
 obtain⟨p1,-,-⟩:=g.opT h2
 simp only[opv]at ho
 obtain⟨n,hn,ho⟩:=zbi ho
 cases hi:evo env i' with
 |int k m=>
  rw[hi]at hn p1
  simp only[intV,zsi]at hn
  subst hn
  have ei:=p1.toInt
  cases hx:evo env x' with
  |str s=>
   rw[hx]at ho q1
   obtain⟨b,ex,rfl⟩:=q1.toStr
   obtain⟨j,hj,ho⟩:=zbi ho
   simp only[Option.map_eq_some_iff,zpi]at ho
   obtain⟨c,hc,rfl,rfl,rfl⟩:=ho
   simp only[within]at hj
   split at hj
   ·rename_i hb
    injection hj with hj;subst hj
    refine same_plain g (u:=.int .u8 c.toNat) ?_ (.int _ _) rfl rfl
    simp only[execOp,hop,Instr.index,Sem.run_bind,ei,asIntOf,Sem.run_pure,Result.andThen_ok,run_underlying ht,ex,hb.1,if_true,byteAV_rel b _ c hc]
   ·cases hj
  |_=>rw[hx]at ho;cases ho
 |_=>rw[hi]at hn;cases hn
theorem snd_ixA (g:GR N0 w F β Ow (slots act) env h v a){t et:TypeId}{n e:Nat}{ag:Bool}{x i:Operand}{x' i':Opd}(h1:okT x x'=true)(h2:okT i i'=true)(ht:P.underlying t=some (.array n et))
 (hz:szT P et=some e) (hag:aggT P et=some ag)
 (hop:o.op= .index t x i) (ho:opv R env h (.ixA n e ag x' i')=some (a',env',h')):Out P N0 w F β h (XX F Ow) act env' h' ((execOp act.eval o).run P w) a':=by
 obtain⟨q1,q2,q3⟩:=g.opT h1
 obtain⟨p1,-,-⟩:=g.opT h2
 simp only[opv]at ho
 obtain⟨m',hn,ho⟩:=zbi ho
 cases hi:evo env i' with
 |int k m=>
  rw[hi]at hn p1
  simp only[intV,zsi]at hn
  subst hn
  have ei:=p1.toInt
  cases hx:evo env x' with
  |agg as=>
   rw[hx]at ho q1 q3
   obtain⟨j,hj,ho⟩:=zbi ho
   simp only[Option.map_eq_some_iff,zpi]at ho
   obtain⟨u,hu,rfl,rfl,rfl⟩:=ho
   simp only[within]at hj
   split at hj
   ·rename_i hb
    injection hj with hj;subst hj
    cases hvx:act.eval x with
    |agg cs=>
     rw[hvx]at q1
     cases q1 with
     |agg cs as hl hfl hv=>
      obtain⟨y,y1,y2,y3,y4⟩:=part_run hl hfl hv hz hag hu
      refine g.same (v':=y) ?_ y2 (.of y3) fun r hr=>q3 r ?_
      ·simp only[execOp,hop,Instr.index,Sem.run_bind,ei,asIntOf,Sem.run_pure,Result.andThen_ok,run_underlying ht,hvx]
       rw[if_pos hb]
       simp only[Sem.run_bind,run_sizeOf hz,Result.andThen_ok,y1]
      ·obtain⟨c,hc1,hc2⟩:=y4 r hr
       exact List.mem_flatMap.2 ⟨c,hc1,hc2⟩
    |_=>rw[hvx]at q1;cases q1
   ·cases hj
  |_=>rw[hx]at ho;cases ho
 |_=>rw[hi]at hn;cases hn
theorem snd_ia (g:GR N0 w F β Ow (slots act) env h v a){t et:TypeId}{e:Nat}{x i:Operand}{x' i':Opd}(h1:okT x x'=true)(h2:okT i i'=true)(ht:P.underlying t=some (.slice et))
 (hz:szT P et=some e)
 (hop:o.op= .indexAddr t x i) (ho:opv R env h (.ia e x' i')=some (a',env',h')):Out P N0 w F β h (XX F Ow) act env' h' ((execOp act.eval o).run P w) a':=by
 obtain⟨q1,q2,q3⟩:=g.opT h1
 obtain⟨p1,-,-⟩:=g.opT h2
 simp only[opv]at ho
 obtain⟨m',hn,ho⟩:=zbi ho
 cases hi:evo env i' with
 |int k m=>
  rw[hi]at hn p1
  simp only[intV,zsi]at hn
  subst hn
  have ei:=p1.toInt
  have run: ∀A len cap,act.eval x= .slice (some A) len cap→0≤m∧m<len→(execOp act.eval o).run P w= .ok (.value (.pointer (some (A.add (m.toNat*e))))) w:=by
   intro A len cap ex hb
   simp only[execOp,hop,Instr.indexAt,Sem.run_bind,ei,asIntOf,Sem.run_pure,Result.andThen_ok,run_underlying ht,ex]
   rw[if_pos hb]
   simp only[Sem.run_bind,run_sizeOf hz,Result.andThen_ok,Sem.run_pure]
  cases hx:evo env x' with
  |lst gg xs=>
   rw[hx]at ho q1 q3
   obtain⟨j,hj,ho⟩:=zbi ho
   obtain⟨y,hy,ho⟩:=zbi ho
   split at ho
   ·rename_i hye
    simp only[zsi,zpi]at ho
    obtain⟨rfl,rfl,rfl⟩:=ho
    simp only[within]at hj
    split at hj
    ·rename_i hb
     injection hj with hj;subst hj
     cases hvx:act.eval x with
     |slice A len cap=>
      rw[hvx]at q1
      cases q1 with
      |lst0 A cap g hg=>simp at hy
      |lst b oo e' cap g xs val hc hg hxs hv hval=>
       have hlt:m.toNat<xs.length:=by omega
       rw[zge hlt]at hy
       injection hy with hy;subst hy
       have hm:xs[m.toNat]∈xs:=List.getElem_mem hlt
       obtain⟨d1,d2⟩:=hxs _ hm
       have ee:e'=e:=by omega
       subst ee
       refine g.same (run _ _ _ hvx hb) ?_ (.of rfl) fun r hr=>by simp[refs]at hr
       rw[add_at]
       have lenF: ∀n,n≤xs.length→((xs.take n).flatMap AV.cells).length=n*e':=by
        intro n
        induction n with
        |zero=>intro _;simp
        |succ n ih=>
         intro hn
         rw[List.take_succ_eq_append_getElem (by omega),List.flatMap_append,List.length_append,ih (by omega)]
         have:=(hxs xs[n] (List.getElem_mem (by omega))).2
         simp only[List.flatMap_cons,List.flatMap_nil,List.append_nil,this]
         rw[Nat.succ_mul]
       have spl:xs.flatMap AV.cells=(xs.take m.toNat).flatMap AV.cells++(xs[m.toNat].cells++(xs.drop (m.toNat+1)).flatMap AV.cells):=by
        conv=>lhs;rw[←List.take_append_drop m.toNat xs,List.flatMap_append,List.drop_eq_getElem_cons hlt,List.flatMap_cons]
       have l1:=lenF m.toNat (by omega)
       have l2:=lenF (m.toNat+1) (by omega)
       have l3:=lenF xs.length (Nat.le_refl _)
       rw[List.take_length]at l3
       have mul1:(m.toNat+1)*e'=m.toNat*e'+e':=Nat.succ_mul _ _
       have mul2:(m.toNat+1)*e'≤xs.length*e':=Nat.mul_le_mul_right _ (by omega)
       refine VRel.ept b (oo+m.toNat*e') 0 _ (fun j=>val (m.toNat*e'+j)) ?_ ?_ ?_
       ·intro c hc'
        exact delem_flat (xs:=[xs[m.toNat]]) (by simpa using d1) c (by simpa using hc')
       ·intro j hj
        rw[Nat.add_assoc]
        exact hv (m.toNat*e'+j) (by rw[d2]at hj;omega)
       ·intro j hj
        have hj2:m.toNat*e'+j<(xs.flatMap AV.cells).length:=by rw[d2]at hj;omega
        have:=hval (m.toNat*e'+j) hj2
        have eq:(xs.flatMap AV.cells)[m.toNat*e'+j]=xs[m.toNat].cells[j]:=by
         have e1:(xs.flatMap AV.cells)[m.toNat*e'+j]? =some (xs[m.toNat].cells[j]):=by
          rw[spl,List.getElem?_append_right (by omega),l1,Nat.add_sub_cancel_left,List.getElem?_append_left hj,zge hj]
         rw[zge hj2]at e1
         injection e1
        rw[←eq];exact this
     |_=>rw[hvx]at q1;cases q1
    ·cases hj
   ·cases ho
  |arr nm off len e' ag=>
   rw[hx]at ho q1 q3
   dsimp only at ho
   split at ho
   ·rename_i hee
    subst hee
    simp only[Option.map_eq_some_iff,zpi]at ho
    obtain⟨j,hj,rfl,rfl,rfl⟩:=ho
    simp only[within]at hj
    split at hj
    ·rename_i hb
     injection hj with hj;subst hj
     obtain⟨A,cap,ex,hc,hA⟩:=q1.toArr
     have hA:=hA (by omega)
     subst hA
     refine g.same (run _ _ _ ex hb) ?_ (.of rfl) fun r hr=>q3 r hr
     rw[add_at,Nat.add_assoc]
     exact .ptr _ _
    ·cases hj
   ·cases ho
  |_=>rw[hx]at ho;cases ho
 |_=>rw[hi]at hn;cases hn
theorem snd_iaA (g:GR N0 w F β Ow (slots act) env h v a){t et:TypeId}{n e:Nat}{x i:Operand}{x' i':Opd}(h1:okT x x'=true)(h2:okT i i'=true)(ht:P.underlying t=some (.array n et))
 (hz:szT P et=some e)
 (hop:o.op= .indexAddr t x i) (ho:opv R env h (.iaA n e x' i')=some (a',env',h')):Out P N0 w F β h (XX F Ow) act env' h' ((execOp act.eval o).run P w) a':=by
 obtain⟨q1,q2,q3⟩:=g.opT h1
 obtain⟨p1,-,-⟩:=g.opT h2
 simp only[opv]at ho
 obtain⟨m',hn,ho⟩:=zbi ho
 cases hi:evo env i' with
 |int k m=>
  rw[hi]at hn p1
  simp only[intV,zsi]at hn
  subst hn
  have ei:=p1.toInt
  have run: ∀A,act.eval x= .pointer (some A)→0≤m∧m<n→(execOp act.eval o).run P w= .ok (.value (.pointer (some (A.add (m.toNat*e))))) w:=by
   intro A ex hb
   simp only[execOp,hop,Instr.indexAt,Sem.run_bind,ei,asIntOf,Sem.run_pure,Result.andThen_ok,run_underlying ht,ex,Instr.sureAddr]
   rw[if_pos hb]
   simp only[Sem.run_bind,run_sizeOf hz,Result.andThen_ok,Sem.run_pure]
  cases hx:evo env x' with
  |ptr nm off=>
   rw[hx]at ho q1 q3
   simp only[Option.map_eq_some_iff,zpi]at ho
   obtain⟨j,hj,rfl,rfl,rfl⟩:=ho
   simp only[within]at hj
   split at hj
   ·rename_i hb
    injection hj with hj;subst hj
    have ex:=q1.toPtr
    refine g.same (run _ ex hb) ?_ (.of rfl) fun r hr=>q3 r hr
    rw[add_at,Nat.add_assoc]
    exact .ptr _ _
   ·cases hj
  |ept cs off=>
   rw[hx]at ho q1 q3
   simp only[Option.map_eq_some_iff,zpi]at ho
   obtain⟨j,hj,rfl,rfl,rfl⟩:=ho
   simp only[within]at hj
   split at hj
   ·rename_i hb
    injection hj with hj;subst hj
    cases hvx:act.eval x with
    |pointer A=>
     rw[hvx]at q1
     cases q1 with
     |ept b oo off cs val hd hv hval=>
      refine g.same (run _ hvx hb) ?_ (.of rfl) fun r hr=>q3 r hr
      rw[add_at,Nat.add_assoc]
      exact .ept b oo _ cs val hd hv hval
    |_=>rw[hvx]at q1;cases q1
   ·cases hj
  |_=>rw[hx]at ho;cases ho
 |_=>rw[hi]at hn;cases hn
end
section
variable {P:Program} {Γ:Glob} {N0:Base Γ} {w:World} {F X:Cell→Prop} {β:Nat→Cell} {Ow:Key→Cell→Prop} {env env':Env} {h h':Heap} {v:Value} {a a':AV} {act:Act} {R:CallF} {o:Oper}
theorem run_bound (g:GR N0 w F β Ow (slots act) env h v a){x:Operand}{x':Opd}(h1:okT x x'=true){d n b M:Nat}(hb:bound env (some x') d n=some b)(hn:n≤M)(code:BoundsCode):
 (Instr.sliceBound (act.eval x) M code).run P w= .ok b w∧b≤n:=by
 obtain⟨p1,-,-⟩:=g.opT h1
 simp only[bound]at hb
 obtain⟨m',hn',hb⟩:=zbi hb
 cases hi:evo env x' with
 |int k m=>
  rw[hi]at hn' p1
  simp only[intV,zsi]at hn'
  subst hn'
  have ei:=p1.toInt
  simp only[upto]at hb
  split at hb
  ·rename_i hh
   injection hb with hb;subst hb
   refine⟨?_,by omega⟩
   simp only[Instr.sliceBound,ei,asIntOf,Sem.run_bind,Sem.run_pure,Result.andThen_ok]
   rw[if_pos ⟨hh.1,by omega⟩];rfl
  ·cases hb
 |_=>rw[hi]at hn';cases hn'
theorem run_bounds (g:GR N0 w F β Ow (slots act) env h v a){lo hi mx:Option Operand}{lo' hi' mx':Option Opd}(h1:okO lo lo'=true)(h2:okO hi hi'=true)(h3:okO mx mx'=true)
 (hmx:mx.isSome→hi.isSome) {isS:Bool} {len cap m b c:Nat} (hl:len≤cap) (hm:bound env mx' len len=some m) (hb:bound env hi' len m=some b) (hc:bound env lo' 0 b=some c):
 ∃M,(Instr.sliceBounds isS len cap (lo.map act.eval) (hi.map act.eval) (mx.map act.eval)).run P w= .ok (c,b,M) w∧c≤b∧b≤M∧b≤len∧M≤cap∧(mx'.isSome→M=m)∧(mx'=none→M=cap)∧(hi'=none→b=len):=by
 have lowB:c≤b∧∀code:BoundsCode,(lo=none∧c=0)∨∃x,lo=some x∧(Instr.sliceBound (act.eval x) b code).run P w= .ok c w:=by
  cases lo with
  |none=>
   cases lo' with
   |none=>simp only[bound,zsi]at hc;subst hc;exact⟨Nat.zero_le _,fun _=>.inl ⟨rfl,rfl⟩⟩
   |some y=>cases h1
  |some x=>
   cases lo' with
   |none=>cases h1
   |some y=>exact⟨(run_bound (P:=P) g h1 hc (Nat.le_refl _) .index).2,fun code=>.inr ⟨x,rfl,(run_bound (P:=P) g h1 hc (Nat.le_refl _) code).1⟩⟩
 obtain⟨lowL,lowC⟩:=lowB
 cases mx with
 |none=>
  cases mx' with
  |some y=>cases h3
  |none=>
   simp only[bound,zsi]at hm;subst hm
   cases hi with
   |none=>
    cases hi' with
    |some y=>cases h2
    |none=>
     simp only[bound,zsi]at hb;subst hb
     refine⟨cap,?_,lowL,hl,Nat.le_refl _,Nat.le_refl _,by simp,fun _=>rfl,fun _=>rfl⟩
     rcases lowC .sliceB with⟨rfl,rfl⟩|⟨x0,rfl,this⟩
     ·simp only[Instr.sliceBounds,Option.map_none,Sem.run_bind,Sem.run_pure,Result.andThen_ok]
     ·simp only[Instr.sliceBounds,Option.map_none,Option.map_some,Sem.run_bind,Sem.run_pure,Result.andThen_ok,Option.isSome_none,Bool.false_eq_true,if_false,this]
   |some x=>
    cases hi' with
    |none=>cases h2
    |some y=>
     obtain⟨e1,e2⟩:=run_bound (P:=P) g h2 hb hl (if isS then .sliceAcap else .sliceAlen)
     refine⟨cap,?_,lowL,by omega,e2,Nat.le_refl _,by simp,fun _=>rfl,by simp⟩
     rcases lowC .sliceB with⟨rfl,rfl⟩|⟨x0,rfl,this⟩
     ·simp only[Instr.sliceBounds,Option.map_none,Option.map_some,Sem.run_bind,Sem.run_pure,Result.andThen_ok,e1]
     ·simp only[Instr.sliceBounds,Option.map_none,Option.map_some,Sem.run_bind,Sem.run_pure,Result.andThen_ok,Option.isSome_none,Bool.false_eq_true,if_false,e1,this]
 |some z=>
  cases mx' with
  |none=>cases h3
  |some z'=>
   cases hi with
   |none=>exact absurd (hmx rfl) (by simp)
   |some x=>
    cases hi' with
    |none=>cases h2
    |some y=>
     obtain⟨e1,e2⟩:=run_bound (P:=P) g h3 hm hl (if isS then .slice3Acap else .slice3Alen)
     obtain⟨f1,f2⟩:=run_bound (P:=P) g h2 hb (Nat.le_refl m) .slice3B
     refine⟨m,?_,lowL,f2,by omega,by omega,fun _=>rfl,by simp,by simp⟩
     rcases lowC .slice3C with⟨rfl,rfl⟩|⟨x0,rfl,this⟩
     ·simp only[Instr.sliceBounds,Option.map_none,Option.map_some,Sem.run_bind,Sem.run_pure,Result.andThen_ok,Option.isSome_some,if_true,e1,f1]
     ·simp only[Instr.sliceBounds,Option.map_some,Sem.run_bind,Sem.run_pure,Result.andThen_ok,Option.isSome_some,if_true,e1,f1,this]
theorem snd_slcS (g:GR N0 w F β Ow (slots act) env h v a){t:TypeId}{x:Operand}{lo hi:Option Operand}{x':Opd}{lo' hi':Option Opd}(h1:okT x x'=true)(h2:okO lo lo'=true)(h3:okO hi hi'=true)(ht:P.underlying t=some .string)
 (hop:o.op= .slice t x lo hi none) (ho:opv R env h (.slcS x' lo' hi')=some (a',env',h')):Out P N0 w F β h (XX F Ow) act env' h' ((execOp act.eval o).run P w) a':=by
 obtain⟨q1,-,-⟩:=g.opT h1
 simp only[opv]at ho
 cases hx:evo env x' with
 |str s=>
  rw[hx]at ho q1
  obtain⟨by_,ex,rfl⟩:=q1.toStr
  obtain⟨b,hb,ho⟩:=zbi ho
  simp only[Option.map_eq_some_iff,zpi]at ho
  obtain⟨c,hc,rfl,rfl,rfl⟩:=ho
  rw[←size_list]at hb
  obtain⟨M,e1,e2,e3,e4,-⟩:=run_bounds (P:=P) g (mx:=none) (mx':=none) h2 h3 rfl (by simp) (isS:=false) (Nat.le_refl by_.size) (m:=by_.size) rfl hb hc
  refine same_plain g (u:=.string (by_.extract c b)) ?_ (.str _ _ ?_) rfl rfl
  ·simp only[Option.map_none]at e1
   simp only[execOp,hop,Instr.sliceAt,Instr.slice,Sem.run_bind,run_underlying ht,Result.andThen_ok,ex,Option.map_none,Option.isSome_none,Bool.false_eq_true,if_false,e1,Sem.run_pure]
  ·rw[ByteArray.data_extract,Array.toList_extract,List.extract_eq_take_drop,List.drop_take]
 |_=>rw[hx]at ho;cases ho
theorem snd_slcA (g:GR N0 w F β Ow (slots act) env h v a){t et:TypeId}{n e:Nat}{ag:Bool}{x:Operand}{lo hi:Option Operand}{x':Opd}{lo' hi':Option Opd}(h1:okT x x'=true)(h2:okO lo lo'=true)(h3:okO hi hi'=true)
 (ht:P.underlying t=some (.array n et)) (hz:szT P et=some e)
 (hop:o.op= .slice t x lo hi none) (ho:opv R env h (.slcA n e ag x' lo' hi')=some (a',env',h')):Out P N0 w F β h (XX F Ow) act env' h' ((execOp act.eval o).run P w) a':=by
 obtain⟨q1,q2,q3⟩:=g.opT h1
 simp only[opv]at ho
 cases hx:evo env x' with
 |ptr nm off=>
  rw[hx]at ho q1 q3
  have ex:=q1.toPtr
  obtain⟨b,hb,ho⟩:=zbi ho
  simp only[Option.map_eq_some_iff,zpi]at ho
  obtain⟨c,hc,rfl,rfl,rfl⟩:=ho
  obtain⟨M,e1,e2,e3,e4,e5,-,e6,-⟩:=run_bounds (P:=P) g (mx:=none) (mx':=none) h2 h3 rfl (by simp) (isS:=false) (Nat.le_refl n) (m:=n) rfl hb hc
  have e6:=e6 rfl
  subst e6
  refine g.same (v':=.slice (some (if M=c then⟨(β nm).1,(β nm).2+off,none⟩else(⟨(β nm).1,(β nm).2+off,none⟩:Addr).add (c*e))) (b-c) (M-c)) ?_ ?_ (.of rfl) fun r hr=>q3 r hr
  ·simp only[Option.map_none]at e1
   simp only[execOp,hop,Instr.sliceAt,Sem.run_bind,run_underlying ht,Result.andThen_ok,ex,Instr.sureAddr,Sem.run_pure,Option.map_none,e1,run_sizeOf hz]
  ·refine .arr _ nm _ _ _ e ag (by omega) fun hlt=> ?_
   rw[if_neg (by omega),add_at,Nat.add_assoc]
 |_=>rw[hx]at ho;cases ho
theorem VRel.lstInv {A:Option Addr}{n cap:Nat}{g:Gr}{xs:List AV}(h:VRel w X β (.slice A n cap) (.lst g xs)):
 n=xs.length∧n≤cap∧(g= .full→cap=xs.length)∧(xs≠[]→∃b o e,∃val:Nat→Value,A=some ⟨b,o,none⟩∧(∀x∈xs,x.delem=true∧x.cells.length=e)∧
  (∀j,j<xs.length*e→cat w (b,o+j)=some (val j)∧¬X (b,o+j))∧∀j (hj:j<(xs.flatMap AV.cells).length),VRel w X β (val j) ((xs.flatMap AV.cells)[j])):=by
 cases h with
 |lst0 A cap g hg=>exact⟨rfl,Nat.zero_le _,hg,fun h=>absurd rfl h⟩
 |lst b o e cap g xs val hc hg hx hv h=>exact⟨rfl,hc,hg,fun _=>⟨b,o,e,val,rfl,hx,hv,h⟩⟩
theorem lenF {xs:List AV}{e:Nat}(hx: ∀x∈xs,x.cells.length=e):(xs.flatMap AV.cells).length=xs.length*e:=by
 induction xs with
 |nil=>simp
 |cons x xs ih=>
  have:=hx x List.mem_cons_self
  rw[List.flatMap_cons,List.length_append,ih (fun y hy=>hx y (List.mem_cons_of_mem _ hy)),this,List.length_cons,Nat.succ_mul,Nat.add_comm]
theorem flat_part {xs:List AV}{e b c:Nat}(hx: ∀x∈xs,x.cells.length=e)(hcb:c≤b)(hb:b≤xs.length)(j:Nat)(hj:j<(((xs.take b).drop c).flatMap AV.cells).length):
 ∃hj':c*e+j<(xs.flatMap AV.cells).length,(((xs.take b).drop c).flatMap AV.cells)[j]=(xs.flatMap AV.cells)[c*e+j]:=by
 have hx2: ∀x∈(xs.take b).drop c,x.cells.length=e:=fun x hm=>hx x (List.mem_of_mem_take (List.mem_of_mem_drop hm))
 have hx1: ∀x∈xs.take c,x.cells.length=e:=fun x hm=>hx x (List.mem_of_mem_take hm)
 have l1:=lenF hx
 have l2:=lenF hx2
 have l3:=lenF hx1
 rw[List.length_take,Nat.min_eq_left (by omega)]at l3
 rw[List.length_drop,List.length_take,Nat.min_eq_left hb]at l2
 have spl:xs.flatMap AV.cells=(xs.take c).flatMap AV.cells++(((xs.take b).drop c).flatMap AV.cells++(xs.drop b).flatMap AV.cells):=by
  rw[←List.flatMap_append,←List.flatMap_append]
  congr 1
  conv=>lhs;rw[←List.take_append_drop c xs]
  congr 1
  have:xs.drop c=((xs.take b)++(xs.drop b)).drop c:=by rw[List.take_append_drop]
  rw[this,List.drop_append_of_le_length (by rw[List.length_take,Nat.min_eq_left hb];exact hcb)]
 have hj':c*e+j<(xs.flatMap AV.cells).length:=by
  rw[l1]
  have:(b-c)*e=b*e-c*e:=Nat.sub_mul _ _ _
  have h2:b*e≤xs.length*e:=Nat.mul_le_mul_right _ hb
  have h3:c*e≤b*e:=Nat.mul_le_mul_right _ hcb
  omega
 refine⟨hj',?_⟩
 have e1:(xs.flatMap AV.cells)[c*e+j]? =some ((((xs.take b).drop c).flatMap AV.cells)[j]):=by
  rw[spl,List.getElem?_append_right (by omega),l3,Nat.add_sub_cancel_left,List.getElem?_append_left hj,zge hj]
 rw[zge hj']at e1
 injection e1 with e1
 exact e1.symm
theorem snd_slc (g:GR N0 w F β Ow (slots act) env h v a){t et:TypeId}{e:Nat}{x:Operand}{lo hi mx:Option Operand}{x':Opd}{lo' hi' mx':Option Opd}(h1:okX x x'=true)(h2:okO lo lo'=true)(h3:okO hi hi'=true)(h4:okO mx mx'=true)
 (hmx:mx.isSome→hi.isSome) (ht:P.underlying t=some (.slice et)) (hz:szT P et=some e)
 (hop:o.op= .slice t x lo hi mx) (ho:opv R env h (.slc e x' lo' hi' mx')=some (a',env',h')):Out P N0 w F β h (XX F Ow) act env' h' ((execOp act.eval o).run P w) a':=by
 have run: ∀A len cap c b M,act.eval x= .slice A len cap→(Instr.sliceBounds true len cap (lo.map act.eval) (hi.map act.eval) (mx.map act.eval)).run P w= .ok (c,b,M) w→
  (execOp act.eval o).run P w= .ok (.value (.slice (if M=c then A else A.map (·.add (c*e))) (b-c) (M-c))) w:=by
  intro A len cap c b M ex hr
  simp only[execOp,hop,Instr.sliceAt,Instr.slice,Sem.run_bind,run_underlying ht,Result.andThen_ok,ex,hr,Sem.run_pure,run_sizeOf hz]
 simp only[opv]at ho
 cases hx:evo env x' with
 |lst gg xs=>
  rw[hx]at ho
  simp only at ho
  split at ho
  ·rename_i hhd
   obtain⟨m,hm,ho⟩:=zbi ho
   obtain⟨b,hb,ho⟩:=zbi ho
   simp only[Option.map_eq_some_iff,zpi]at ho
   obtain⟨c,hc,rfl,rfl,rfl⟩:=ho
   obtain⟨Ow',hX,g'⟩:=g.opX h1
   rw[hx]at g'
   obtain⟨A,cap,ex,hlc⟩:=g'.val.1.toLst
   obtain⟨M,e1,e2,e3,e4,e5,e6,e7,e8⟩:=run_bounds (P:=P) g h2 h3 h4 hmx (isS:=true) hlc hm hb hc
   have hr:=run A xs.length cap c b M ex e1
   have val:VRel w (XX F Ow') β (.slice (if M=c then A else A.map (·.add (c*e))) (b-c) (M-c)) (.lst (if hi'.isNone then gg else if mx'.isSome∧b=m then .full else .no) ((xs.take b).drop c)):=by
    have hlen:((xs.take b).drop c).length=b-c:=by rw[List.length_drop,List.length_take,Nat.min_eq_left e4]
    have hfull:(if hi'.isNone then gg else if mx'.isSome∧b=m then Gr.full else .no)= .full→M-c=b-c:=by
     intro hf
     split at hf
     ·rename_i hn
      subst hf
      have hn':hi'=none:=by cases hi'<;>first|rfl|cases hn
      have hmn:mx'=none:=by
       cases mx' with
       |none=>rfl
       |some z=>cases mx with
        |none=>cases h4
        |some z0=>cases hi with
         |none=>exact absurd (hmx rfl) (by simp)
         |some y0=>rw[hn']at h3;cases h3
      rw[e7 hmn,e8 hn']
      have hcap:cap=xs.length:=by
       have:=g'.val.1
       rw[ex]at this
       exact this.lstInv.2.2.1 rfl
      rw[hcap]
     ·split at hf
      ·rename_i hh;rw[e6 hh.1,hh.2]
      ·cases hf
    rcases Nat.eq_or_lt_of_le e2 with he|hlt
    ·subst he
     have:(xs.take c).drop c=[]:=by apply List.eq_nil_of_length_eq_zero;rw[hlen];omega
     rw[this,Nat.sub_self]
     exact .lst0 _ _ _ fun hf=>by have:=hfull hf;omega
    ·have hne:M≠c:=by omega
     rw[if_neg hne]
     have hv:=g'.val.1
     rw[ex]at hv
     have hnil:xs≠[]:=fun h=>by subst h;simp at e4;omega
     obtain⟨bb,oo,e',val,rfl,hxs,hv,hval⟩:=hv.lstInv.2.2.2 hnil
     ·have hee:e'=e:=by
       cases xs with
       |nil=>exact absurd rfl hnil
       |cons y ys=>
        have:=(hxs y List.mem_cons_self).2
        have hhd:=Nat.eq_of_beq_eq_true hhd
        omega
      subst hee
      have hx2: ∀x∈xs,x.cells.length=e':=fun x hm=>(hxs x hm).2
      have hbm:(b-c)*e'+c*e'≤xs.length*e':=by
       rw[←Nat.add_mul];exact Nat.mul_le_mul_right _ (by omega)
      simp only[Option.map_some,add_at]
      have:=VRel.lst (w:=w) (X:=XX F Ow') (β:=β) bb (oo+c*e') e' (M-c) (if hi'.isNone then gg else if mx'.isSome∧b=m then .full else .no) ((xs.take b).drop c) (fun j=>val (c*e'+j))
       (by rw[hlen];omega) (fun hf=>by rw[hlen];exact hfull hf) (fun x hm=>hxs x (List.mem_of_mem_take (List.mem_of_mem_drop hm)))
       (fun j hj=>by rw[hlen]at hj;rw[Nat.add_assoc];exact hv (c*e'+j) (by omega))
       (fun j hj=>by
         obtain⟨hj',he⟩:=flat_part hx2 e2 e4 j hj
         rw[he];exact hval _ hj')
      rw[hlen]at this
      exact this
   refine⟨_,w,β,Ow',.inl hr,g'.pend' val ?_ (fun r hr=>by simp[refs]at hr),(Kp.refl N0 w _).shrink hX,FF.refl _ _,fun _ _ _=>rfl⟩
   refine .lst fun e' ys hys=> ?_
   injection hys with hg hys
   split at hg
   ·rename_i hn
    subst hg
    have hn':hi'=none:=by cases hi'<;>first|rfl|cases hn
    have hmn:mx'=none:=by
     cases mx' with
     |none=>rfl
     |some z=>cases mx with
      |none=>cases h4
      |some z0=>cases hi with
       |none=>exact absurd (hmx rfl) (by simp)
       |some y0=>rw[hn']at h3;cases h3
    have eM:=e7 hmn
    have eb:=e8 hn'
    subst eM eb
    obtain⟨o1,o2⟩:=g'.val.2.1 e' xs rfl
    refine⟨fun y hy=>o1 y (by rw[←hys]at hy;exact List.mem_of_mem_take (List.mem_of_mem_drop hy)),?_⟩
    intro A1 len1 cap1 hv1 hlt
    injection hv1 with hA1 hl1 hc1
    subst hl1 hc1
    obtain⟨bb,oo,hA,hS⟩:=o2 A _ _ ex (by omega)
    have hne:M≠c:=by omega
    rw[if_neg hne,hA]at hA1
    refine⟨bb,oo+c*e,hA1.symm.trans (by rw[Option.map_some,add_at]),fun j hj1 hj2=> ?_⟩
    rw[Nat.add_assoc]
    cases xs with
    |nil=>
     simp at e2;subst e2
     simp only[Nat.zero_mul,Nat.zero_add]
     exact hS j (by simp) (by simpa using hj2)
    |cons y ys0=>
     have h5:=o1 y List.mem_cons_self
     have hhd:=Nat.eq_of_beq_eq_true hhd
     have hee:e'=e:=by omega
     subst hee
     have h8:((y::ys0).length-c)*e'=(y::ys0).length*e'-c*e':=Nat.sub_mul _ _ _
     have h9:(M-c)*e'=M*e'-c*e':=Nat.sub_mul _ _ _
     have h6:c*e'≤(y::ys0).length*e':=Nat.mul_le_mul_right _ e2
     have h7:(y::ys0).length*e'≤M*e':=Nat.mul_le_mul_right _ hlc
     exact hS _ (by omega) (by omega)
   ·split at hg<;>cases hg
  ·cases ho
 |arr nm off len e' ag=>
  rw[hx]at ho
  simp only at ho
  split at ho
  ·rename_i hee
   subst hee
   obtain⟨m,hm,ho⟩:=zbi ho
   obtain⟨b,hb,ho⟩:=zbi ho
   simp only[Option.map_eq_some_iff,zpi]at ho
   obtain⟨c,hc,rfl,rfl,rfl⟩:=ho
   obtain⟨Ow',hX,g'⟩:=g.opX h1
   rw[hx]at g'
   have he:evoE env x'=env∨True:=.inr trivial
   obtain⟨A,cap,ex,hlc,hA⟩:=g'.val.1.toArr
   obtain⟨M,e1,e2,e3,e4,e5,e6,e7,e8⟩:=run_bounds (P:=P) g h2 h3 h4 hmx (isS:=true) hlc hm hb hc
   have hr:=run A len cap c b M ex e1
   have hrel:VRel w (XX F Ow) β (act.eval x) (.arr nm off len e ag):=by
    unfold okX at h1
    split at h1
    ·have:=eq_of_beq h1;subst this
     rename_i k
     simp only[evo]at hx
     have:=(g.slot k).1
     rw[hx]at this;exact this
    ·have:=(g.opT h1).1;rw[hx]at this;exact this
   have href: ∀r∈refs (AV.arr nm (off+c*e) (b-c) e ag),(hget h r).isSome:=fun r hr=>g'.refV r hr
   refine g.same hr ?_ (.of rfl) href
   refine .arr _ nm _ _ _ e ag (by omega) fun hlt=> ?_
   rw[if_neg (by omega),hA (by omega)]
   simp only[Option.map_some,add_at,Nat.add_assoc]
  ·cases ho
 |_=>rw[hx]at ho;cases ho
end
section
variable {P:Program} {Γ:Glob} {N0:Base Γ} {w:World} {F X:Cell→Prop} {β:Nat→Cell} {Ow:Key→Cell→Prop} {env env':Env} {h h':Heap} {v:Value} {a a':AV} {act:Act} {R:CallF} {o:Oper}
def zeroT (P:Program)(t:TypeId):Option Value:=(P.info? t).bind (·.zero)
theorem run_zero {t:TypeId}{z:Value}(hz:zeroT P t=some z):(zeroValue t).run P w= .ok z w:=by
 obtain⟨i,hi,hz⟩:=zbi hz
 simp[zeroValue,typeInfo,hi,hz]
theorem run_newRow (T:TypeId)(cs:Array Value):(newRow T cs).run P w= .ok ⟨w.heap.size,0,none⟩ (blockOf w cs T):=rfl
theorem const_cell {v:Value}{a:AV}(h:okConst1 v a=true):a.isCell=true∧(∀S,OwnOk S v a)∧(∀r∈refs2 a,(hget h' r).isSome)∧VRel w X β v a:=by
 obtain⟨q1,q2,q3,q4⟩:=okConst1_rel (w:=w) (X:=X) (β:=β) h
 refine⟨q4,fun S=>q2.mono fun _ hf=>hf.elim,fun r hr=> ?_,q1⟩
 have:refs2 a=[]:=by cases a<;>first|exact q3|cases q4
 rw[this]at hr;cases hr
theorem out_new (g:GR N0 w F β Ow (slots act) env h v a){nm:Nat}(hn:hget h nm=none)(cs:Array Value)(T:TypeId)(as:List AV)(hl:as.length≤cs.size)
 (hv: ∀j (h1:j<as.length) (h2:j<cs.size),as[j].isCell=true∧(∀S,OwnOk S cs[j] as[j])∧(∀r∈refs2 as[j],(hget h r).isSome)∧VRel w (XX F Ow) β cs[j] as[j])
 {r:Result Next} {u:Value} {x:AV} (hr:r= .ok (.value u) (blockOf w cs T)) (hu: ∀w' X' β',β' nm=(w.heap.size,0)→VRel w' X' β' u x) (hx:refs x=[nm]) (hx2:x.notOwn=true):Out P N0 w F β h (XX F Ow) act env ((nm,⟨true,as⟩)::h) r x:=by
 obtain⟨β',Ow',g',k,f,hb,hb2⟩:=g.newBlock hn cs T as hl hv undef
 refine⟨u,_,β',Ow',.inl hr,g'.pend' (hu _ _ _ hb) (.of hx2) (fun r hr=> ?_),k,f,fun j hj _=>hb2 j fun e=>by subst e;rw[hn]at hj;cases hj⟩
 rw[hx]at hr
 simp only[List.mem_singleton]at hr
 subst hr
 rw[hget_cons,if_pos rfl];rfl
theorem snd_new (g:GR N0 w F β Ow (slots act) env h v a){t:TypeId}{nm:Nat}{zero:List AV}{z:Value}(hz:zeroT P t=some z)(hk:okConsts z.cells.toList zero=true)
 (hop:o.op= .alloc t) (ho:opv R env h (.new nm zero)=some (a',env',h')):Out P N0 w F β h (XX F Ow) act env' h' ((execOp act.eval o).run P w) a':=by
 simp only[opv]at ho
 split at ho
 ·rename_i hn
  simp only[zsi,zpi]at ho
  obtain⟨rfl,rfl,rfl⟩:=ho
  obtain⟨e1,e2⟩:=okConsts_rel hk
  have e1':z.cells.size=zero.length:=by simpa using e1
  refine out_new g hn z.cells t zero (by omega) (fun j h1 h2=>by have:=const_cell (h':=h) (w:=w) (X:=XX F Ow) (β:=β) (e2 j (by simpa using h2) h1);rw[Array.getElem_toList]at this;exact this) (u:=.pointer (some ⟨w.heap.size,0,none⟩)) ?_ ?_ rfl rfl
  ·simp only[execOp,hop,Instr.alloc,Sem.run_bind,run_zero hz,Result.andThen_ok,newVar,run_newRow,Sem.run_pure]
  ·intro w' X' β' hb
   have:=VRel.ptr (w:=w') (X:=X') (β:=β') nm 0
   rw[hb]at this;exact this
 ·cases ho
theorem snd_box (g:GR N0 w F β Ow (slots act) env h v a){t:TypeId}{nm:Nat}{x:Operand}{x':Opd}(h1:okT x x'=true)
 (hop:o.op= .box t x) (ho:opv R env h (.box nm x')=some (a',env',h')):Out P N0 w F β h (XX F Ow) act env' h' ((execOp act.eval o).run P w) a':=by
 obtain⟨q1,q2,q3⟩:=g.opT h1
 simp only[opv]at ho
 split at ho
 ·rename_i hn
  split at ho
  ·rename_i hc
   simp only[zsi,zpi]at ho
   obtain⟨rfl,rfl,rfl⟩:=ho
   rw[okT_evoE h1]
   obtain⟨e1,e2⟩:=cells_len q1 hc
   refine out_new g hn (act.eval x).cells t _ (by omega) (fun j h1 h2=> ?_) (u:=.pointer (some ⟨w.heap.size,0,none⟩)) ?_ ?_ rfl rfl
   ·refine⟨List.all_eq_true.1 hc _ (List.getElem_mem h1),fun S=> ?_,fun r hr=>q3 r (cells_refs _ hc _ (List.getElem_mem h1) r hr),by have:=e2 j (by simpa using h2) h1;rw[Array.getElem_toList]at this;exact this⟩
    have:=cells_own q1 q2 hc j (by simpa using h2) h1
    rcases this with h3|h3
    ·exact .of h3
    ·have h4:=h3.2.mono (S':=S) fun _ hf=>hf.elim
     rw[Array.getElem_toList]at h4;exact h4
   ·simp only[execOp,hop,Instr.box,Sem.run_bind,Result.andThen_ok,newVar,run_newRow,Sem.run_pure]
   ·intro w' X' β' hb
    have:=VRel.ptr (w:=w') (X:=X') (β:=β') nm 0
    rw[hb]at this;exact this
  ·cases ho
 ·cases ho
theorem fold_set (l:List Value): ∀(k off:Nat) (cs:Array Value),
 ((l.zipIdx k).foldl (fun cs p=>cs.setIfInBounds (off+p.2) p.1) cs).size=cs.size∧
 ∀i,off+k+l.length≤cs.size→i<cs.size→((l.zipIdx k).foldl (fun cs p=>cs.setIfInBounds (off+p.2) p.1) cs)[i]? =if off+k≤i∧i<off+k+l.length then l[i-(off+k)]? else cs[i]? :=by
 induction l with
 |nil=>intro k off cs;exact⟨rfl,fun i _ _=>by rw[if_neg (by simp)];rfl⟩
 |cons x l ih=>
  intro k off cs
  rw[List.zipIdx_cons,List.foldl_cons]
  obtain⟨i1,i2⟩:=ih (k+1) off (cs.setIfInBounds (off+k) x)
  refine⟨by rw[i1,Array.size_setIfInBounds],fun i hl hi=> ?_⟩
  rw[i2 i (by simp only[Array.size_setIfInBounds,List.length_cons]at hl ⊢;omega) (by simpa using hi)]
  simp only[List.length_cons]at hl ⊢
  by_cases e:i=off+k
  ·subst e
   rw[if_neg (by omega),if_pos (by omega),Nat.sub_self,Array.getElem?_setIfInBounds_self,if_pos (by omega)];rfl
  ·by_cases h2:off+k≤i∧i<off+k+(l.length+1)
   ·rw[if_pos (by omega),if_pos h2]
    have:i-(off+k)=(i-(off+(k+1)))+1:=by omega
    rw[this,List.getElem?_cons_succ]
   ·rw[if_neg (by omega),if_neg h2,Array.getElem?_setIfInBounds_ne (by omega)]
def CellsIs (w:World)(X:Cell→Prop)(β:Nat→Cell)(cs:Array Value)(as:List AV):Prop:=
 cs.size=as.length∧∀i (h1:i<cs.size) (h2:i<as.length),as[i].isCell=true∧VRel w X β cs[i] as[i]
theorem CellsIs.put {cs:Array Value}{as as':List AV}(hc:CellsIs w X β cs as){v:Value}{x:AV}(hx:VRel w X β v x)(hcc:x.cells.all AV.isCell=true){off:Nat}(hs:storeC as off x.cells=some as'):
 off+v.cells.size≤cs.size∧CellsIs w X β (v.cells.zipIdx.foldl (fun cs (c,j)=>cs.setIfInBounds (off+j) c) cs) as':=by
 obtain⟨e1,e2⟩:=cells_len hx hcc
 obtain⟨s1,s2,s3⟩:=storeC_get off _ _ _ hs
 have hle:off+v.cells.size≤cs.size:=by rw[hc.1,e1];exact s2
 refine⟨hle,?_⟩
 have conv:v.cells.zipIdx.foldl (fun cs (c,j)=>cs.setIfInBounds (off+j) c) cs=(v.cells.toList.zipIdx 0).foldl (fun cs p=>cs.setIfInBounds (off+p.2) p.1) cs:=by
  rw[←Array.foldl_toList,Array.toList_zipIdx]
 rw[conv]
 obtain⟨f1,f2⟩:=fold_set v.cells.toList 0 off cs
 have hsz:v.cells.toList.length=x.cells.length:=by simpa using e1
 refine⟨by rw[f1,s1,hc.1],fun i h1 h2=> ?_⟩
 have hi:i<cs.size:=by rw[f1]at h1;exact h1
 have g1:=f2 i (by simpa using hle) hi
 have g2:=s3 i (by rw[←hc.1];exact hi)
 rw[zge h2]at g2
 rw[Array.getElem?_eq_getElem h1]at g1
 simp only[Nat.add_zero]at g1
 rw[hsz]at g1
 split at g1
 ·rename_i hin
  rw[if_pos hin]at g2
  rw[zge (by omega)]at g1 g2
  injection g1 with g1;injection g2 with g2
  rw[g1,g2]
  exact⟨List.all_eq_true.1 hcc _ (List.getElem_mem _),e2 _ (by omega) (by omega)⟩
 ·rename_i hin
  rw[if_neg hin]at g2
  rw[Array.getElem?_eq_getElem hi]at g1
  rw[zge (by rw[←hc.1];exact hi)]at g2
  injection g1 with g1;injection g2 with g2
  rw[g1,g2]
  exact hc.2 i hi (by rw[←hc.1];exact hi)
def okParts (place:Nat→Option (Nat×Nat)):List (Nat×Operand)→List (Nat×Nat×Opd)→Bool
 | [],[]=>true
 |(i,x)::r,(off,sz,y)::s=>(place i==some (off,sz))&&okT x y&&okParts place r s
 |_,_=>false
theorem fill_run (g:GR N0 w F β Ow (slots act) env h v a)(place:Nat→Option (Nat×Nat)): ∀(ps:List (Nat×Operand)) (qs:List (Nat×Nat×Opd)) (cs:Array Value) (as as':List AV),
 okParts place ps qs=true→CellsIs w (XX F Ow) β cs as→(∀c∈as,∀r∈refs2 c,(hget h r).isSome)→putParts as (qs.map fun p=>(p.1,p.2.1,evo env p.2.2))=some as'→
 ∃cs',Instr.fill place cs (ps.map fun p=>(p.1,act.eval p.2))=some cs'∧CellsIs w (XX F Ow) β cs' as'∧(∀c∈as',∀r∈refs2 c,(hget h r).isSome):=by
 intro ps
 induction ps with
 |nil=>
  intro qs cs as as' hk hc hr hp
  cases qs with
  |nil=>simp only[List.map_nil,putParts,zsi]at hp;subst hp;exact⟨cs,rfl,hc,hr⟩
  |cons=>cases hk
 |cons p ps ih=>
  intro qs cs as as' hk hc hr hp
  cases qs with
  |nil=>cases hk
  |cons q qs=>
   obtain⟨i,x⟩:=p
   obtain⟨off,sz,y⟩:=q
   simp only[okParts,zba,beq_iff_eq]at hk
   obtain⟨⟨h1,h2⟩,h3⟩:=hk
   simp only[List.map_cons,putParts]at hp
   split at hp
   ·rename_i hcond
    obtain⟨as1,hs,hp⟩:=zbi hp
    obtain⟨q1,q2,q3⟩:=g.opT h2
    obtain⟨l1,l2⟩:=hc.put q1 hcond.2 hs
    obtain⟨e1,e2⟩:=cells_len q1 hcond.2
    obtain⟨cs',f1,f2⟩:=ih qs _ as1 as' h3 l2 (by
     intro c hcm r hrr
     obtain⟨s1,s2,s3⟩:=storeC_get off _ _ _ hs
     obtain⟨j,hj,rfl⟩:=List.getElem_of_mem hcm
     have g2:=s3 j (by omega)
     rw[zge hj]at g2
     split at g2
     ·rw[zge (by omega)]at g2
      injection g2 with g2
      rw[g2]at hrr
      exact q3 r (cells_refs _ hcond.2 _ (List.getElem_mem _) r hrr)
     ·rw[zge (by omega)]at g2
      injection g2 with g2
      rw[g2]at hrr
      exact hr _ (List.getElem_mem _) r hrr) hp
    refine⟨cs',?_,f2⟩
    have hsz:(act.eval x).cells.size=sz:=by rw[e1,hcond.1]
    have c2: ¬(off+(act.eval x).cells.size>cs.size):=by omega
    simp only[List.map_cons,Instr.fill,h1,hsz]
    rw[if_neg (by simp;omega)]
    exact f1
   ·cases hp
def placeT (P:Program)(t:TypeId):Option (Nat→Option (Nat×Nat)):=
 match P.underlying t with
 |some (.struct fs)=>if fs.all fun f=>(szT P f.type).isSome then some fun i=>fs[i]?.bind fun f=>(szT P f.type).map fun n=>(f.offset,n)else none
 |some (.array _ e)=>(szT P e).map fun n=>fun i=>some (i*n,n)
 |_=>none
theorem run_places : ∀(fs:List Field),(fs.all fun f=>(szT P f.type).isSome)=true→
 ((fs.mapM fun f=>do pure (f.offset,←sizeOf f.type):Sem (List (Nat×Nat)))).run P w= .ok (fs.map fun f=>(f.offset,(szT P f.type).getD 0)) w:=by
 intro fs
 induction fs with
 |nil=>intro _;rfl
 |cons f fs ih=>
  intro hk
  simp only[List.all_cons,zba]at hk
  obtain⟨n,hn⟩:=Option.isSome_iff_exists.1 hk.1
  have:=ih hk.2
  rw[List.mapM_cons]
  simp only[Sem.run_bind,run_sizeOf hn,Result.andThen_ok,Sem.run_pure,List.map_cons,hn,Option.getD_some,this]
theorem snd_build (g:GR N0 w F β Ow (slots act) env h v a){t:TypeId}{zero:List AV}{z:Value}{place:Nat→Option (Nat×Nat)}{ps:Array (Nat×Operand)}{qs:List (Nat×Nat×Opd)}(hz:zeroT P t=some z)(hk:okConsts z.cells.toList zero=true)
 (hpl:placeT P t=some place) (hps:okParts place ps.toList qs=true)
 (hop:o.op= .build t ps) (ho:opv R env h (.build zero qs)=some (a',env',h')):Out P N0 w F β h (XX F Ow) act env' h' ((execOp act.eval o).run P w) a':=by
 simp only[opv,Option.map_eq_some_iff,zpi]at ho
 obtain⟨as,has,rfl,rfl,rfl⟩:=ho
 obtain⟨e1,e2⟩:=okConsts_rel hk
 have e1':z.cells.size=zero.length:=by simpa using e1
 obtain⟨cs,f1,f2,f3⟩:=fill_run g place ps.toList qs z.cells zero as hps ⟨e1',fun i h1 h2=>by
  have:=const_cell (h':=h) (w:=w) (X:=XX F Ow) (β:=β) (e2 i (by simpa using h1) h2)
  exact⟨this.1,by have h3:=this.2.2.2;rw[Array.getElem_toList]at h3;exact h3⟩⟩ (fun c hc r hr=>by
  obtain⟨i,hi,rfl⟩:=List.getElem_of_mem hc
  exact(const_cell (h':=h) (w:=w) (X:=XX F Ow) (β:=β) (e2 i (by omega) hi)).2.2.1 r hr) has
 have hlist:(ps.map fun(i,x)=>(i,act.eval x)).toList=ps.toList.map fun p=>(p.1,act.eval p.2):=by simp
 refine g.same (v':=.agg cs) ?_ ?_ (.of rfl) ?_
 ·unfold placeT at hpl
  split at hpl
  ·rename_i fs hu
   split at hpl
   ·rename_i hall
    injection hpl with hpl
    have hm:((fs.mapM fun f=>do pure (f.offset,←sizeOf f.type):Sem (Array (Nat×Nat)))).run P w= .ok (fs.toList.map fun f=>(f.offset,(szT P f.type).getD 0)).toArray w:=by
     rw[Array.mapM_eq_mapM_toList]
     have:=run_places (P:=P) (w:=w) fs.toList (by simpa using hall)
     rw[←bind_pure_comp,Sem.run_bind,this];rfl
    have hplace:(fun i=>((fs.toList.map fun f=>(f.offset,(szT P f.type).getD 0)).toArray)[i]?)=place:=by
     rw[←hpl]
     funext i
     simp only[List.getElem?_toArray,List.getElem?_map,Array.getElem?_toList]
     cases hfi:fs[i]? with
     |none=>rfl
     |some f=>
      have hmem:f∈fs:=by
       obtain⟨hlt,rfl⟩:=Array.getElem?_eq_some_iff.1 hfi
       exact Array.getElem_mem hlt
      have:=Array.all_eq_true_iff_forall_mem.1 hall f hmem
      obtain⟨n,hn⟩:=Option.isSome_iff_exists.1 this
      simp[hn]
    simp only[execOp,hop,Instr.build,Sem.run_bind,run_zero hz,Result.andThen_ok,run_underlying hu,hm,hplace,hlist,f1,Sem.run_pure]
   ·cases hpl
  ·rename_i n e hu
   obtain⟨sz,hsz,rfl⟩:=Option.map_eq_some_iff.1 hpl
   simp only[execOp,hop,Instr.build,Sem.run_bind,run_zero hz,Result.andThen_ok,run_underlying hu,run_sizeOf hsz,hlist,f1,Sem.run_pure]
  ·cases hpl
 ·refine .agg _ _ (by rw[f2.1];simp) (fun c hc=> ?_) fun i hi=> ?_
  ·obtain⟨x,hx,rfl⟩:=List.mem_map.1 hc
   obtain⟨i,hi,rfl⟩:=List.getElem_of_mem hx
   exact⟨isCell_flat1 (cp_isCell (f2.2 i (by rw[f2.1];exact hi) hi).1),notOwn_cp _⟩
  ·rw[List.getElem_map]
   exact(f2.2 i hi (by rw[←f2.1];exact hi)).2.cp
 ·intro r hr
  simp only[refs,refs3,List.mem_flatMap,List.mem_map]at hr
  obtain⟨c,⟨x,hx,rfl⟩,hr⟩:=hr
  rw[refs2_cp]at hr
  exact f3 x hx r hr
end
section
variable {P:Program} {Γ:Glob} {N0:Base Γ} {w:World} {F X:Cell→Prop} {β:Nat→Cell} {Ow:Key→Cell→Prop} {env env':Env} {h h':Heap} {v:Value} {a a':AV} {act:Act} {R:CallF} {o:Oper}
theorem out_lst (g:GR N0 w F β Ow (slots act) env h v a)(cs:Array Value)(T:TypeId)(e cap:Nat)(gr:Gr)(xs:List AV)(hl:xs.length*e≤cs.size)(hcap:xs.length≤cap)
 (hg:gr= .full→cap=xs.length) (hgo: ∀e',gr= .own e'→e'=e∧cap*e≤cs.size)
 (hx: ∀x∈xs,x.delem=true∧x.cells.length=e) (hv: ∀j (h1:j<(xs.flatMap AV.cells).length) (h2:j<cs.size),VRel w (XX F Ow) β cs[j] ((xs.flatMap AV.cells)[j]))
 {w':World} (hw:Ext w w') (hat: ∀j (h2:j<cs.size),cat w' (w.heap.size,j)=some cs[j]∧cfz w' (w.heap.size,j)=false)
 {r:Result Next} (hr:r= .ok (.value (.slice (some ⟨w.heap.size,0,none⟩) xs.length cap)) w'):Out P N0 w F β h (XX F Ow) act env h r (.lst gr xs):=by
 have g1:=g.noval undef
 have hX1: ∀c,XX F (dropK Ow (· = .val)) c→XX F Ow c:=fun _ h=>XX_drop h
 have k1:=(Kp.refl N0 w (XX F Ow)).shrink hX1
 obtain⟨g2,k2,f2⟩:=g1.grow hw .val (fun c=>(∃e',gr= .own e')∧c.1=w.heap.size∧xs.length*e≤c.2∧c.2<cap*e) (fun c hc=>hc.1 rfl) (by
  rintro⟨c1,c2⟩ ⟨⟨e',he⟩,h1,h2,h3⟩
  simp only at h1 h2 h3
  subst h1
  have:=(hgo e' he).2
  exact⟨Nat.le_refl _,⟨_,(hat c2 (by omega)).1⟩,(hat c2 (by omega)).2⟩)
 have lF:=lenF fun x hm=>(hx x hm).2
 refine⟨_,w',β,_,.inl hr,g2.pend' ?_ ?_ (fun r hr=>by simp[refs]at hr),k1.trans k2,f2,fun _ _ _=>rfl⟩
 ·have hX2: ∀c,XX F (addOw (dropK Ow (· = .val)) .val fun c=>(∃e',gr= .own e')∧c.1=w.heap.size∧xs.length*e≤c.2∧c.2<cap*e) c→XX F Ow c∨(c.1=w.heap.size∧xs.length*e≤c.2):=by
   intro c hc
   rcases hc with hc|⟨k,hk⟩
   ·exact .inl (.inl hc)
   ·simp only[addOw]at hk
    split at hk
    ·exact .inr ⟨hk.2.1,hk.2.2.1⟩
    ·exact .inl (.inr ⟨k,hk.2⟩)
  refine VRel.lst w.heap.size 0 e cap gr xs (fun j=>cs.getD j undef) hcap hg hx (fun j hj=> ?_) fun j hj=> ?_
  ·rw[Nat.zero_add]
   refine⟨by rw[(hat j (by omega)).1,Array.getD_eq_getD_getElem?,Array.getElem?_eq_getElem (by omega)];rfl,fun hc=> ?_⟩
   rcases hX2 _ hc with h3|h3
   ·obtain⟨⟨u,hu⟩,_⟩:=g.inv.live _ h3
    have:=cat_lt hu
    simp at this
   ·have:=h3.2
    simp only at this
    omega
  ·have hj2:j<cs.size:=by omega
   have:=((hv j hj hj2).mono k1).mono k2
   have e1:cs.getD j undef=cs[j]:=by rw[Array.getD_eq_getD_getElem?,Array.getElem?_eq_getElem hj2];rfl
   rw[e1];exact this
 ·refine .lst fun e' ys he=> ?_
  injection he with h1 h2
  subst h2
  obtain⟨h3,h4⟩:=hgo e' h1
  subst h3
  refine⟨fun x hm=>(hx x hm).2,fun A len cp hv hlt=> ?_⟩
  injection hv with hA hl hc
  subst hl hc
  refine⟨_,_,hA.symm,fun j hj1 hj2=> ?_⟩
  simp only[addOw,if_true,Nat.zero_add]
  exact⟨⟨_,h1⟩,trivial,hj1,hj2⟩
theorem alloc_at (w:World)(cs:Array Value)(T:TypeId)(j:Nat)(h2:j<cs.size):cat (blockOf w cs T) (w.heap.size,j)=some cs[j]∧cfz (blockOf w cs T) (w.heap.size,j)=false:=
 ⟨by rw[cat_block,Array.getElem?_eq_getElem h2],cfz_block _ _ _ _⟩
theorem made_get (z:Array Value)(n j:Nat)(hj:j<n)(hz:0<z.size):(madeCells z n)[j]? =some (z[j%z.size]'(Nat.mod_lt _ hz)):=by
 simp only[madeCells,Array.getElem?_map,Array.getElem?_range,hj,if_true,Option.map_some]
 rw[getElem!_pos z _ (Nat.mod_lt _ hz)]
def bytesT (P:Program)(t:TypeId):Option Nat:=(P.info? t).map (·.bytes)
structure ElemT (P:Program)(t et:TypeId)(e:Nat)(z:Value):Prop where
 under:P.underlying t=some (.slice et)
 size:szT P et=some e
 zero:zeroT P et=some z
 zs:z.cells.size=e
 bytes: ∃b,bytesT P et=some b∧b≤4096
theorem ElemT.info {t et:TypeId}{e:Nat}{z:Value}(q:ElemT P t et e z): ∃i,P.info? et=some i∧i.zero=some z∧i.size=e∧i.bytes≤4096:=by
 obtain⟨i,hi,hz⟩:=zbi q.zero
 obtain⟨b,hb,hb2⟩:=q.bytes
 refine⟨i,hi,hz,?_,?_⟩
 ·have:=q.size;simp only[szT,hi,Option.map_some,zsi]at this;exact this
 ·simp only[bytesT,hi,Option.map_some,zsi]at hb;omega
theorem run_mk {t et:TypeId}{e:Nat}{z:Value}(q:ElemT P t et e z){kl kc:IntKind}{l n:Int}(h0:0≤l)(hl:l≤n)(hn:n≤lenMax):
 (Instr.makeSlice t (.int kl l) (.int kc n)).run P w= .ok (.slice (some ⟨w.heap.size,0,none⟩) l.toNat n.toNat) (blockOf w (madeCells z.cells (n.toNat*e)) et):=by
 obtain⟨i,hi,hz,hs,hb⟩:=q.info
 have hn':n≤4294967296:=by simpa [lenMax]using hn
 have hbn:(i.bytes:Int)*n≤4096*4294967296:=Int.mul_le_mul (by omega) hn' (by omega) (by omega)
 have:=run_make (P:=P) w t et i z q.under hi hz kl kc l n h0 hl (by omega) (by omega)
 rw[this,hs];rfl
theorem snd_makeL (g:GR N0 w F β Ow (slots act) env h v a){t et:TypeId}{e:Nat}{z:Value}(q:ElemT P t et e z){k0:IntKind}{x:Operand}{x':Opd}(h1:okT x x'=true)
 (hop:o.op= .makeSlice t (.const (.int k0 0)) x) (ho:opv R env h (.makeL e x')=some (a',env',h')):Out P N0 w F β h (XX F Ow) act env' h' ((execOp act.eval o).run P w) a':=by
 obtain⟨q1,-,-⟩:=g.opT h1
 simp only[opv]at ho
 obtain⟨n',hn,ho⟩:=zbi ho
 cases hi:evo env x' with
 |int k n=>
  rw[hi]at hn q1
  simp only[intV,zsi]at hn
  subst hn
  have ei:=q1.toInt
  split at ho
  ·rename_i hb
   simp only[zsi,zpi]at ho
   obtain⟨rfl,rfl,rfl⟩:=ho
   have hr:=run_mk (w:=w) q (kl:=k0) (kc:=k) (Int.le_refl 0) hb.1 hb.2
   refine out_lst g (madeCells z.cells (n.toNat*e)) et e n.toNat (.own e) [] (by simp) (by simp) (by simp) (fun e' he=> ?_) (by simp) (fun j h1=>absurd h1 (by simp)) (ext_block w _ et) (alloc_at w _ et) ?_
   ·injection he with he;subst he;exact⟨rfl,by rw[size_madeCells];exact Nat.le_refl _⟩
   ·have ec:act.eval (.const (.int k0 0))= .int k0 0:=rfl
    simp only[execOp,hop,Sem.run_bind,ec,ei,hr,Result.andThen_ok,Sem.run_pure];rfl
  ·cases ho
 |_=>rw[hi]at hn;cases hn
theorem flatten_get {α:Type}(z:List α)(n j:Nat)(hz:0<z.length)(hj:j<n*z.length):((List.replicate n z).flatten)[j]? =z[j%z.length]? :=by
 induction n generalizing j with
 |zero=>simp at hj
 |succ n ih=>
  rw[List.replicate_succ,List.flatten_cons]
  rcases Nat.lt_or_ge j z.length with hlt|hge
  ·rw[List.getElem?_append_left hlt,Nat.mod_eq_of_lt hlt]
  ·rw[List.getElem?_append_right hge,ih (j-z.length) (by rw[Nat.succ_mul]at hj;omega),Nat.mod_eq_sub_mod hge]
theorem flatten_len {α:Type}(z:List α)(n:Nat):((List.replicate n z).flatten).length=n*z.length:=by simp
theorem made_cells {w:World}{X:Cell→Prop}{β:Nat→Cell}{z:Value}{zero:List AV}(hk:okConsts z.cells.toList zero=true)(n:Nat):CellsIs w X β (madeCells z.cells (n*z.cells.size)) ((List.replicate n zero).flatten)∧
 ∀j (h1:j<((List.replicate n zero).flatten).length) (h2:j<(madeCells z.cells (n*z.cells.size)).size),okConst1 ((madeCells z.cells (n*z.cells.size))[j]) (((List.replicate n zero).flatten)[j])=true:=by
 obtain⟨e1,e2⟩:=okConsts_rel hk
 have e1':z.cells.size=zero.length:=by simpa using e1
 have key: ∀j (h1:j<((List.replicate n zero).flatten).length) (h2:j<(madeCells z.cells (n*z.cells.size)).size),okConst1 ((madeCells z.cells (n*z.cells.size))[j]) (((List.replicate n zero).flatten)[j])=true:=by
  intro j h1 h2
  rw[flatten_len]at h1
  have hz:0<zero.length:=Nat.pos_of_ne_zero fun h0=>by rw[h0]at h1;omega
  have g1:=made_get z.cells (n*z.cells.size) j (by rw[e1'];exact h1) (by omega)
  have g2:=flatten_get zero n j hz h1
  rw[Array.getElem?_eq_getElem h2]at g1
  rw[zge (by rw[flatten_len];exact h1),zge (Nat.mod_lt _ hz)]at g2
  injection g1 with g1;injection g2 with g2
  rw[g1,g2]
  have:=e2 (j%zero.length) (by rw[e1];exact Nat.mod_lt _ hz) (Nat.mod_lt _ hz)
  rw[Array.getElem_toList]at this
  simp only[e1'];exact this
 refine⟨⟨by rw[size_madeCells,flatten_len,e1'],fun i h1 h2=> ?_⟩,key⟩
 have:=const_cell (h':=[]) (w:=w) (X:=X) (β:=β) (key i h2 h1)
 exact⟨this.1,this.2.2.2⟩
theorem snd_makeA (g:GR N0 w F β Ow (slots act) env h v a){t et:TypeId}{nm e:Nat}{ag:Bool}{zero:List AV}{z:Value}(q:ElemT P t et e z)(hk:okConsts z.cells.toList zero=true){x y:Operand}{x':Opd}(h1:okT x x'=true)(h2:okT y x'=true)
 (hop:o.op= .makeSlice t x y) (ho:opv R env h (.makeA nm e ag zero x')=some (a',env',h')):Out P N0 w F β h (XX F Ow) act env' h' ((execOp act.eval o).run P w) a':=by
 obtain⟨q1,-,-⟩:=g.opT h1
 obtain⟨q2,-,-⟩:=g.opT h2
 simp only[opv]at ho
 split at ho
 ·rename_i hn
  obtain⟨n',hn',ho⟩:=zbi ho
  cases hi:evo env x' with
  |int k n=>
   rw[hi]at hn' q1 q2
   simp only[intV,zsi]at hn'
   subst hn'
   have ei:=q1.toInt
   have ei2:=q2.toInt
   split at ho
   ·rename_i hb
    simp only[zsi,zpi]at ho
    obtain⟨rfl,rfl,rfl⟩:=ho
    have hr:=run_mk (w:=w) q (kl:=k) (kc:=k) hb.1 (Int.le_refl n) hb.2
    obtain⟨c1,c2⟩:=made_cells (w:=w) (X:=XX F Ow) (β:=β) hk n.toNat
    rw[q.zs]at c1 c2
    refine out_new g hn (madeCells z.cells (n.toNat*e)) et _ (by rw[c1.1];exact Nat.le_refl _) (fun j h1 h2=>const_cell (c2 j h1 h2)) (u:=.slice (some ⟨w.heap.size,0,none⟩) n.toNat n.toNat) ?_ ?_ rfl rfl
    ·simp only[execOp,hop,Sem.run_bind,ei,ei2,hr,Result.andThen_ok,Sem.run_pure]
    ·intro w' X' β' hb'
     exact .arr _ nm 0 _ _ e ag (Nat.le_refl _) fun _=>by rw[hb']
   ·cases ho
  |_=>rw[hi]at hn';cases hn'
 ·cases ho
theorem storeC_set (e:Nat): ∀(xs:List AV) (i:Nat) (y:AV),(∀x∈xs,x.cells.length=e)→i<xs.length→y.cells.length=e→storeC (xs.flatMap AV.cells) (i*e) y.cells=some ((xs.set i y).flatMap AV.cells):=by
 have overPre: ∀(vs:List AV) (a b:List AV),a.length=vs.length→over (a++b) vs=some (vs++b):=by
  intro vs
  induction vs with
  |nil=>intro a b hl;cases a with
   |nil=>cases b<;>rfl
   |cons=>simp at hl
  |cons v vs ih=>
   intro a b hl
   cases a with
   |nil=>simp at hl
   |cons x a=>simp only[List.cons_append,over,ih a b (by simpa using hl)]
 have skip: ∀(a b vs r:List AV),over b vs=some r→storeC (a++b) a.length vs=some (a++r):=by
  intro a
  induction a with
  |nil=>intro b vs r h;cases b<;>cases vs<;>exact h
  |cons x a ih=>intro b vs r h;simp only[List.cons_append,List.length_cons,storeC,ih b vs r h]
 intro xs i y hx hi hy
 have spl:xs=xs.take i++xs[i]::xs.drop (i+1):=by rw[←List.drop_eq_getElem_cons hi,List.take_append_drop]
 have l1:=lenF (xs:=xs.take i) (e:=e) fun x hm=>hx x (List.mem_of_mem_take hm)
 rw[List.length_take,Nat.min_eq_left (by omega)]at l1
 have lhs:xs.flatMap AV.cells=(xs.take i).flatMap AV.cells++(xs[i].cells++(xs.drop (i+1)).flatMap AV.cells):=by
  conv=>lhs;rw[spl,List.flatMap_append,List.flatMap_cons]
 have rhs:(xs.set i y).flatMap AV.cells=(xs.take i).flatMap AV.cells++(y.cells++(xs.drop (i+1)).flatMap AV.cells):=by
  rw[List.set_eq_take_append_cons_drop,if_pos hi,List.flatMap_append,List.flatMap_cons]
 rw[lhs,rhs,←l1]
 exact skip _ _ _ _ (overPre _ _ _ (by rw[hx _ (List.getElem_mem hi),hy]))
def okElemParts :List (Nat×Operand)→List (Nat×Opd)→Bool
 | [],[]=>true
 |(i,x)::r,(j,y)::s=>(i==j)&&okT x y&&okElemParts r s
 |_,_=>false
theorem fillE_run (g:GR N0 w F β Ow (slots act) env h v a)(e:Nat): ∀(ps:List (Nat×Operand)) (qs:List (Nat×Opd)) (cs:Array Value) (xs xs':List AV),
 okElemParts ps qs=true→CellsIs w (XX F Ow) β cs (xs.flatMap AV.cells)→(∀x∈xs,x.cells.length=e)→putElems e xs (qs.map fun p=>(p.1,evo env p.2))=some xs'→
 ∃cs',Instr.fill (fun i=>some (i*e,e)) cs (ps.map fun p=>(p.1,act.eval p.2))=some cs'∧CellsIs w (XX F Ow) β cs' (xs'.flatMap AV.cells)∧xs'.length=xs.length:=by
 intro ps
 induction ps with
 |nil=>
  intro qs cs xs xs' hk hc hx hp
  cases qs with
  |nil=>simp only[List.map_nil,putElems,zsi]at hp;subst hp;exact⟨cs,rfl,hc,rfl⟩
  |cons=>cases hk
 |cons p ps ih=>
  intro qs cs xs xs' hk hc hx hp
  cases qs with
  |nil=>cases hk
  |cons q qs=>
   obtain⟨i,x⟩:=p
   obtain⟨j,y⟩:=q
   simp only[okElemParts,zba,beq_iff_eq]at hk
   obtain⟨⟨rfl,h2⟩,h3⟩:=hk
   simp only[List.map_cons,putElems]at hp
   split at hp
   ·rename_i hcond
    obtain⟨c1,c2,c3⟩:=hcond
    obtain⟨q1,q2,q3⟩:=g.opT h2
    have hs:=storeC_set e xs i (evo env y) hx c1 c2
    obtain⟨l1,l2⟩:=hc.put q1 c3 hs
    obtain⟨e1,-⟩:=cells_len q1 c3
    obtain⟨cs',f1,f2,f3⟩:=ih qs _ _ xs' h3 l2 (by
     intro z hz
     rcases List.mem_or_eq_of_mem_set hz with hz|hz
     ·exact hx z hz
     ·rw[hz];exact c2) hp
    refine⟨cs',?_,f2,by rw[f3,List.length_set]⟩
    have hsz:(act.eval x).cells.size=e:=by rw[e1,c2]
    simp only[List.map_cons,Instr.fill,hsz]
    rw[if_neg (by simp;omega)]
    exact f1
   ·cases hp
theorem zero_flat {ag:Bool}{zero:List AV}{e len:Nat}(hl:zero.length=e)(ha:ag=false→e=1)(hc: ∀c∈zero,c.isCell=true):
 (List.replicate len (zeroElem ag zero)).flatMap AV.cells=(List.replicate len zero).flatten∧(zeroElem ag zero).cells.length=e:=by
 have:(zeroElem ag zero).cells=zero:=by
  cases ag with
  |true=>rfl
  |false=>
   have he:=ha rfl
   subst he
   cases zero with
   |nil=>cases hl
   |cons c r=>
    cases r with
    |nil=>
     have:=hc c List.mem_cons_self
     simp only[zeroElem,Bool.false_eq_true,if_false,List.headD_cons]
     cases c<;>first|rfl|cases this
    |cons=>simp at hl
 refine⟨?_,by rw[this,hl]⟩
 induction len with
 |zero=>rfl
 |succ n ih=>rw[List.replicate_succ,List.flatMap_cons,this,ih,List.replicate_succ,List.flatten_cons]
theorem lit_run (g:GR N0 w F β Ow (slots act) env h v a){t et:TypeId}{e len:Nat}{ag:Bool}{zero:List AV}{z:Value}{ps:Array (Nat×Operand)}{qs:List (Nat×Opd)}{xs:List AV}(q:ElemT P t et e z)(hk:okConsts z.cells.toList zero=true)
 (hag:ag=false→e=1) (hsz:len*e≤16777216) (hps:okElemParts ps.toList qs=true) (hop:o.op= .buildSlice t len ps) (hx:putElems e (List.replicate len (zeroElem ag zero)) (qs.map fun p=>(p.1,evo env p.2))=some xs):
 ∃cs,(execOp act.eval o).run P w= .ok (.value (.slice (some ⟨w.heap.size,0,none⟩) len len)) (blockOf w cs et)∧CellsIs w (XX F Ow) β cs (xs.flatMap AV.cells)∧xs.length=len:=by
 obtain⟨e1,e2⟩:=okConsts_rel hk
 have e1':z.cells.size=zero.length:=by simpa using e1
 have hzl:zero.length=e:=by rw[←e1',q.zs]
 have hzc: ∀c∈zero,c.isCell=true:=by
  intro c hc
  obtain⟨i,hi,rfl⟩:=List.getElem_of_mem hc
  exact(const_cell (h':=h) (w:=w) (X:=XX F Ow) (β:=β) (e2 i (by omega) hi)).1
 obtain⟨f1,f2⟩:=zero_flat (len:=len) hzl hag hzc
 obtain⟨c1,-⟩:=made_cells (w:=w) (X:=XX F Ow) (β:=β) hk len
 rw[q.zs,←f1]at c1
 obtain⟨cs,k1,k2,k3⟩:=fillE_run g e ps.toList qs _ _ xs hps c1 (fun x hm=>by rw[List.eq_of_mem_replicate hm];exact f2) hx
 refine⟨cs,?_,k2,by rw[k3,List.length_replicate]⟩
 have hlist:(ps.map fun(i,x)=>(i,act.eval x)).toList=ps.toList.map fun p=>(p.1,act.eval p.2):=by simp
 have h24: ¬(len*e>2^24):=by omega
 simp only[execOp,hop,Instr.buildSlice,Sem.run_bind,run_underlying q.under,Result.andThen_ok,run_sizeOf q.size]
 rw[if_neg h24]
 by_cases h0:len*e=0
 ·have hm:(Array.range (len*e)).map ((#[]:Array Value)[· %(#[]:Array Value).size]!)=madeCells z.cells (len*e):=by simp[madeCells,h0,Array.range_zero']
  rw[if_pos h0]
  simp only[Sem.run_bind,Sem.run_pure,Result.andThen_ok,hm,hlist,k1,run_newRow]
 ·have hm:(Array.range (len*e)).map (z.cells[· %z.cells.size]!)=madeCells z.cells (len*e):=rfl
  rw[if_neg h0]
  simp only[Sem.run_bind,Sem.run_pure,Result.andThen_ok,run_zero q.zero,hm,hlist,k1,run_newRow]
theorem dtE_cells (x:AV):x.dtE.cells=x.cells.map AV.dt:=by cases x<;>rfl
theorem dtE_flat (xs:List AV):(xs.map AV.dtE).flatMap AV.cells=(xs.flatMap AV.cells).map AV.dt:=by
 induction xs with
 |nil=>rfl
 |cons x r ih=>rw[List.map_cons,List.flatMap_cons,List.flatMap_cons,List.map_append,ih,dtE_cells]
theorem CellsIs.dt {w:World}{X:Cell→Prop}{β:Nat→Cell}{cs:Array Value}{l:List AV}(h:CellsIs w X β cs l):CellsIs w X β cs (l.map AV.dt):=by
 refine⟨by rw[h.1,List.length_map],fun j h1 h2=> ?_⟩
 have h3:j<l.length:=by simpa using h2
 have:=h.2 j h1 h3
 rw[List.getElem_map]
 refine⟨?_,this.2.dt⟩
 have h4:=this.1
 revert h4
 generalize l[j]=c
 cases c<;>exact fun h=>h
theorem snd_lit (g:GR N0 w F β Ow (slots act) env h v a){t et:TypeId}{e len:Nat}{ag:Bool}{zero:List AV}{z:Value}{ps:Array (Nat×Operand)}{qs:List (Nat×Opd)}(q:ElemT P t et e z)(hk:okConsts z.cells.toList zero=true)
 (hag:ag=false→e=1) (hsz:len*e≤16777216) (hps:okElemParts ps.toList qs=true) (hop:o.op= .buildSlice t len ps)
 (ho:opv R env h (.lit e ag zero len qs)=some (a',env',h')):Out P N0 w F β h (XX F Ow) act env' h' ((execOp act.eval o).run P w) a':=by
 simp only[opv]at ho
 obtain⟨xs,hx,ho⟩:=zbi ho
 split at ho
 ·rename_i hok
  simp only[zsi,zpi]at ho
  obtain⟨rfl,rfl,rfl⟩:=ho
  obtain⟨cs,hr,c1,hl⟩:=lit_run g q hk hag hsz hps hop hx
  replace c1:=c1.dt
  rw[←dtE_flat]at c1
  have hl:(xs.map AV.dtE).length=len:=by rw[List.length_map,hl]
  generalize xs.map AV.dtE=xs at hok c1 hl ⊢
  have hel: ∀x∈xs,x.delem=true∧x.cells.length=e:=by
   intro x hm
   have:=List.all_eq_true.1 hok x hm
   simp only[zba,decide_eq_true_eq]at this
   exact this.1
  have lF:=lenF fun x hm=>(hel x hm).2
  refine out_lst g cs et e len .full xs (by rw[c1.1,lF];exact Nat.le_refl _) (by omega) (fun _=>hl.symm) (fun e' he=>by cases he) hel (fun j h1 h2=>(c1.2 j h2 h1).2) (ext_block w cs et) (alloc_at w cs et) (by rw[hl];exact hr)
 ·cases ho
theorem snd_litM (g:GR N0 w F β Ow (slots act) env h v a){t et:TypeId}{e len:Nat}{ag:Bool}{zero:List AV}{z:Value}{k0 k1:IntKind}(q:ElemT P t et e z)(hk:okConsts z.cells.toList zero=true)
 (hag:ag=false→e=1) (hsz:len≤4096) (hop:o.op= .makeSlice t (.const (.int k0 (len:Int))) (.const (.int k1 (len:Int))))
 (ho:opv R env h (.lit e ag zero len [])=some (a',env',h')):Out P N0 w F β h (XX F Ow) act env' h' ((execOp act.eval o).run P w) a':=by
 simp only[opv,List.map_nil,putElems,zbs]at ho
 split at ho
 ·rename_i hok
  simp only[zsi,zpi]at ho
  obtain⟨rfl,rfl,rfl⟩:=ho
  obtain⟨e1,e2⟩:=okConsts_rel hk
  have e1':z.cells.size=zero.length:=by simpa using e1
  have hzl:zero.length=e:=by rw[←e1',q.zs]
  have hzc: ∀c∈zero,c.isCell=true:=by
   intro c hc
   obtain⟨i,hi,rfl⟩:=List.getElem_of_mem hc
   exact(const_cell (h':=h) (w:=w) (X:=XX F Ow) (β:=β) (e2 i (by omega) hi)).1
  obtain⟨f1,f2⟩:=zero_flat (len:=len) hzl hag hzc
  obtain⟨c1,-⟩:=made_cells (w:=w) (X:=XX F Ow) (β:=β) hk len
  rw[q.zs,←f1]at c1
  have hr:=run_mk (w:=w) q (kl:=k0) (kc:=k1) (l:=(len:Int)) (n:=(len:Int)) (Int.natCast_nonneg _) (Int.le_refl _) (by simp[lenMax];omega)
  rw[Int.toNat_natCast]at hr
  have hl:(List.replicate len (zeroElem ag zero)).length=len:=List.length_replicate
  generalize List.replicate len (zeroElem ag zero)=xs at hok c1 hl ⊢
  replace c1:=c1.dt
  rw[←dtE_flat]at c1
  have hl:(xs.map AV.dtE).length=len:=by rw[List.length_map,hl]
  generalize xs.map AV.dtE=xs at hok c1 hl ⊢
  have hel: ∀x∈xs,x.delem=true∧x.cells.length=e:=by
   intro x hm
   have:=List.all_eq_true.1 hok x hm
   simp only[zba,decide_eq_true_eq]at this
   exact this.1
  have lF:=lenF fun x hm=>(hel x hm).2
  refine out_lst g _ et e len .full xs (by rw[c1.1,lF];exact Nat.le_refl _) (by omega) (fun _=>hl.symm) (fun e' he=>by cases he) hel (fun j h1 h2=>(c1.2 j h2 h1).2) (ext_block w _ et) (alloc_at w _ et) ?_
  rw[hl]
  have ec: ∀k,act.eval (.const (.int k (len:Int)))= .int k (len:Int):=fun _=>rfl
  simp only[execOp,hop,Sem.run_bind,ec,hr,Result.andThen_ok,Sem.run_pure]
 ·cases ho
theorem out_ept (g:GR N0 w F β Ow (slots act) env h v a)(cs:Array Value)(T:TypeId)(xs:List AV)(hl:cs.size=xs.length)(hd: ∀c∈xs,c.dcell=true)
 (hv: ∀j (h1:j<xs.length) (h2:j<cs.size),VRel w (XX F Ow) β cs[j] xs[j]) {w':World} (hw:Ext w w') (hat: ∀j (h2:j<cs.size),cat w' (w.heap.size,j)=some cs[j]∧cfz w' (w.heap.size,j)=false)
 {r:Result Next} (hr:r= .ok (.value (.pointer (some ⟨w.heap.size,0,none⟩))) w'):Out P N0 w F β h (XX F Ow) act env h r (.ept xs 0):=by
 have g1:=g.noval undef
 have hX1: ∀c,XX F (dropK Ow (· = .val)) c→XX F Ow c:=fun _ h=>XX_drop h
 have k1:=(Kp.refl N0 w (XX F Ow)).shrink hX1
 obtain⟨g2,k2,f2⟩:=g1.grow hw .val (fun _=>False) (fun c hc=>hc.1 rfl) (fun c hc=>hc.elim)
 refine⟨_,w',β,_,.inl hr,g2.pend' ?_ ?_ (fun r hr=>by simp[refs]at hr),k1.trans k2,f2,fun _ _ _=>rfl⟩
 ·have hX2: ∀c,XX F (addOw (dropK Ow (· = .val)) .val fun _=>False) c→XX F Ow c:=by
   intro c hc
   rcases hc with hc|⟨k,hk⟩
   ·exact .inl hc
   ·simp only[addOw]at hk
    split at hk
    ·exact hk.elim
    ·exact .inr ⟨k,hk.2⟩
  refine VRel.ept w.heap.size 0 0 xs (fun j=>cs.getD j undef) hd (fun j hj=> ?_) fun j hj=> ?_
  ·rw[Nat.zero_add]
   refine⟨by rw[(hat j (by omega)).1,Array.getD_eq_getD_getElem?,Array.getElem?_eq_getElem (by omega)];rfl,fun hc=> ?_⟩
   obtain⟨⟨u,hu⟩,_⟩:=g.inv.live _ (hX2 _ hc)
   have:=cat_lt hu
   simp at this
  ·have hj2:j<cs.size:=by omega
   have:=((hv j hj hj2).mono k1).mono k2
   have e1:cs.getD j undef=cs[j]:=by rw[Array.getD_eq_getD_getElem?,Array.getElem?_eq_getElem hj2];rfl
   rw[e1];exact this
 ·exact .of rfl
theorem snd_boxE (g:GR N0 w F β Ow (slots act) env h v a){t:TypeId}{x:Operand}{x':Opd}(h1:okT x x'=true)
 (hop:o.op= .box t x) (ho:opv R env h (.boxE x')=some (a',env',h')):Out P N0 w F β h (XX F Ow) act env' h' ((execOp act.eval o).run P w) a':=by
 obtain⟨q1,q2,q3⟩:=g.opT h1
 simp only[opv]at ho
 split at ho
 ·rename_i hc
  simp only[zsi,zpi]at ho
  obtain⟨rfl,rfl,rfl⟩:=ho
  have hcell:(evo env x').cells.all AV.isCell=true:=by
   rw[List.all_eq_true]at hc ⊢
   intro c hm
   have:=hc (c.dt) (List.mem_map.2 ⟨c,hm,rfl⟩)
   cases c<;>first|rfl|cases this
  obtain⟨e1,e2⟩:=cells_len q1 hcell
  refine out_ept g (act.eval x).cells t _ (by simpa using e1) (fun c hm=>List.all_eq_true.1 hc c hm) (fun j h1 h2=> ?_) (ext_block w _ t) (alloc_at w _ t) ?_
  ·have:=(e2 j (by simpa using h2) (by simpa using h1)).dt
   rw[Array.getElem_toList]at this
   rw[List.getElem_map];exact this
  ·simp only[execOp,hop,Instr.box,Sem.run_bind,Result.andThen_ok,newVar,run_newRow,Sem.run_pure]
 ·cases ho
theorem snd_litF (g:GR N0 w F β Ow (slots act) env h v a){t et:TypeId}{e len:Nat}{ag:Bool}{zero:List AV}{z:Value}{ps:Array (Nat×Operand)}{qs:List (Nat×Opd)}(q:ElemT P t et e z)(hk:okConsts z.cells.toList zero=true)
 (hag:ag=false→e=1) (hsz:len*e≤16777216) (hps:okElemParts ps.toList qs=true) (hop:o.op= .buildSlice t len ps)
 (ho:opv R env h (.litF e ag zero len qs)=some (a',env',h')):Out P N0 w F β h (XX F Ow) act env' h' ((execOp act.eval o).run P w) a':=by
 simp only[opv]at ho
 obtain⟨xs,hx,ho⟩:=zbi ho
 split at ho
 ·rename_i hok
  simp only[zsi,zpi]at ho
  obtain⟨rfl,rfl,rfl⟩:=ho
  obtain⟨cs,hr,c1,hl⟩:=lit_run g q hk hag hsz hps hop hx
  have hel: ∀x∈xs,x.delem=true∧x.cells.length=e:=by
   intro x hm
   have:=List.all_eq_true.1 hok x hm
   simp only[zba,decide_eq_true_eq]at this
   exact this.1
  have lF:=lenF fun x hm=>(hel x hm).2
  refine out_lst g cs et e len .full xs (by rw[c1.1,lF];exact Nat.le_refl _) (by omega) (fun _=>hl.symm) (fun e' he=>by cases he) hel (fun j h1 h2=>(c1.2 j h2 h1).2) (ext_block w cs et) (alloc_at w cs et) (by rw[hl];exact hr)
 ·cases ho
theorem snd_litA (g:GR N0 w F β Ow (slots act) env h v a){t et:TypeId}{nm e len:Nat}{ag:Bool}{zero:List AV}{z:Value}{ps:Array (Nat×Operand)}{qs:List (Nat×Opd)}(q:ElemT P t et e z)(hk:okConsts z.cells.toList zero=true)
 (hag:ag=false→e=1) (hsz:len*e≤16777216) (hps:okElemParts ps.toList qs=true) (hop:o.op= .buildSlice t len ps)
 (ho:opv R env h (.litA nm e ag zero len qs)=some (a',env',h')):Out P N0 w F β h (XX F Ow) act env' h' ((execOp act.eval o).run P w) a':=by
 simp only[opv]at ho
 split at ho
 ·rename_i hn
  obtain⟨xs,hx,ho⟩:=zbi ho
  split at ho
  ·rename_i hok
   simp only[zsi,zpi]at ho
   obtain⟨rfl,rfl,rfl⟩:=ho
   obtain⟨cs,hr,c1,hl⟩:=lit_run g q hk hag hsz hps hop hx
   replace c1:=c1.dt
   rw[←dtE_flat]at c1
   have hl:(xs.map AV.dtE).length=len:=by rw[List.length_map,hl]
   generalize xs.map AV.dtE=xs at hok c1 hl ⊢
   have hel: ∀x∈xs,x.delem=true:=by
    intro x hm
    have:=List.all_eq_true.1 hok x hm
    simp only[zba,decide_eq_true_eq]at this
    exact this.1.1
   refine out_new g hn cs et _ (by rw[c1.1];exact Nat.le_refl _) (fun j h1 h2=> ?_) (u:=.slice (some ⟨w.heap.size,0,none⟩) len len) hr (fun w' X' β' hb=>.arr _ nm 0 _ _ e ag (Nat.le_refl _) fun _=>by rw[hb]) rfl rfl
   have hd:=delem_flat hel _ (List.getElem_mem h1)
   refine⟨(c1.2 j h2 h1).1,fun S=>.of ?_,fun r hr=>(by rw[dcell_refs2 hd]at hr;cases hr),(c1.2 j h2 h1).2⟩
   revert hd
   generalize (xs.flatMap AV.cells)[j]=c
   intro hd
   cases c with
   |lst gg ys=>cases gg<;>first|rfl|cases hd
   |_=>first|rfl|cases hd
  ·cases ho
 ·cases ho
end
section
variable {P:Program} {Γ:Glob} {N0:Base Γ} {w:World} {F X:Cell→Prop} {β:Nat→Cell} {Ow:Key→Cell→Prop} {env env':Env} {h h':Heap} {v:Value} {a a':AV} {act:Act} {R:CallF} {o:Oper}
def wrOw (Ow:Key→Cell→Prop)(S:Cell→Prop):Key→Cell→Prop:=fun k c=>if k= .val then Ow .val c∧S c else Ow k c
theorem GR.write {sl:Nat→Value}(g:GR N0 w F β Ow sl env h v a)(b off:Nat)(us:List Value)(S:Cell→Prop)(hown: ∀j,j<us.length→Ow .val (b,off+j))(hS: ∀c,S c→c.1=b∧off≤c.2∧c.2<off+us.length→False)(u0:Value):
 GR N0 (wput w b off us) F β (wrOw Ow S) sl env h u0 .undef∧Kp N0 w (XX F Ow) (wput w b off us) (XX F (wrOw Ow S))∧FF F w (wput w b off us):=by
 have hreg: ∀c:Cell,c.1=b∧off≤c.2∧c.2<off+us.length→Ow .val c:=by
  rintro⟨c1,c2⟩ ⟨h1,h2,h3⟩
  simp only at h1 h2 h3
  have:=hown (c2-off) (by omega)
  rw[show off+(c2-off)=c2 from by omega]at this
  rw[h1];exact this
 have hf: ∀k c,wrOw Ow S k c→Ow k c:=by
  intro k c hk
  simp only[wrOw]at hk
  split at hk
  ·rename_i e;subst e;exact hk.1
  ·exact hk
 have hx: ∀c,XX F (wrOw Ow S) c→XX F Ow c:=fun c h=>h.imp id fun⟨k,hk⟩=>⟨k,hf k c hk⟩
 have hcat: ∀c,¬Ow .val c→cat (wput w b off us) c=cat w c:=by
  intro c hc
  rw[wput_cat,if_neg (fun e=>hc (hreg c e))]
 have kp:Kp N0 w (XX F Ow) (wput w b off us) (XX F (wrOw Ow S)):=by
  obtain⟨e1,e2,e3⟩:=wput_rest b us w off
  refine⟨e1,e2,e3,by rw[wput_size];exact Nat.le_refl _,fun c _=>wput_cfz _ _ _ _ _,fun k hk=> ?_,fun c u hc hx'=>⟨?_,fun h2=>hx' (hx c h2)⟩⟩
  ·cases us with
   |nil=>rfl
   |cons u r=>
    refine wput_blk b _ w off k ?_
    have:=g.inv.low (b,off+0) (.inr ⟨_,hown 0 (by simp)⟩)
    simp only at this
    omega
  ·rw[hcat c fun e=>hx' (.inr ⟨_,e⟩)];exact hc
 refine⟨?_,kp,fun c hc=>⟨hcat c fun e=>g.inv.apartF _ _ e hc,wput_cfz _ _ _ _ _⟩⟩
 exact{
  inv:={
   apart:=fun k k' c h1 h2=>g.inv.apart k k' c (hf k c h1) (hf k' c h2)
   apartF:=fun k c hk=>g.inv.apartF k c (hf k c hk)
   live:=by
    intro c hc
    obtain⟨⟨u,hu⟩,hz⟩:=g.inv.live c (hx c hc)
    refine⟨?_,by rw[wput_cfz];exact hz⟩
    rw[wput_cat]
    split
    ·rw[hu];exact⟨_,rfl⟩
    ·exact⟨u,hu⟩
   low:=fun c hc=>g.inv.low c (hx c hc)
   base:=by rw[wput_size];exact g.inv.base
   glob:=fun k hk=>(kp.blk k hk).trans (g.inv.glob k hk)}
  slot:=fun k=>⟨(g.slot k).1.mono kp,(g.slot k).2.mono fun c hc=>by simp only[wrOw];rw[if_neg (by simp)];exact hc⟩
  val:=⟨.undef _,.of rfl⟩
  obj:=by
   intro nm ob hob
   have q:=g.obj nm ob hob
   refine⟨fun j hj=> ?_,fun hw j hj=> ?_,fun hw j hj hx'=>q.rd hw j hj (hx _ hx')⟩
   ·obtain⟨c1,u,c2,c3,c4⟩:=q.cell j hj
    refine⟨c1,u,?_,c3.mono kp,c4.mono fun c hc=>by simp only[wrOw];rw[if_neg (by simp)];exact hc⟩
    rw[hcat]
    ·exact c2
    ·intro e2
     cases hw:ob.wr with
     |true=>
      have:=g.inv.apart _ _ _ e2 (q.wr hw j hj)
      cases this
     |false=>exact q.rd hw j hj (.inr ⟨_,e2⟩)
   ·simp only[wrOw];rw[if_neg (by simp)];exact q.wr hw j hj
  refE:=g.refE
  refV:=by simp
  refH:=g.refH}
theorem chunk_flat (e:Nat): ∀(n:Nat) (cs:List AV),cs.length=n*e→(chunk e n cs).length=n∧(chunk e n cs).flatMap AV.cells=cs:=by
 intro n
 induction n with
 |zero=>intro cs h;simp at h;subst h;exact⟨rfl,rfl⟩
 |succ n ih=>
  intro cs h
  rw[Nat.succ_mul]at h
  obtain⟨i1,i2⟩:=ih (cs.drop e) (by simp;omega)
  simp only[chunk,List.length_cons,i1,List.flatMap_cons,i2,AV.cells,List.take_append_drop]
  exact⟨trivial,trivial⟩
theorem take_flat {xs:List AV}{e n:Nat}(hx: ∀x∈xs,x.cells.length=e)(hn:n≤xs.length):(xs.take n).flatMap AV.cells=(xs.flatMap AV.cells).take (n*e):=by
 have l1:=lenF (xs:=xs.take n) (e:=e) fun x hm=>hx x (List.mem_of_mem_take hm)
 rw[List.length_take,Nat.min_eq_left hn]at l1
 conv=>rhs;rw[←List.take_append_drop n xs,List.flatMap_append,←l1,List.take_left]
theorem run_load_at (b o n:Nat)(vals:List Value)(hl:vals.length=n)(hv: ∀j (hj:j<vals.length),cat w (b,o+j)=some vals[j]):(loadCells ⟨b,o,none⟩ n).run P w= .ok vals.toArray w:=by
 have:=run_loadCells (P:=P) w ⟨b,o,none⟩ n (fun j=>vals.getD j undef) fun j hj=>by
  rw[add_at,List.getD_eq_getElem?_getD,zge (by omega)]
  exact hv j (by omega)
 rw[this]
 congr 1
 apply Array.ext'
 simp only
 apply List.ext_getElem
 ·simp[hl]
 ·intro i h1 h2
  simp only[List.getElem_map,List.getElem_range]
  rw[List.getD_eq_getElem?_getD,zge h2];rfl
theorem src_run (g:GR N0 w F β Ow (slots act) env h v a){x:Operand}{x':Opd}(h1:okT x x'=true){e n:Nat}{ag:Bool}{ys:List AV}(hs:srcElems h ag (evo env x')=some ys)(hok:okElems e ag ys=true)(hn:n≤ys.length):
 ∃news:List Value,news.length=n*e∧(Builtin.lenOf (act.eval x)).run P w= .ok ys.length w∧
  (∀w',(∀c u,cat w c=some u→cat w' c=some u)→(Builtin.firstCells e n (act.eval x)).run P w'= .ok news.toArray w')∧
  ∀j (h1:j<news.length) (h2:j<((ys.take n).flatMap AV.cells).length),VRel w (XX F Ow) β news[j] (((ys.take n).flatMap AV.cells)[j]):=by
 obtain⟨q1,q2,q3⟩:=g.opT h1
 have hel: ∀y∈ys,y.delem=true∧y.cells.length=e:=by
  intro y hm
  have:=List.all_eq_true.1 hok y hm
  simp only[zba,decide_eq_true_eq]at this
  exact this.1
 have hx2: ∀y∈ys,y.cells.length=e:=fun y hm=>(hel y hm).2
 have tf:=take_flat hx2 hn
 have tl:((ys.take n).flatMap AV.cells).length=n*e:=by
  have:=lenF (xs:=ys.take n) (e:=e) fun x hm=>hx2 x (List.mem_of_mem_take hm)
  rw[List.length_take,Nat.min_eq_left hn]at this
  exact this
 cases hx:evo env x' with
 |lst gg xs=>
  rw[hx]at hs q1
  simp only[srcElems,zsi]at hs
  subst hs
  obtain⟨A,cap,ex,hc⟩:=q1.toLst
  rw[ex]at q1
  by_cases hnil:xs=[]
  ·subst hnil
   have hn0:n=0:=by simpa using hn
   subst hn0
   refine⟨[],by simp,by rw[ex];rfl,fun w' hw'=> ?_,fun j h1 h2=>absurd h1 (by simp)⟩
   rw[ex]
   cases A with
   |none=>rfl
   |some A=>
    simp only[Builtin.firstCells,Nat.zero_mul]
    exact run_loadCells_list (P:=P) w' A [] (by simp)
  ·obtain⟨b,oo,e',val,rfl,hxs,hv,hval⟩:=q1.lstInv.2.2.2 hnil
   have hee:e'=e:=by
    cases xs with
    |nil=>exact absurd rfl hnil
    |cons y r=>rw[←(hxs y List.mem_cons_self).2,hx2 y List.mem_cons_self]
   subst hee
   have hne:n*e'≤xs.length*e':=Nat.mul_le_mul_right _ hn
   refine⟨(List.range (n*e')).map val,by simp,by rw[ex];rfl,fun w' hw'=> ?_,fun j h1 h2=> ?_⟩
   ·rw[ex]
    simp only[Builtin.firstCells]
    refine run_load_at _ _ _ _ (by simp) fun j hj=> ?_
    simp only[List.getElem_map,List.getElem_range]
    exact hw' _ _ (hv j (by simp at hj;omega)).1
   ·simp only[List.getElem_map,List.getElem_range]
    have hj:j<n*e':=by simpa using h1
    have hj2:j<(xs.flatMap AV.cells).length:=by rw[lenF hx2];omega
    have:=hval j hj2
    have eq:((xs.take n).flatMap AV.cells)[j]=(xs.flatMap AV.cells)[j]:=by
     have:((xs.take n).flatMap AV.cells)[j]? =(xs.flatMap AV.cells)[j]? :=by rw[tf,List.getElem?_take,if_pos hj]
     rw[zge h2,zge hj2]at this
     injection this
    rw[eq];exact this
 |str s=>
  rw[hx]at hs q1
  simp only[srcElems]at hs
  split at hs
  ·cases hs
  ·injection hs with hs
   subst hs
   obtain⟨by_,ex,rfl⟩:=q1.toStr
   have hsz:by_.size=(by_.data.toList.map byteAV).length:=by rw[List.length_map,size_list]
   have hne:n*e=n:=by
    cases hb:by_.data.toList with
    |nil=>rw[hb]at hn;have:n=0:=by simpa using hn
          subst this;simp
    |cons c r=>
     have:=hx2 (byteAV c) (by rw[hb];simp)
     have:e=1:=by rw[←this];rfl
     subst this;simp
   have hdata:((by_.extract 0 n).data.map fun b=>Value.int .u8 b.toNat)=((by_.data.toList.take n).map fun b=>Value.int .u8 b.toNat).toArray:=by
    apply Array.ext'
    simp[ByteArray.data_extract]
   refine⟨(by_.data.toList.take n).map fun b=>Value.int .u8 b.toNat,?_,?_,fun w' hw'=> ?_,fun j h1 h2=> ?_⟩
   ·rw[List.length_map,List.length_take,hne,Nat.min_eq_left (by simpa using hn)]
   ·rw[ex];simp only[Builtin.lenOf];rw[←hsz];rfl
   ·rw[ex];simp only[Builtin.firstCells];rw[←hdata];rfl
   ·have e1:(((by_.data.toList.map byteAV).take n).flatMap AV.cells)=(by_.data.toList.take n).map byteAV:=by
     rw[←List.map_take,List.flatMap_map]
     induction by_.data.toList.take n with
     |nil=>rfl
     |cons c r ih=>rw[List.flatMap_cons,ih];rfl
    simp only[e1,List.getElem_map]
    exact .int _ _
 |arr nm off len e0 ag0=>
  rw[hx]at hs q1 q3
  simp only[srcElems]at hs
  split at hs
  ·rename_i hag
   subst hag
   obtain⟨ob,hob,hs⟩:=zbi hs
   obtain⟨A,cap,ex,hc,hA⟩:=q1.toArr
   have qo:=(g.obj nm ob hob).cells.drop off
   simp only[elems]at hs
   split at hs
   ·rename_i hle
    split at hs
    ·rename_i hall
     have hds:(((ob.cells.drop off).take (len*e0)).map AV.dt).length=len*e0:=by simp;omega
     have key:ys.length=len∧ys.flatMap AV.cells=((ob.cells.drop off).take (len*e0)).map AV.dt:=by
      split at hs
      ·injection hs with hs;subst hs;exact chunk_flat e0 len _ hds
      ·split at hs
       ·rename_i h1'
        injection hs with hs
        subst hs;subst h1'
        refine⟨by simpa using hds,?_⟩
        have: ∀l:List AV,(∀c∈l,c.dcell=true)→l.flatMap AV.cells=l:=by
         intro l
         induction l with
         |nil=>intro _;rfl
         |cons c r ih=>
          intro hd
          rw[List.flatMap_cons,ih fun c hc=>hd c (List.mem_cons_of_mem _ hc)]
          have:=hd c List.mem_cons_self
          cases c<;>first|rfl|cases this
        exact this _ fun c hc=>List.all_eq_true.1 hall c hc
       ·cases hs
     obtain⟨k1,k2⟩:=key
     have hnle:n*e≤len*e0:=by
      have h3:=lenF hx2
      rw[k2,hds,k1]at h3
      rw[h3];exact Nat.mul_le_mul_right _ (by omega)
     have hcell: ∀j,j<n*e→∃(hj:j<(ob.cells.drop off).length) (u:Value),cat w ((β nm).1,(β nm).2+off+j)=some u∧VRel w (XX F Ow) β u (ob.cells.drop off)[j]:=by
      intro j hj
      have hj':j<(ob.cells.drop off).length:=by simp;omega
      obtain⟨-,u,c1,c2⟩:=qo j hj'
      exact⟨hj',u,c1,c2⟩
     let f:Nat→Value:=fun j=>(cat w ((β nm).1,(β nm).2+off+j)).getD undef
     have hf: ∀j,j<n*e→cat w ((β nm).1,(β nm).2+off+j)=some (f j):=by
      intro j hj
      obtain⟨-,u,c1,-⟩:=hcell j hj
      simp only[f,c1];rfl
     refine⟨(List.range (n*e)).map f,by simp,by rw[ex,k1];rfl,fun w' hw'=> ?_,fun j h1 h2=> ?_⟩
     ·rw[ex]
      cases A with
      |none=>
       have hl0:len=0:=by
        rcases Nat.eq_zero_or_pos len with h0|h0
        ·exact h0
        ·exact absurd (hA h0) (by simp)
       have:n=0:=by omega
       subst this
       simp only[Builtin.firstCells,Nat.zero_mul];rfl
      |some A=>
       simp only[Builtin.firstCells]
       rcases Nat.eq_zero_or_pos len with h0|h0
       ·have:n=0:=by omega
        subst this
        simp only[Nat.zero_mul]
        exact run_loadCells_list (P:=P) w' A [] (by simp)
       ·have:=hA h0
        injection this with this
        subst this
        refine run_load_at _ _ _ _ (by simp) fun j hj=> ?_
        simp only[List.getElem_map,List.getElem_range]
        exact hw' _ _ (hf j (by simpa using hj))
     ·simp only[List.getElem_map,List.getElem_range]
      have hj:j<n*e:=by simpa using h1
      obtain⟨hj',u,c1,c2⟩:=hcell j hj
      have e1:f j=u:=by have:=hf j hj;rw[c1]at this;exact(Option.some.inj this).symm
      rw[e1]
      have eq:((ys.take n).flatMap AV.cells)[j]=((ob.cells.drop off)[j]).dt:=by
       have:((ys.take n).flatMap AV.cells)[j]? =some (((ob.cells.drop off)[j]).dt):=by
        rw[tf,List.getElem?_take,if_pos hj,k2,List.getElem?_map,List.getElem?_take,if_pos (by omega),zge hj'];rfl
       rw[zge h2]at this
       injection this
      rw[eq];exact c2.dt
    ·cases hs
   ·cases hs
  ·cases hs
 |_=>rw[hx]at hs;cases hs
end
section
variable {P:Program} {Γ:Glob} {N0:Base Γ} {w:World} {F X:Cell→Prop} {β:Nat→Cell} {Ow:Key→Cell→Prop} {env env':Env} {h h':Heap} {v:Value} {a a':AV} {act:Act} {R:CallF} {o:Oper}
theorem Out.of {X X':Cell→Prop}{r:Result Next}(q:Out P N0 w F β h X act env h r a)(hx: ∀c,X c→X' c):Out P N0 w F β h X' act env h r a:=
 let⟨v,w',β',Ow',h1,h2,h3,h4⟩:=q
 ⟨v,w',β',Ow',h1,h2,((Kp.refl N0 w X').shrink hx).trans h3,h4⟩
def srcT (P:Program)(u:TypeId):Bool:=
 match P.underlying u with
 |some .string=>true
 |some (.slice _)=>true
 |_=>false
theorem srcT_run {u:TypeId}(h:srcT P u=true):P.underlying u=some .string∨∃e,P.underlying u=some (.slice e):=by
 unfold srcT at h
 split at h
 ·rename_i hu;exact .inl hu
 ·rename_i hu;exact .inr ⟨_,hu⟩
 ·cases h
theorem run_app_room {t u ty et:TypeId}{e:Nat}(ht:P.underlying t=some (.slice et))(hz:szT P et=some e)(hu:srcT P u=true){A:Option Addr}{sLen sCap n:Nat}{x:Value}{news:List Value}{w':World}
 (hl:(Builtin.lenOf x).run P w= .ok n w) (hf:(Builtin.firstCells e n x).run P w= .ok news.toArray w) (hr:sLen+n≤sCap)
 (hst:(match A with|some a=>storeCells (a.add (sLen*e)) news|none=>pure ():Sem Unit).run P w= .ok () w'):
 (Builtin.append_ #[t,u] ty #[.slice A sLen sCap,x]).run P w= .ok (.slice A (sLen+n) sCap) w':=by
 rcases srcT_run hu with hd|⟨d,hd⟩
 all_goals
  cases A with
  |none=>
   simp only[Sem.run_pure,Result.ok.injEq,true_and]at hst
   subst hst
   simp[Builtin.append_,run_underlying ht,run_underlying hd,run_sizeOf hz,hl,hf,hr]
  |some a=>
   simp only at hst
   simp[Builtin.append_,run_underlying ht,run_underlying hd,run_sizeOf hz,hl,hf,hr,hst]
theorem run_app_grow {t u ty et:TypeId}{e:Nat}{z:Value}(q:ElemT P t et e z)(hu:srcT P u=true){A:Option Addr}{sLen sCap n:Nat}{x:Value}{olds news:List Value}
 (hl:(Builtin.lenOf x).run P w= .ok n w) (hf:(Builtin.firstCells e n x).run P w.drew= .ok news.toArray w.drew) (hfo:(Builtin.firstCells e sLen (.slice A sLen sCap)).run P w.drew= .ok olds.toArray w.drew)
 (hr:sCap<sLen+n) (hmax:sLen+n≤lenMax):
 (Builtin.append_ #[t,u] ty #[.slice A sLen sCap,x]).run P w= .ok (.slice (some ⟨w.heap.size,0,none⟩) (sLen+n) (grownCap w (sLen+n) sCap et))
   (blockOf w.drew (olds.toArray++news.toArray++Builtin.zeroCells z.cells (grownCap w (sLen+n) sCap et-(sLen+n))) et):=by
 obtain⟨i,hi,hz,hs,hb⟩:=q.info
 have hm:sLen+n≤4294967296:=hmax
 have hbb:(sLen+n)*i.bytes≤140737488355328:=Nat.le_trans (Nat.mul_le_mul hm hb) (by decide)
 have hn: ¬(sLen+n≤sCap):=by omega
 have h63': ¬(9223372036854775807<((sLen:Int)+(n:Int))):=by omega
 have hg:=growslice_fits hr hbb
 have h48': ¬(281474976710656<Builtin.nextslicecap (sLen+n) sCap*i.bytes):=by omega
 subst hs
 have hbl: ∀cs,blockOf w.drew cs et=w.drew.alloc (.cells cs et):=fun _=>rfl
 rw[hbl]
 rcases srcT_run hu with hd|⟨d,hd⟩
 all_goals
  simp[Builtin.append_,run_underlying q.under,run_underlying hd,sizeOf,typeInfo,zeroValue,hi,hz,hl,hn,h63',h48',Question.forced,hf,hfo,newRow,grownCap]
  congr 2
  apply Array.ext'
  simp[List.append_assoc]
theorem Ext.drew (w:World):Ext w w.drew:=Ext.draw w _
theorem snd_app (g:GR N0 w F β Ow (slots act) env h v a){t u et:TypeId}{e:Nat}{ag:Bool}{z:Value}{b x:Operand}{b' x':Opd}(q:ElemT P t et e z)(hu:srcT P u=true)(h1:okX b b'=true)(h2:okT x x'=true)
 (hop:o.op= .call {callee:=.builtin .append,args:= #[b,x],argTypes:= #[t,u]})
 (ho:opv R env h (.app e ag b' x')=some (a',env',h')):Out P N0 w F β h (XX F Ow) act env' h' ((execOp act.eval o).run P w) a':=by
 simp only[opv]at ho
 cases hb:evo env b' with
 |lst gg xs=>
  rw[hb]at ho
  simp only at ho
  obtain⟨ys,hys,ho⟩:=zbi ho
  split at ho
  ·rename_i hcond
   obtain⟨c1,c2,c3⟩:=hcond
   simp only[zsi,zpi]at ho
   obtain⟨rfl,rfl,rfl⟩:=ho
   obtain⟨news,n1,n2,n3,n4⟩:=src_run (P:=P) g h2 hys c2 (Nat.le_refl ys.length)
   rw[List.take_length]at n4
   have hel: ∀y∈ys,y.delem=true∧y.cells.length=e:=by
    intro y hm
    have:=List.all_eq_true.1 c2 y hm
    simp only[zba,decide_eq_true_eq]at this
    exact this.1
   obtain⟨Ow',hX,g'⟩:=g.opX h1
   rw[hb]at g'
   have k0:=(Kp.refl N0 w (XX F Ow)).shrink hX
   obtain⟨A,cap,ex,hlc⟩:=g'.val.1.toLst
   have hv:=g'.val.1
   rw[ex]at hv
   obtain⟨-,-,l2,l3⟩:=hv.lstInv
   have hxs: ∀x∈xs,x.delem=true∧x.cells.length=e:=by
    intro y hy
    have hnil:xs≠[]:=fun e=>by subst e;cases hy
    obtain⟨bb,oo,e',val,hA,hx,-⟩:=l3 hnil
    refine⟨(hx y hy).1,?_⟩
    cases gg with
    |no=>cases c1
    |full=>
     cases xs with
     |nil=>exact absurd rfl hnil
     |cons y0 r=>
      have:=Nat.eq_of_beq_eq_true c1
      rw[(hx y hy).2,←(hx y0 List.mem_cons_self).2,this]
    |own e2=>
     have:=Nat.eq_of_beq_eq_true c1
     rw[this]
     exact(g'.val.2.1 e2 xs rfl).1 y hy
   have hall: ∀y∈xs++ys,y.delem=true∧y.cells.length=e:=fun y hy=>(List.mem_append.1 hy).elim (hxs y) (hel y)
   have lx:=lenF fun y hy=>(hxs y hy).2
   have ly:=lenF fun y hy=>(hel y hy).2
   have mulA:(xs.length+ys.length)*e=xs.length*e+ys.length*e:=Nat.add_mul _ _ _
   have hroom:xs.length<cap→gg= .own e∧∃bb oo,A=some ⟨bb,oo,none⟩∧∀j,xs.length*e≤j→j<cap*e→Ow' .val (bb,oo+j):=by
    intro hlt
    cases gg with
    |no=>cases c1
    |full=>have:=l2 rfl;omega
    |own e2=>
     have:=Nat.eq_of_beq_eq_true c1
     subst this
     exact⟨rfl,(g'.val.2.1 e xs rfl).2 A _ _ ex hlt⟩
   have run: ∀{r:Value} {w':World},(Builtin.append_ #[t,u] o.type #[.slice A xs.length cap,act.eval x]).run P w= .ok r w'→(execOp act.eval o).run P w= .ok (.value r) w':=by
    intro r w' hr
    rw[run_bi hop]
    simp only[builtin,List.map_toArray,List.map_cons,List.map_nil,ex,Sem.run_bind,hr,Result.andThen_ok,Sem.run_pure]
   have olds: ∀j,j<xs.length*e→∃(u:Value) (hj:j<(xs.flatMap AV.cells).length) (bb oo:Nat),A=some ⟨bb,oo,none⟩∧cat w (bb,oo+j)=some u∧¬XX F Ow' (bb,oo+j)∧VRel w (XX F Ow') β u ((xs.flatMap AV.cells)[j]):=by
    intro j hj
    have hnil:xs≠[]:=fun e=>by subst e;simp at hj
    obtain⟨bb,oo,e',val,hA,hx,hvv,hval⟩:=l3 hnil
    have hee:e'=e:=by
     cases xs with
     |nil=>exact absurd rfl hnil
     |cons y r=>rw[←(hx y List.mem_cons_self).2,(hxs y List.mem_cons_self).2]
    subst hee
    have hj':j<(xs.flatMap AV.cells).length:=by rw[lx];exact hj
    exact⟨val j,hj',bb,oo,hA,(hvv j hj).1,(hvv j hj).2,hval j hj'⟩
   by_cases hfit:xs.length+ys.length≤cap
   ·by_cases hy0:ys=[]
    ·subst hy0
     have hn0:news=[]:=List.eq_nil_of_length_eq_zero (by rw[n1];simp)
     subst hn0
     have hst:(match A with|some a=>storeCells (a.add (xs.length*e)) []|none=>pure ():Sem Unit).run P w= .ok () w:=by cases A<;>rfl
     have hr:=run (run_app_room (ty:=o.type) q.under q.size hu n2 (n3 w fun _ _ h=>h) hfit hst)
     simp only[List.length_nil,Nat.add_zero]at hr
     rw[List.append_nil]
     refine⟨_,w,β,Ow',.inl hr,g'.pend' ?_ ?_ (fun r hr=>by simp[refs]at hr),k0,FF.refl _ _,fun _ _ _=>rfl⟩
     ·by_cases hnil:xs=[]
      ·subst hnil;exact .lst0 _ _ _ (by simp)
      ·obtain⟨bb,oo,e',val,rfl,hx,hvv,hval⟩:=l3 hnil
       exact .lst bb oo e' cap _ xs val hlc (by simp) hx hvv hval
     ·refine .lst fun e2 zs he=> ?_
      injection he with h3 h4
      injection h3 with h3
      subst h3 h4
      refine⟨fun y hy=>(hxs y hy).2,fun A1 len1 cap1 hv1 hlt=> ?_⟩
      injection hv1 with hA1 hl1 hc1
      subst hA1 hl1 hc1
      exact(hroom hlt).2
    ·have hpos:0<ys.length:=List.length_pos_iff.2 hy0
     obtain⟨hgg,bb,oo,rfl,hS⟩:=hroom (by omega)
     subst hgg
     have hcapm:(xs.length+ys.length)*e≤cap*e:=Nat.mul_le_mul_right _ hfit
     have hin: ∀j,j<news.length→Ow' .val (bb,oo+xs.length*e+j):=fun j hj=>by rw[Nat.add_assoc];exact hS _ (by omega) (by omega)
     obtain⟨g2,k2,f2⟩:=g'.write bb (oo+xs.length*e) news (fun c=>c.1=bb∧oo+(xs.length+ys.length)*e≤c.2) hin (by
      rintro c ⟨h1,h2⟩ ⟨h3,h4,h5⟩
      omega) undef
     have hst:(storeCells ((⟨bb,oo,none⟩:Addr).add (xs.length*e)) news).run P w= .ok () (wput w bb (oo+xs.length*e) news):=by
      rw[add_at]
      have:=run_put (P:=P) bb (oo+xs.length*e) news 0 w (fun u hu=> ?_) (fun j hj=> ?_)
      ·exact this
      ·obtain⟨i,hi,rfl⟩:=List.getElem_of_mem hu
       have:=n4 i hi (by omega)
       exact this.oneCell (by
        have hd:=delem_flat (fun y hy=>(hel y hy).1) _ (List.getElem_mem (l:=ys.flatMap AV.cells) (by omega:i<_))
        revert hd
        generalize (ys.flatMap AV.cells)[i]'(by omega)=c
        intro hd
        cases c<;>first|rfl|cases hd)
      ·exact g'.inv.live _ (.inr ⟨_,hin j hj⟩)
     have hr:=run (run_app_room (ty:=o.type) q.under q.size hu n2 (n3 w fun _ _ h=>h) hfit hst)
     refine⟨_,_,β,_,.inl hr,g2.pend' ?_ ?_ (fun r hr=>by simp[refs]at hr),k0.trans k2,f2,fun _ _ _=>rfl⟩
     ·have hlenA:(xs++ys).length=xs.length+ys.length:=List.length_append
      have hcx: ∀c,XX F (wrOw Ow' fun c=>c.1=bb∧oo+(xs.length+ys.length)*e≤c.2) c→XX F Ow' c:=fun c hc=>hc.imp id fun⟨k,hk⟩=>⟨k,by
       simp only[wrOw]at hk
       split at hk
       ·rename_i e0;subst e0;exact hk.1
       ·exact hk⟩
      have hnx: ∀j,j<(xs.length+ys.length)*e→¬XX F Ow' (bb,oo+j)∨(xs.length*e≤j):=by
       intro j hj
       rcases Nat.lt_or_ge j (xs.length*e)with h3|h3
       ·obtain⟨u,hj',b2,o2,hA,-,h4,-⟩:=olds j h3
        injection hA with hA
        injection hA with h5 h6 h7
        subst h5 h6
        exact .inl h4
       ·exact .inr h3
      let val:Nat→Value:=fun j=>(cat (wput w bb (oo+xs.length*e) news) (bb,oo+j)).getD undef
      have hcell: ∀j (hj:j<((xs++ys).flatMap AV.cells).length),∃u,cat (wput w bb (oo+xs.length*e) news) (bb,oo+j)=some u∧VRel (wput w bb (oo+xs.length*e) news) (XX F (wrOw Ow' fun c=>c.1=bb∧oo+(xs.length+ys.length)*e≤c.2)) β u (((xs++ys).flatMap AV.cells)[j])∧¬XX F (wrOw Ow' fun c=>c.1=bb∧oo+(xs.length+ys.length)*e≤c.2) (bb,oo+j):=by
       intro j hj
       have hj0:j<xs.length*e+ys.length*e:=by rw[List.flatMap_append,List.length_append,lx,ly]at hj;exact hj
       rcases Nat.lt_or_ge j (xs.length*e)with h3|h3
       ·obtain⟨u,hj',b2,o2,hA,h5,h4,h6⟩:=olds j h3
        injection hA with hA
        injection hA with h7 h8 h9
        subst h7 h8
        refine⟨u,(k2.keep _ _ h5 h4).1,?_,(k2.keep _ _ h5 h4).2⟩
        have eq:((xs++ys).flatMap AV.cells)[j]=(xs.flatMap AV.cells)[j]:=by
         simp only[List.flatMap_append]
         rw[List.getElem_append_left hj']
        rw[eq];exact h6.mono k2
       ·have hi:j-xs.length*e<news.length:=by omega
        have hi2:j-xs.length*e<(ys.flatMap AV.cells).length:=by omega
        obtain⟨⟨u0,hu0⟩,_⟩:=g'.inv.live _ (.inr ⟨_,hin _ hi⟩)
        have ej:oo+xs.length*e+(j-xs.length*e)=oo+j:=by omega
        rw[ej]at hu0
        refine⟨news[j-xs.length*e],?_,?_,?_⟩
        ·rw[wput_cat,if_pos ⟨rfl,by show oo+xs.length*e≤oo+j;omega,by show oo+j<oo+xs.length*e+news.length;omega⟩,hu0]
         simp only[Option.map_some,zsi]
         rw[show oo+j-(oo+xs.length*e)=j-xs.length*e from by omega,List.getD_eq_getElem?_getD,zge hi];rfl
        ·have eq:((xs++ys).flatMap AV.cells)[j]=(ys.flatMap AV.cells)[j-xs.length*e]:=by
          simp only[List.flatMap_append]
          rw[List.getElem_append_right (by omega)]
          simp only[lx]
         rw[eq];exact((n4 _ hi hi2).mono k0).mono k2
        ·rintro(hF|⟨k,hk⟩)
         ·have hc:=hin _ hi
          rw[ej]at hc
          exact g'.inv.apartF _ _ hc hF
         ·simp only[wrOw]at hk
          split at hk
          ·have:oo+(xs.length+ys.length)*e≤oo+j:=hk.2.2
           omega
          ·have hc:=hin _ hi
           rw[ej]at hc
           rename_i hne
           exact hne (g'.inv.apart _ _ _ hk hc)
      have:=VRel.lst (w:=wput w bb (oo+xs.length*e) news) (X:=XX F (wrOw Ow' fun c=>c.1=bb∧oo+(xs.length+ys.length)*e≤c.2)) (β:=β) bb oo e cap (.own e) (xs++ys) val (by omega) (by simp) hall
       (fun j hj=>by
         have hj':j<((xs++ys).flatMap AV.cells).length:=by rw[lenF fun y hy=>(hall y hy).2];exact hj
         obtain⟨u,h3,-,h5⟩:=hcell j hj'
         exact⟨by rw[h3];simp only[val,h3];rfl,h5⟩)
       (fun j hj=>by
         obtain⟨u,h3,h4,-⟩:=hcell j hj
         have:val j=u:=by simp only[val,h3];rfl
         rw[this];exact h4)
      rw[hlenA]at this
      exact this
     ·refine .lst fun e2 zs he=> ?_
      injection he with h3 h4
      injection h3 with h3
      subst h3 h4
      refine⟨fun y hy=>(hall y hy).2,fun A1 len1 cap1 hv1 hlt=> ?_⟩
      injection hv1 with hA1 hl1 hc1
      subst hl1 hc1
      refine⟨bb,oo,hA1.symm,fun j hj1 hj2=> ?_⟩
      simp only[wrOw,if_true]
      exact⟨hS j (by omega) hj2,trivial,by show oo+(xs.length+ys.length)*e≤oo+j;omega⟩
   ·have hExt:=Ext.drew w
    have hup: ∀c u,cat w c=some u→cat w.drew c=some u:=fun c u hc=>by rw[hExt.cat (cat_lt hc)];exact hc
    let f:Nat→Value:=fun j=>match A with|some a=>(cat w (a.block,a.off+j)).getD undef|none=>undef
    have hfo:(Builtin.firstCells e xs.length (.slice A xs.length cap)).run P w.drew= .ok ((List.range (xs.length*e)).map f).toArray w.drew:=by
     by_cases hnil:xs=[]
     ·subst hnil
      cases A with
      |none=>simp only[Builtin.firstCells,List.length_nil,Nat.zero_mul];rfl
      |some A=>simp only[Builtin.firstCells,List.length_nil,Nat.zero_mul];exact run_loadCells_list (P:=P) w.drew A [] (by simp)
     ·obtain⟨bb,oo,e',val,rfl,-⟩:=l3 hnil
      simp only[Builtin.firstCells]
      refine run_load_at _ _ _ _ (by simp) fun j hj=> ?_
      simp only[List.getElem_map,List.getElem_range]
      obtain⟨u,hj',b2,o2,hA,h5,h4,h6⟩:=olds j (by simpa using hj)
      injection hA with hA
      injection hA with h7 h8 h9
      subst h7 h8
      rw[hup _ _ h5]
      simp only[f,h5];rfl
    have hfv: ∀j,j<xs.length*e→∃(hj:j<(xs.flatMap AV.cells).length),VRel w (XX F Ow') β (f j) ((xs.flatMap AV.cells)[j]):=by
     intro j hj
     obtain⟨u,hj',b2,o2,hA,h5,h4,h6⟩:=olds j hj
     refine⟨hj',?_⟩
     have:f j=u:=by simp only[f,hA,h5];rfl
     rw[this];exact h6
    have hr:=run (run_app_grow (ty:=o.type) q hu n2 (n3 w.drew hup) hfo (by omega) c3)
    have hge:=grownCap_ge w (xs.length+ys.length) cap et
    obtain⟨rest,hrest⟩: ∃r,r=Builtin.zeroCells z.cells (grownCap w (xs.length+ys.length) cap et-(xs.length+ys.length)):=⟨_,rfl⟩
    rw[←hrest]at hr
    have hrs:rest.size=(grownCap w (xs.length+ys.length) cap et-(xs.length+ys.length))*e:=by rw[hrest,size_zeroCells,q.zs]
    have hsz:(((List.range (xs.length*e)).map f).toArray++news.toArray++rest).size=grownCap w (xs.length+ys.length) cap et*e:=by
     simp only[Array.size_append,List.size_toArray,List.length_map,List.length_range,n1,hrs,Nat.sub_mul]
     have:(xs.length+ys.length)*e≤grownCap w (xs.length+ys.length) cap et*e:=Nat.mul_le_mul_right _ hge
     omega
    have hlenA:(xs++ys).length=xs.length+ys.length:=List.length_append
    rw[←hlenA]at hr
    refine(out_lst g' (((List.range (xs.length*e)).map f).toArray++news.toArray++rest) et e (grownCap w (xs.length+ys.length) cap et) (.own e) (xs++ys) ?_ ?_ (by simp) (fun e2 he=> ?_) hall (fun j j1 j2=> ?_) (hExt.trans (ext_block w.drew _ et)) (fun j hj=>alloc_at w.drew _ et j hj) (by rw[hlenA]at hr ⊢;exact hr)).of hX
    ·rw[hsz,hlenA];exact Nat.mul_le_mul_right _ hge
    ·rw[hlenA];exact hge
    ·injection he with he;subst he;exact⟨rfl,by rw[hsz];exact Nat.le_refl _⟩
    ·have hj0:j<xs.length*e+ys.length*e:=by rw[List.flatMap_append,List.length_append,lx,ly]at j1;exact j1
     rcases Nat.lt_or_ge j (xs.length*e)with h3|h3
     ·obtain⟨hj',h4⟩:=hfv j h3
      have eq:((xs++ys).flatMap AV.cells)[j]=(xs.flatMap AV.cells)[j]:=by
       simp only[List.flatMap_append]
       rw[List.getElem_append_left hj']
      have eq2:(((List.range (xs.length*e)).map f).toArray++news.toArray++rest)[j]=f j:=by
       rw[Array.getElem_append_left (by simp;omega),Array.getElem_append_left (by simp;omega)]
       simp
      rw[eq,eq2];exact h4
     ·have hi:j-xs.length*e<news.length:=by omega
      have hi2:j-xs.length*e<(ys.flatMap AV.cells).length:=by omega
      have eq:((xs++ys).flatMap AV.cells)[j]=(ys.flatMap AV.cells)[j-xs.length*e]:=by
       simp only[List.flatMap_append]
       rw[List.getElem_append_right (by omega)]
       simp only[lx]
      have eq2:(((List.range (xs.length*e)).map f).toArray++news.toArray++rest)[j]=news[j-xs.length*e]:=by
       rw[Array.getElem_append_left (by simp;omega),Array.getElem_append_right (by simp;omega)]
       simp
      rw[eq,eq2];exact(n4 _ hi hi2).mono k0
  ·cases ho
 |_=>rw[hb]at ho;cases ho
end
end Go.Proofs.PF
