/-
  PF, parts 32 to 44: a small machine with values, and that Go's code does what it tells. Conditions: none beyond each theorem's own.
-/
import Derived.Test.YtaoijbibmcgdaaaGreatPFd
import Derived.Carry
import Derived.ChangeOld
import Derived.RowKit
import Derived.SizedLaws
import Derived.Test.YtaoijbibmcgdaaaGreatPFb
import Derived.Below
import Derived.Lib.Repeat
import Derived.Lib.Join
import Derived.Lib.ItoaNum
import Derived.Lib.LaidTab
import Derived.Lib.AppendIntMem
import Derived.Stop.LaidErr
import Derived.Lib.SplitLaws
set_option linter.unusedVariables false
set_option linter.unusedSimpArgs false
namespace Go.Proofs.PF
open Go.ChangeShapes
inductive TC where
 |b|i (k:IntKind)|s|l (es:List TC) (ag:Bool)
def mkE (ag:Bool)(cs:List AV):AV:=if ag then .agg cs else cs.headD .undef
mutual
def wfc :TC→AV→Prop
 | .b,a=> ∃x,a= .bool x
 | .i k,a=> ∃n,a= .int k n∧k.min≤n∧n≤k.max
 | .s,a=> ∃l,a= .str l∧l.length≤9223372036854775807
 | .l es ag,a=> ∃xs,a= .lst .no xs∧xs.length≤9223372036854775807∧∀x∈xs,∃cs,wfcs es cs∧x=mkE ag cs
def wfcs :List TC→List AV→Prop
 | [],[]=>True
 |t::ts,a::as=>wfc t a∧wfcs ts as
 |_,_=>False
end
theorem wfc_dcell {t:TC}{a:AV}(h:wfc t a):a.dcell=true:=by
 cases t with
 |b=>obtain⟨x,rfl⟩:=h;rfl
 |i k=>obtain⟨n,rfl,-⟩:=h;rfl
 |s=>obtain⟨l,rfl,-⟩:=h;rfl
 |l es ag=>obtain⟨xs,rfl,-⟩:=h;rfl
theorem wfcs_len : ∀{es:List TC} {as:List AV},wfcs es as→es.length=as.length∧∀a∈as,a.dcell=true:=by
 intro es
 induction es with
 |nil=>intro as h;cases as with
  |nil=>exact⟨rfl,by simp⟩
  |cons=>exact h.elim
 |cons t ts ih=>
  intro as h
  cases as with
  |nil=>exact h.elim
  |cons a as=>
   obtain⟨h1,h2⟩:=h
   obtain⟨i1,i2⟩:=ih h2
   exact⟨by simp[i1],fun x hx=>(List.mem_cons.1 hx).elim (fun e=>e▸wfc_dcell h1) (i2 x)⟩
theorem wfcs_append {es fs:List TC}{as bs:List AV}(h:wfcs es as)(k:wfcs fs bs):wfcs (es++fs) (as++bs):=by
 induction es generalizing as with
 |nil=>cases as with
  |nil=>exact k
  |cons=>exact h.elim
 |cons t ts ih=>
  cases as with
  |nil=>exact h.elim
  |cons a as=>exact⟨h.1,ih h.2⟩
def okOffs (P:Program):Nat→List Field→List (List TC×Bool)→Bool
 |_,[],[]=>true
 |off,f::fs,e::es=>f.offset==off&&P.cellsOf f.type==e.1.length&&okOffs P (off+e.1.length) fs es
 |_,_,_=>false
def tcs (P:Program):Nat→TypeId→Option (List TC×Bool)
 |0,_=>none
 |n+1,t=>match P.underlying t with
  |some .bool=>some ([.b],false)
  |some (.int k)=>some ([.i k],false)
  |some .string=>some ([.s],false)
  |some (.slice e)=>(tcs P n e).bind fun p=>if P.cellsOf e==p.1.length&&Nat.blt 0 p.1.length&&(p.2||p.1.length==1)then some ([.l p.1 p.2],false)else none
  |some (.struct fs)=>(fs.toList.mapM fun f=>tcs P n f.type).bind fun es=>if okOffs P 0 fs.toList es&&P.cellsOf t==(es.flatMap (·.1)).length then some (es.flatMap (·.1),true)else none
  |some (.array k e)=>(tcs P n e).bind fun p=>if P.cellsOf e==p.1.length&&P.cellsOf t==k*p.1.length then some ((List.replicate k p.1).flatten,true)else none
  |_=>none
mutual
def bk :AV→Nat
 | .str l=>l.length+1
 | .lst _ xs=>bkL xs+1
 | .agg cs=>bkL cs
 |_=>1
def bkL :List AV→Nat
 | []=>0
 |x::xs=>bk x+bkL xs
end
theorem bkL_append (l r:List AV):bkL (l++r)=bkL l+bkL r:=by
 induction l with
 |nil=>simp[bkL]
 |cons x l ih=>simp only[List.cons_append,bkL,ih];omega
theorem bk_mkE {es:List TC}{ag:Bool}{l:List AV}(he:ag=true∨es.length=1)(h:wfcs es l):bk (mkE ag l)=bkL l:=by
 cases ag with
 |true=>simp[mkE,bk]
 |false=>
  have he:es.length=1:=by simpa using he
  have:=(wfcs_len h).1
  match l,this with
  | [a],_=>simp[mkE,bkL]
  | [],h=>rw[he]at h;simp at h
  |_::_::_,h=>simp at h;omega
structure Bulk {H:Type}(u:DataW H→Nat)(ua:List (DataW H)→Nat):Prop where
 str: ∀l,l.length+1≤u (.lit (.string l))
 one: ∀d,1≤u d
 slice: ∀a b,ua a+1≤u (.slice a b)
 agg: ∀a,ua a≤u (.agg a)
 nil:ua []=0
 cons: ∀d ds,ua (d::ds)=u d+ua ds
mutual
def ud {H:Type}:DataW H→Nat
 | .lit (.string b)=>b.length+1
 | .slice es _=>udL es+1
 | .agg ps=>udL ps+1
 |_=>1
def udL {H:Type}:List (DataW H)→Nat
 | []=>0
 |d::r=>ud d+udL r
end
theorem bulk_ud {H:Type}:Bulk (ud (H:=H)) udL:=⟨fun l=>by simp[ud],fun d=>by unfold ud;split<;>omega,fun a b=>by simp[ud],fun a=>by simp[ud],by simp[udL],fun d ds=>by simp[udL]⟩
section
variable {H:Type} {enc:TypeId×Value→H} {P:Program} {W:World} {sp:Nat→Bool} {held:Bool} {β:Nat→Cell} {base:Nat} {u:DataW H→Nat} {ua:List (DataW H)→Nat}
theorem bulk_map (hu:Bulk u ua){α:Type}(f:α→Nat)(l:List α)(xs:List (DataW H×List MemPlace))(hl:l.length=xs.length)(h: ∀i (h1:i<l.length) (h2:i<xs.length),f l[i]≤u xs[i].1):(l.map f).sum≤ua (xs.map (·.1)):=by
 induction l generalizing xs with
 |nil=>simp
 |cons a l ih=>
  cases xs with
  |nil=>simp at hl
  |cons x xs=>
   have h0:=h 0 (by simp) (by simp)
   have:=ih xs (by simpa using hl) fun i h1 h2=>h (i+1) (by simpa using h1) (by simpa using h2)
   simp only[List.map_cons,List.sum_cons,hu.cons]
   simp only[List.getElem_cons_zero]at h0
   omega
theorem bkL_mkE {es:List TC}{ag:Bool}(he:ag=true∨es.length=1): ∀(L:List (List AV)),(∀l∈L,wfcs es l)→bkL (L.map (mkE ag))=(L.map bkL).sum
 | [],_=>rfl
 |l::L,h=>by rw[List.map_cons,List.map_cons,List.sum_cons,bkL,bk_mkE he (h l (by simp)),bkL_mkE he L fun x hx=>h x (List.mem_cons_of_mem _ hx)]
abbrev noX :Cell→Prop:=fun _=>False
def Rels (W:World)(β:Nat→Cell):List Value→List AV→Prop
 | [],[]=>True
 |v::vs,a::as=>VRel W noX β v a∧Rels W β vs as
 |_,_=>False
theorem Rels.get : ∀{vs:List Value} {as:List AV},Rels W β vs as→vs.length=as.length∧∀i (h1:i<vs.length) (h2:i<as.length),VRel W noX β vs[i] as[i]:=by
 intro vs
 induction vs with
 |nil=>intro as h;cases as with
  |nil=>exact⟨rfl,fun i h1=>absurd h1 (by simp)⟩
  |cons=>exact h.elim
 |cons v vs ih=>
  intro as h
  cases as with
  |nil=>exact h.elim
  |cons a as=>
   obtain⟨i1,i2⟩:=ih h.2
   refine⟨by simp[i1],fun i h1 h2=> ?_⟩
   cases i with
   |zero=>exact h.1
   |succ i=>exact i2 i (by simpa using h1) (by simpa using h2)
theorem Rels.append {vs us:List Value}{as bs:List AV}(h:Rels W β vs as)(k:Rels W β us bs):Rels W β (vs++us) (as++bs):=by
 induction vs generalizing as with
 |nil=>cases as with
  |nil=>exact k
  |cons=>exact h.elim
 |cons v vs ih=>
  cases as with
  |nil=>exact h.elim
  |cons a as=>exact⟨h.1,ih h.2⟩
theorem cells_flat {L:List (List AV)}{e:Nat}{ag:Bool}(he:ag=true∨e=1)(hL: ∀l∈L,l.length=e∧∀a∈l,a.dcell=true):
 (L.map (mkE ag)).flatMap AV.cells=L.flatten∧∀x∈L.map (mkE ag),x.delem=true∧x.cells.length=e:=by
 have one: ∀l∈L,(mkE ag l).cells=l∧(mkE ag l).delem=true:=by
  intro l hl
  obtain⟨h1,h2⟩:=hL l hl
  cases ag with
  |true=>exact⟨rfl,by simp only[mkE,if_true,AV.delem,List.all_eq_true];exact h2⟩
  |false=>
   have he:e=1:=by simpa using he
   match l,h1,h2 with
   | [a],_,h2=>
     have:=h2 a (by simp)
     cases a<;>first|exact⟨rfl,this⟩|cases this
   | [],h1,_=>simp at h1;omega
   |_::_::_,h1,_=>simp at h1;omega
 refine⟨?_,fun x hx=> ?_⟩
 ·clear hL
  induction L with
  |nil=>rfl
  |cons l L ih=>
   rw[List.map_cons,List.flatMap_cons,List.flatten_cons,(one l (by simp)).1,ih fun l hl=>one l (List.mem_cons_of_mem _ hl)]
 ·obtain⟨l,hl,rfl⟩:=List.mem_map.1 hx
  rw[(one l hl).1]
  exact⟨(one l hl).2,(hL l hl).1⟩
theorem flatten_at {α:Type}{e:Nat}: ∀(L:List (List α)),(∀l∈L,l.length=e)→L.flatten.length=L.length*e∧∀i k (hi:i<L.length) (hk:k<L[i].length),L.flatten[i*e+k]? =some (L[i][k]):=by
 intro L
 induction L with
 |nil=>intro _;exact⟨by simp,fun i k hi=>absurd hi (by simp)⟩
 |cons l L ih=>
  intro hl
  obtain⟨i1,i2⟩:=ih fun l h=>hl l (List.mem_cons_of_mem _ h)
  have h0:=hl l (by simp)
  refine⟨by rw[List.flatten_cons,List.length_append,i1,h0,List.length_cons,Nat.succ_mul,Nat.add_comm],fun i k hi hk=> ?_⟩
  cases i with
  |zero=>
   simp only[List.getElem_cons_zero]at hk ⊢
   rw[List.flatten_cons,List.getElem?_append_left (by simpa using hk)]
   simp
  |succ i=>
   simp only[List.getElem_cons_succ]at hk ⊢
   rw[List.flatten_cons,List.getElem?_append_right (by rw[h0,Nat.succ_mul];omega)]
   have:(i+1)*e+k-l.length=i*e+k:=by rw[h0,Nat.succ_mul];omega
   rw[this]
   exact i2 i k (by simpa using hi) hk
theorem open_slice {es:List TC}{B:Nat→Nat}{ag:Bool}{e:TypeId}{a:Addr}{len cap:Nat}(h1:P.cellsOf e=es.length)(h2:0<es.length)(h3:ag=true∨es.length=1)(hlc:len≤cap)(hcap:cap≤maxLen)
 (hel: ∀i,i<len→∃cs as,W.cells? base (a.add (i*P.cellsOf e)) (P.cellsOf e)=some cs∧wfcs es as∧Rels W β cs as∧bkL as≤B i):
 ∃x,wfc (.l es ag) x∧(∃L:List (List AV),L.length=len∧(∀i (h:i<L.length),bkL L[i]≤B i)∧bk x=(L.map bkL).sum+1)∧VRel W noX β (.slice (some a) len cap) x:=by
 obtain⟨L,hl,hL⟩: ∃L:List (List AV),L.length=len∧∀i (hi:i<L.length),∃cs,W.cells? base (a.add (i*P.cellsOf e)) (P.cellsOf e)=some cs∧wfcs es L[i]∧Rels W β cs L[i]∧bkL L[i]≤B i:=by
  clear hlc
  induction len with
  |zero=>exact⟨[],rfl,fun i hi=>absurd hi (by simp)⟩
  |succ len ih=>
   obtain⟨L,hl,hL⟩:=ih fun i hi=>hel i (by omega)
   obtain⟨cs,as,c1,c2,c3,c4⟩:=hel len (by omega)
   refine⟨L++[as],by simp[hl],fun i hi=> ?_⟩
   rcases Nat.lt_or_ge i L.length with hlt|hge
   ·rw[List.getElem_append_left hlt];exact hL i hlt
   ·have:i=len:=by simp at hi;omega
    subst this
    rw[List.getElem_append_right hge]
    simp only[hl,Nat.sub_self,List.getElem_cons_zero]
    exact⟨cs,c1,c2,c3,c4⟩
 have hL2: ∀l∈L,l.length=es.length∧∀a∈l,a.dcell=true:=by
  intro l hl
  obtain⟨i,hi,rfl⟩:=List.getElem_of_mem hl
  obtain⟨cs,-,c2,-⟩:=hL i hi
  obtain⟨d1,d2⟩:=wfcs_len c2
  exact⟨d1.symm,d2⟩
 obtain⟨f1,f2⟩:=cells_flat (ag:=ag) h3 hL2
 obtain⟨g1,g2⟩:=flatten_at L fun l hl=>(hL2 l hl).1
 refine⟨.lst .no (L.map (mkE ag)),⟨_,rfl,?_,fun x hx=> ?_⟩,⟨L,hl,fun i hi=> ?_,?_⟩,?_⟩
 ·have:maxLen=9223372036854775807:=by decide
  simp;omega
 ·obtain⟨l,hl,rfl⟩:=List.mem_map.1 hx
  obtain⟨i,hi,rfl⟩:=List.getElem_of_mem hl
  obtain⟨cs,-,c2,-⟩:=hL i hi
  exact⟨_,c2,rfl⟩
 ·obtain⟨cs,-,-,-,c4⟩:=hL i hi
  exact c4
 ·rw[bk,bkL_mkE h3 L fun l hl=>by
   obtain⟨i,hi,rfl⟩:=List.getElem_of_mem hl
   obtain⟨cs,-,c2,-⟩:=hL i hi
   exact c2]
 ·cases hL0:L with
  |nil=>
   subst hL0
   simp only[List.length_nil]at hl
   subst hl
   exact .lst0 _ _ _ (by simp)
  |cons l0 L0=>
   rw[←hL0]
   have hpos:0<L.length:=by rw[hL0];simp
   obtain⟨b,o,spot⟩:=a
   have hsp:spot=none:=by
    obtain⟨cs,c1,c2,c3,-⟩:=hL 0 hpos
    obtain⟨-,d1,d2⟩:=World.cells?_some c1
    have:=d2 0 (by omega)
    simp only[Nat.zero_mul,Addr.add,if_true]at this
    rw[zge (by omega)]at this
    unfold World.cell? at this
    split at this
    ·simp only at this
     cases spot with
     |none=>rfl
     |some x=>cases this
    ·cases this
   subst hsp
   let val:Nat→Value:=fun j=>(cat W (b,o+j)).getD undef
   have key: ∀j,j<L.flatten.length→∃(hj:j<L.flatten.length),cat W (b,o+j)=some (val j)∧VRel W noX β (val j) L.flatten[j]:=by
    intro j hj
    have hj2:=hj
    rw[g1]at hj2
    have hi:j/es.length<L.length:=(Nat.div_lt_iff_lt_mul h2).2 hj2
    have hk:j%es.length<es.length:=Nat.mod_lt _ h2
    obtain⟨cs,c1,c2,c3,-⟩:=hL _ hi
    obtain⟨-,d1,d2⟩:=World.cells?_some c1
    obtain⟨r1,r2⟩:=c3.get
    have hkl:j%es.length<L[j/es.length].length:=by rw[(hL2 _ (List.getElem_mem hi)).1];exact hk
    have hkc:j%es.length<cs.length:=by omega
    have:=d2 (j%es.length) (by omega)
    rw[h1,add_at,add_at,zge hkc]at this
    have hdm:j/es.length*es.length+j%es.length=j:=by rw[Nat.mul_comm];exact Nat.div_add_mod j es.length
    have e1:cat W (b,o+j)=some cs[j%es.length]:=by
     unfold cat
     rw[←this,Nat.add_assoc,hdm]
    have e2:val j=cs[j%es.length]:=by simp only[val,e1];rfl
    refine⟨hj,by rw[e2];exact e1,?_⟩
    have e3:=g2 _ _ hi hkl
    rw[hdm,zge hj]at e3
    injection e3 with e3
    rw[e2,e3]
    exact r2 _ hkc hkl
   have hfl:((L.map (mkE ag)).flatMap AV.cells).length=L.flatten.length:=by rw[f1]
   have:=VRel.lst (w:=W) (X:=noX) (β:=β) b o es.length cap .no (L.map (mkE ag)) val (by simp;omega) (by simp) f2
    (fun j hj=>by
      obtain⟨-,e1,-⟩:=key j (by rw[g1];simpa using hj)
      exact⟨e1,fun h=>h⟩)
    (fun j hj=>by
      obtain⟨hj2,-,e1⟩:=key j (by rw[←hfl];exact hj)
      simp only[f1]
      exact e1)
   rw[List.length_map,hl]at this
   exact this
theorem tcs_open (hbu:Bulk u ua): ∀(n:Nat) (t:TypeId) (es:List TC) (ag:Bool),tcs P n t=some (es,ag)→∀(fuel:Nat) (cs:List Value) (x:DataW H×List MemPlace),DataW.trod enc P W base sp held fuel t cs=some x→
 ∃as,wfcs es as∧Rels W β cs as∧bkL as≤u x.1:=by
 intro n
 induction n with
 |zero=>intro t es ag h;cases h
 |succ n ih=>
  intro t es ag ht fuel cs x hx
  cases fuel with
  |zero=>cases hx
  |succ fuel=>
   simp only[tcs]at ht
   split at ht
   ·rename_i hu
    simp only[zsi,zpi]at ht
    obtain⟨rfl,rfl⟩:=ht
    simp only[DataW.trod,hu]at hx
    split at hx<;>first|cases hx;done|skip
    all_goals (try(rename_i heq;simp at heq;done))
    rename_i heq1 heq2
    exact⟨[_],⟨⟨_,rfl⟩,trivial⟩,⟨.bool _,trivial⟩,hbu.one _⟩
   ·rename_i k hu
    simp only[zsi,zpi]at ht
    obtain⟨rfl,rfl⟩:=ht
    simp only[DataW.trod,hu]at hx
    split at hx<;>first|cases hx;done|skip
    all_goals (try(rename_i heq;simp at heq;done))
    rename_i k2 k' m heq1
    simp only[zsi,TypeDesc.int.injEq]at heq1
    subst heq1
    split at hx
    ·rename_i hc
     obtain⟨rfl,hwf⟩:=hc
     simp only[Lit.wf,zba,decide_eq_true_eq]at hwf
     exact⟨[_],⟨⟨m,rfl,hwf⟩,trivial⟩,⟨.int _ m,trivial⟩,hbu.one _⟩
    ·cases hx
   ·rename_i hu
    simp only[zsi,zpi]at ht
    obtain⟨rfl,rfl⟩:=ht
    simp only[DataW.trod,hu]at hx
    split at hx<;>first|cases hx;done|skip
    all_goals (try(rename_i heq;simp at heq;done))
    rename_i s heq1
    split at hx
    ·rename_i hc
     refine⟨[_],⟨⟨_,rfl,?_⟩,trivial⟩,⟨.str s _ rfl,trivial⟩,?_⟩
     rotate_left
     ·cases hx
      exact hbu.str _
     have:maxLen=9223372036854775807:=by decide
     simpa [this]using hc
    ·cases hx
   ·rename_i e hu
    obtain⟨p,hp,ht⟩:=zbi ht
    split at ht
    ·rename_i hc
     simp only[zsi,zpi]at ht
     obtain⟨rfl,rfl⟩:=ht
     simp only[zba,Bool.or_eq_true,beq_iff_eq]at hc
     obtain⟨⟨c1,c2⟩,c3⟩:=hc
     have c2:0<p.1.length:=by simp[Nat.blt]at c2;omega
     simp only[DataW.trod,hu]at hx
     split at hx<;>first|cases hx;done|skip
     all_goals (try(rename_i heq;simp at heq;done))
     ·refine⟨[_],⟨⟨[],rfl,by simp,by simp⟩,trivial⟩,⟨.lst0 _ _ _ (by simp),trivial⟩,hbu.one _⟩
     ·rename_i e2 a len cap heq1
      simp only[zsi,TypeDesc.slice.injEq]at heq1
      subst heq1
      split at hx
      ·rename_i hb
       obtain⟨elems,hel,hx⟩:=zbi hx
       obtain⟨m1,m2⟩:=mapM_get hel
       have:=open_slice (W:=W) (base:=base) (β:=β) (P:=P) (es:=p.1) (ag:=p.2) (e:=e) (a:=a) (len:=len) (cap:=cap) (B:=fun i=>((elems[i]?).map fun x=>u x.1).getD 0) c1 c2 c3 hb.2.1 hb.2.2 fun i hi=>by
        have:=m2 i (by simpa using hi) (by rw[←m1];simpa using hi)
        simp only[List.getElem_range]at this
        obtain⟨cs,q1,q2⟩:=zbi this
        obtain⟨as,r1,r2,r3⟩:=ih e p.1 p.2 hp fuel cs _ q2
        exact⟨cs,as,q1,r1,r2,by rw[zge (by rw[←m1];simpa using hi)];exact r3⟩
       obtain⟨y,y1,⟨L,l1,l2,l3⟩,y2⟩:=this
       refine⟨[y],⟨y1,trivial⟩,⟨y2,trivial⟩,?_⟩
       have le:=bulk_map hbu bkL L elems (by rw[l1,←m1];simp) fun i h1 h2=>by
        have:=l2 i h1
        rwa [zge h2]at this
       obtain⟨rest,-,hx⟩:=Option.map_eq_some_iff.1 hx
       subst hx
       simp only[bkL,l3]
       have:=hbu.slice (elems.map (·.1)) (rest.map (·.1))
       simp only at this ⊢
       omega
      ·cases hx
    ·cases ht
   ·rename_i fs hu
    obtain⟨L,hL,ht⟩:=zbi ht
    split at ht
    ·rename_i hc
     simp only[zsi,zpi]at ht
     obtain⟨rfl,rfl⟩:=ht
     simp only[zba,beq_iff_eq]at hc
     obtain⟨c1,c2⟩:=hc
     simp only[DataW.trod,hu]at hx
     split at hx
     ·rename_i hlen
      obtain⟨xs,hxs,hx⟩:=Option.map_eq_some_iff.1 hx
      rw[c2]at hlen
      have gen: ∀(fs:List Field) (L:List (List TC×Bool)) (off:Nat) (xs:List (DataW H×List MemPlace)),fs.mapM (fun f=>tcs P n f.type)=some L→okOffs P off fs L=true→
       fs.mapM (fun f=>DataW.trod enc P W base sp held fuel f.type ((cs.drop f.offset).take (P.cellsOf f.type)))=some xs→cs.length=off+(L.flatMap (·.1)).length→
       ∃as,wfcs (L.flatMap (·.1)) as∧Rels W β (cs.drop off) as∧bkL as≤ua (xs.map (·.1)):=by
       intro fs
       induction fs with
       |nil=>
        intro L off xs h1 h2 h3 h4
        simp at h1
        subst h1
        refine⟨[],trivial,?_,by simp[bkL]⟩
        rw[List.drop_eq_nil_of_le (by simp at h4;omega)]
        trivial
       |cons f fs ihf=>
        intro L off xs h1 h2 h3 h4
        rw[List.mapM_cons]at h1 h3
        obtain⟨p,hp,h1⟩:=zbi h1
        obtain⟨L',hL',h1⟩:=zbi h1
        simp only[Option.pure_def,zsi]at h1
        subst h1
        obtain⟨y,hy,h3⟩:=zbi h3
        obtain⟨ys,hys,h3⟩:=zbi h3
        simp only[Option.pure_def,zsi]at h3
        subst h3
        simp only[okOffs,zba,beq_iff_eq]at h2
        obtain⟨⟨o1,o2⟩,o3⟩:=h2
        obtain⟨as,a1,a2,a3⟩:=ih f.type p.1 p.2 hp fuel _ _ hy
        obtain⟨bs,b1,b2,b3⟩:=ihf L' _ ys hL' o3 hys (by rw[h4,List.flatMap_cons,List.length_append];omega)
        refine⟨as++bs,by rw[List.flatMap_cons];exact wfcs_append a1 b1,?_,by rw[bkL_append,List.map_cons,hbu.cons];omega⟩
        rw[o1,o2]at a2
        have:=a2.append b2
        rwa [show cs.drop (off+p.1.length)=(cs.drop off).drop p.1.length from by rw[List.drop_drop],List.take_append_drop]at this
      obtain⟨as,g1,g2,g3⟩:=gen fs.toList L 0 xs hL c1 hxs (by rw[Nat.zero_add];exact hlen)
      rw[List.drop_zero]at g2
      subst hx
      exact⟨as,g1,g2,Nat.le_trans g3 (hbu.agg _)⟩
     ·cases hx
    ·cases ht
   ·rename_i k e hu
    obtain⟨p,hp,ht⟩:=zbi ht
    split at ht
    ·rename_i hc
     simp only[zsi,zpi]at ht
     obtain⟨rfl,rfl⟩:=ht
     simp only[zba,beq_iff_eq]at hc
     obtain⟨c1,c2⟩:=hc
     simp only[DataW.trod,hu]at hx
     split at hx
     ·rename_i hlen
      obtain⟨xs,hxs,hx⟩:=Option.map_eq_some_iff.1 hx
      obtain⟨m1,m2⟩:=mapM_get hxs
      rw[c2]at hlen
      have gen: ∀(j:Nat),j≤k→∃as,wfcs ((List.replicate j p.1).flatten) as∧Rels W β (cs.drop ((k-j)*p.1.length)) as∧bkL as≤ua ((xs.drop (k-j)).map (·.1)):=by
       intro j
       induction j with
       |zero=>
        intro _
        refine⟨[],trivial,?_,by simp[bkL]⟩
        rw[List.drop_eq_nil_of_le (by rw[hlen];simp)]
        trivial
       |succ j ihj=>
        intro hj
        obtain⟨bs,b1,b2,b3⟩:=ihj (by omega)
        have hkl:k-(j+1)<xs.length:=by rw[←m1];simp;omega
        have:=m2 (k-(j+1)) (by simp;omega) (by rw[←m1];simp;omega)
        simp only[List.getElem_range]at this
        obtain⟨as,a1,a2,a3⟩:=ih e p.1 p.2 hp fuel _ _ this
        refine⟨as++bs,by rw[List.replicate_succ,List.flatten_cons];exact wfcs_append a1 b1,?_,by
         rw[bkL_append,List.drop_eq_getElem_cons hkl,List.map_cons,hbu.cons,show k-(j+1)+1=k-j from by omega]
         omega⟩
        rw[c1]at a2
        have h2:=a2.append b2
        have e1:(k-j)*p.1.length=(k-(j+1))*p.1.length+p.1.length:=by
         rw[←Nat.succ_mul];congr 1;omega
        rwa [show cs.drop ((k-j)*p.1.length)=(cs.drop ((k-(j+1))*p.1.length)).drop p.1.length from by rw[List.drop_drop,e1],List.take_append_drop]at h2
      obtain⟨as,g1,g2,g3⟩:=gen k (Nat.le_refl _)
      rw[Nat.sub_self,Nat.zero_mul,List.drop_zero]at g2
      rw[Nat.sub_self,List.drop_zero]at g3
      subst hx
      exact⟨as,g1,g2,Nat.le_trans g3 (hbu.agg _)⟩
     ·cases hx
    ·cases ht
   ·cases ht
theorem arg_open (hu:Bulk u ua){n:Nat}{t:TypeId}{es:List TC}{ag:Bool}(ht:tcs P n t=some (es,ag)){v:Value}{d:DataW H}{ps:List MemPlace}{b0:Nat}(hv:Value.okWide P W .any b0 t v)(hd:DataW.Trod enc P W base sp held t v d ps):
 ∃cs,wfcs es cs∧VRel W noX β v (mkE ag cs)∧bk (mkE ag cs)≤u d:=by
 obtain⟨fuel,hx⟩:=hd
 obtain⟨as,a1,a2,a3⟩:=tcs_open (β:=β) hu n t es ag ht fuel _ _ hx
 suffices X:VRel W noX β v (mkE ag as)∧(ag=true∨es.length=1)from⟨as,a1,X.1,by rw[bk_mkE X.2 a1];exact a3⟩
 obtain⟨l1,l2⟩:=wfcs_len a1
 cases n with
 |zero=>cases ht
 |succ n=>
  have single: ∀{c:TC},es=[c]→ag=false→v.cells= #[v]→VRel W noX β v (mkE ag as)∧(ag=true∨es.length=1):=by
   intro c he ha hv
   subst he ha
   refine⟨?_,.inr rfl⟩
   rw[hv]at a2
   match as,l1,a2 with
   | [a],_,a2=>exact a2.1
  have several:ag=true→(∃cs,v= .agg cs)→VRel W noX β v (mkE ag as)∧(ag=true∨es.length=1):=by
   rintro rfl ⟨cs,rfl⟩
   refine⟨?_,.inl rfl⟩
   obtain⟨r1,r2⟩:=a2.get
   refine .agg cs as (by simpa [Value.cells]using r1) (fun a ha=> ?_) fun i hi=> ?_
   ·have:=l2 a ha
    exact⟨isCell_flat1 (dcell_notOwn this).2,(dcell_notOwn this).1⟩
   ·have h2:i<as.length:=by simp[Value.cells]at r1;omega
    have:=r2 i (by simpa [Value.cells]using hi) h2
    simpa [Value.cells]using this
  simp only[tcs]at ht
  unfold Value.okWide at hv
  split at ht
  ·rename_i hu
   simp only[zsi,zpi]at ht
   rw[hu]at hv
   exact single ht.1.symm ht.2.symm (by cases v<;>first|rfl|(exfalso;simp[Cell.okWide,Cell.ok,hu]at hv;done))
  ·rename_i hu
   simp only[zsi,zpi]at ht
   rw[hu]at hv
   exact single ht.1.symm ht.2.symm (by cases v<;>first|rfl|(exfalso;simp[Cell.okWide,Cell.ok,hu]at hv;done))
  ·rename_i hu
   simp only[zsi,zpi]at ht
   rw[hu]at hv
   exact single ht.1.symm ht.2.symm (by cases v<;>first|rfl|(exfalso;simp[Cell.okWide,Cell.ok,hu]at hv;done))
  ·rename_i hu
   obtain⟨p,hp,ht⟩:=zbi ht
   split at ht
   ·simp only[zsi,zpi]at ht
    rw[hu]at hv
    exact single ht.1.symm ht.2.symm (by cases v<;>first|rfl|(exfalso;simp[Cell.okWide,Cell.ok,hu]at hv;done))
   ·cases ht
  ·rename_i hu
   obtain⟨p,hp,ht⟩:=zbi ht
   split at ht
   ·simp only[zsi,zpi]at ht
    rw[hu]at hv
    obtain⟨cs,hcs,-⟩:=hv
    exact several ht.2.symm ⟨cs,hcs⟩
   ·cases ht
  ·rename_i hu
   obtain⟨p,hp,ht⟩:=zbi ht
   split at ht
   ·simp only[zsi,zpi]at ht
    rw[hu]at hv
    obtain⟨cs,hcs,-⟩:=hv
    exact several ht.2.symm ⟨cs,hcs⟩
   ·cases ht
  ·cases ht
end
open Go.ChangeShapes
def ArgsOf :List (List TC×Bool)→List AV→Prop
 | [],[]=>True
 |p::ps,a::as=>(∃cs,wfcs p.1 cs∧a=mkE p.2 cs)∧ArgsOf ps as
 |_,_=>False
def tcsAll (P:Program)(n:Nat):List TypeId→Option (List (List TC×Bool))
 | []=>some []
 |t::ts=>(tcs P n t).bind fun p=>(tcsAll P n ts).map (p:: ·)
section
variable {H:Type} {enc:TypeId×Value→H} {P:Program} {W:World} {sp:Nat→Bool} {held:Bool} {β:Nat→Cell} {base:Nat} {u:DataW H→Nat} {ua:List (DataW H)→Nat}
theorem args_open (hu:Bulk u ua){n:Nat}: ∀(ts:List TypeId) (L:List (List TC×Bool)) (vs:List Value) (ds:List (DataW H)) (ps:List MemPlace) (b0:Nat),tcsAll P n ts=some L→
 (∀(j:Nat) t v,ts[j]? =some t→vs[j]? =some v→Value.okWide P W .any b0 t v)→DataW.TrodAll enc P W base sp held ts vs ds ps→
 ∃as,ArgsOf L as∧vs.length=as.length∧ds.length=as.length∧bkL as≤ua ds∧∀i (h1:i<vs.length) (h2:i<as.length),(VRel W noX β vs[i] as[i]∧as[i].notOwn=true∧refs as[i]=[]):=by
 intro ts
 induction ts with
 |nil=>
  intro L vs ds ps b0 hL hv hd
  simp only[tcsAll,zsi]at hL
  subst hL
  obtain⟨rfl,rfl,rfl⟩:=trodAll_nil hd
  exact⟨[],trivial,rfl,rfl,by simp[bkL],fun i h1=>absurd h1 (by simp)⟩
 |cons t ts ih=>
  intro L vs ds ps b0 hL hv hd
  simp only[tcsAll]at hL
  obtain⟨p,hp,hL⟩:=zbi hL
  obtain⟨L',hL',rfl⟩:=Option.map_eq_some_iff.1 hL
  obtain⟨v,vs',d,ds',q1,q2,rfl,rfl,rfl,hd1,hd2⟩:=trodAll_cons hd
  obtain⟨cs,c1,c2,c3⟩:=arg_open (β:=β) hu (show tcs P n t=some (p.1,p.2)from hp) (hv 0 t v rfl rfl) hd1
  obtain⟨as,a1,a2,a3,a5,a4⟩:=ih L' vs' ds' q2 b0 hL' (fun j t' v' h1 h2=>hv (j+1) t' v' (by simpa using h1) (by simpa using h2)) hd2
  obtain⟨w1,w2⟩:=wfcs_len c1
  refine⟨mkE p.2 cs::as,⟨⟨cs,c1,rfl⟩,a1⟩,by simp[a2],by simp[a3],by simp only[bkL,hu.cons];omega,fun i h1 h2=> ?_⟩
  cases i with
  |zero=>
   refine⟨c2,?_,?_⟩
   ·unfold mkE
    split
    ·rfl
    ·cases cs with
     |nil=>rfl
     |cons c r=>exact(dcell_notOwn (w2 c (by simp))).1
   ·unfold mkE
    split
    ·simp only[List.getElem_cons_zero,refs,refs3,List.flatMap_eq_nil_iff]
     exact fun c hc=>dcell_refs2 (w2 c hc)
    ·cases cs with
     |nil=>rfl
     |cons c r=>
      have:=w2 c (by simp)
      have h2:=dcell_refs2 this
      simp only[List.getElem_cons_zero,List.headD_cons]
      cases c<;>first|exact h2|cases this
  |succ i=>exact a4 i (by simpa using h1) (by simpa using h2)
theorem trodAll_below {W':World}(hl:laidOutB P=true)(hb:RowKit.Below W.heap.size W W'): ∀(ts:List TypeId) (vs:List Value) (ds:List (DataW H)) (ps:List MemPlace),(ts.all fun t=>P.readableRec t&&Nat.blt t P.types.size)=true→
 (∀x∈ps,x.block<W.heap.size)→DataW.TrodAll enc P W 0 (fun _=>true) true ts vs ds ps→DataW.TrodAll enc P W' 0 (fun b=>decide (b<W.heap.size)) true ts vs ds ps:=by
 intro ts
 induction ts with
 |nil=>
  intro vs ds ps _ _ hd
  obtain⟨rfl,rfl,rfl⟩:=trodAll_nil hd
  exact trodAll_mk0
 |cons t ts ih=>
  intro vs ds ps hr hlt hd
  simp only[List.all_cons,zba]at hr
  obtain⟨v,vs',d,ds',q1,q2,rfl,rfl,rfl,hd1,hd2⟩:=trodAll_cons hd
  have h2:t<P.types.size:=Nat.lt_of_succ_le (Nat.le_of_ble_eq_true hr.1.2)
  exact⟨q1,q2,RowKit.Below.trod hl hr.1.1 h2 hd1 hb fun x hx=>hlt x (List.mem_append_left _ hx),ih vs' ds' q2 hr.2 (fun x hx=>hlt x (List.mem_append_right _ hx)) hd2,rfl⟩
abbrev noG :Glob:=fun _ _=>True
theorem contract_trueG (hu:Bulk u ua){B:Nat}{Γ:Glob}{M:Prog}{XE:Nat→List AV→Option (AV×List Obj)}(hM: ∀f G,M f=some G→okFunc P f G=true)(hX:ExtOK Γ P M XE){f:FuncId}{fn:Func}{s:ChangeSpec}{n:Nat}{L:List (List TC×Bool)}{tb:TypeId}
 (hl:laidOutB P=true) (hvars:s.vars=[]) (hres:fn.resultTypes= #[tb]) (htb:P.underlying tb=some .bool) (hrd:(fn.params.toList.all fun t=>P.readableRec t&&Nat.blt t P.types.size)=true)
 (hL:tcsAll P n fn.params.toList=some L) (hs: ∀(ds:List (DataW H)),ds.length=L.length→s.fn H ds={results:=[.lit (.bool true)],args:=ds})
 (law: ∀as,ArgsOf L as→bkL as≤B→(lim M XE).call f as []=some (.bool true,[]))
 (W:World) (hG:Γ W.heap.size fun k=>W.heap[k]?) (base:Nat) (args:Array Value) (ds gs:List (DataW H)) (before:List MemPlace) (hB:ua (ds++gs)≤B)
 (hval: ∀(j:Nat) t v,fn.params[j]? =some t→args[j]? =some v→Value.okWide P W .any base t v)
 (hW:DataW.Whole enc P fn.params.toList s.vars false W args.toList ds gs before):
 Calls P f args W fun e W'=> ∃v,e= .returned v∧s.post enc P fn false true false false W args v W':=by
 have hW':=hW
 obtain⟨p,q,hA,hV,rfl,hfz,-⟩:=hW
 rw[hvars]at hV
 obtain⟨rfl,rfl⟩:=trodVars_none hV
 simp only[List.append_nil]at hB
 obtain⟨as,a1,a2,a3,a5,a4⟩:=args_open (β:=fun _=>(0,0)) hu _ _ _ _ _ base hL (fun j t v h1 h2=>hval j t v (by simpa using h1) (by simpa using h2)) hA
 obtain⟨-,-,hc⟩:=lim_ok hM hX (law as a1 (Nat.le_trans a5 hB))
 have hsz:args.size=as.length:=by simpa using a2
 have hX0: ∀c,¬XX noX (fun _ _=>False) c:=fun c hc=>hc.elim (fun h=>h) fun⟨_,h⟩=>h
 have kp:=(Kp.refl W.heap.size W noX).shrink (X2:=XX noX fun _ _=>False) fun c hc=>(hX0 c hc).elim
 have g:GR (⟨W.heap.size,fun k=>W.heap[k]?,hG⟩:Base Γ) W noX (fun _=>(0,0)) (fun _ _=>False) (fun k=>args.getD k undef) (enter as []).env (enter as []).heap undef .undef:={
  inv:={apart:=fun _ _ _ h=>h.elim,apartF:=fun _ _ h=>h.elim,live:=fun c hc=>(hX0 c hc).elim,low:=fun c hc=>(hX0 c hc).elim,base:=Nat.le_refl _,glob:=fun _ _=>rfl}
  slot:=fun k=>by
   simp only[enter,get_enter]
   rcases Nat.lt_or_ge k as.length with hk|hk
   ·obtain⟨e1,e2,-⟩:=a4 k (by simpa using(by omega:k<args.size)) hk
    rw[List.getD_eq_getElem?_getD,zge hk,Array.getD_eq_getD_getElem?,Array.getElem?_eq_getElem (by omega)]
    simp only[Array.getElem_toList]at e1
    exact⟨e1.mono kp,.of e2⟩
   ·rw[List.getD_eq_getElem?_getD,List.getElem?_eq_none hk]
    exact⟨.undef _,.of rfl⟩
  val:=⟨.undef _,.of rfl⟩
  obj:=fun nm ob hob=>by simp[enter,hget]at hob
  refE:=fun k r hr=>by
   simp only[enter,get_enter]at hr
   rcases Nat.lt_or_ge k as.length with hk|hk
   ·obtain⟨-,-,e3⟩:=a4 k (by omega) hk
    rw[List.getD_eq_getElem?_getD,zge hk]at hr
    simp only[Option.getD_some,e3]at hr
    cases hr
   ·rw[List.getD_eq_getElem?_getD,List.getElem?_eq_none hk]at hr
    cases hr
  refV:=by simp
  refH:=fun nm ob hob=>by simp[enter,hget]at hob}
 refine(hc _ W noX _ _ args g hsz).mono ?_
 rintro e W' ⟨v,Ow',_,rfl,-,gr,-,k,-⟩
 have hv:=gr.val.1.toBool
 subst hv
 have bel:RowKit.Below W.heap.size W W':=⟨k.os,k.tape,k.output,k.size,k.blk⟩
 have hlt:=DataW.TrodAll.lt hA
 have hdl:ds.length=L.length:=by
  have: ∀(L:List (List TC×Bool)) (as:List AV),ArgsOf L as→L.length=as.length:=by
   intro L
   induction L with
   |nil=>intro as h;cases as with
    |nil=>rfl
    |cons=>exact h.elim
   |cons p L ih=>intro as h;cases as with
    |nil=>exact h.elim
    |cons a as=>simp[ih as h.2]
  rw[a3,this L as a1]
 have hfn:=hs (ds++[]) (by simpa using hdl)
 refine⟨_,rfl,ds,[],p++[],[],p,[],hW',?_,?_,?_,bel.frame _,fun h=>by cases h⟩
 ·rw[hfn,hres]
  exact trodAll_mk1 (RowKit.shut_bool htb _)
 ·rw[hfn]
  simp only[List.append_nil]
  exact trodAll_below hl bel _ _ _ _ hrd hlt hA
 ·rw[hfn,hvars]
  rfl
theorem contract_true {M:Prog}{XE:Nat→List AV→Option (AV×List Obj)}(hM: ∀f G,M f=some G→okFunc P f G=true)(hX:ExtOK noG P M XE){f:FuncId}{fn:Func}{s:ChangeSpec}{n:Nat}{L:List (List TC×Bool)}{tb:TypeId}
 (hl:laidOutB P=true) (hvars:s.vars=[]) (hres:fn.resultTypes= #[tb]) (htb:P.underlying tb=some .bool) (hrd:(fn.params.toList.all fun t=>P.readableRec t&&Nat.blt t P.types.size)=true)
 (hL:tcsAll P n fn.params.toList=some L) (hs: ∀(ds:List (DataW H)),ds.length=L.length→s.fn H ds={results:=[.lit (.bool true)],args:=ds})
 (law: ∀as,ArgsOf L as→(lim M XE).call f as []=some (.bool true,[]))
 (W:World) (base:Nat) (args:Array Value) (ds gs:List (DataW H)) (before:List MemPlace)
 (hval: ∀(j:Nat) t v,fn.params[j]? =some t→args[j]? =some v→Value.okWide P W .any base t v)
 (hW:DataW.Whole enc P fn.params.toList s.vars false W args.toList ds gs before):
 Calls P f args W fun e W'=> ∃v,e= .returned v∧s.post enc P fn false true false false W args v W':=
 contract_trueG bulk_ud hM hX hl hvars hres htb hrd hL hs (fun as h _=>law as h) W trivial base args ds gs before (Nat.le_refl _) hval hW
end
def lookF :List (Nat×MFunc)→Prog
 | [],_=>none
 |(j,F)::r,k=>match Nat.beq j k with
  |true=>some F
  |false=>lookF r k
inductive OkAll (P:Program):List (Nat×MFunc)→Prop
 |nil:OkAll P []
 |cons {f:Nat} {G:MFunc} {r:List (Nat×MFunc)} (h:okFunc P f G=true) (t:OkAll P r):OkAll P ((f,G)::r)
theorem lookF_ok {P:Program}{l:List (Nat×MFunc)}(h:OkAll P l): ∀f G,lookF l f=some G→okFunc P f G=true:=by
 induction h with
 |nil=>intro f G h;cases h
 |cons h t ih=>
  intro f G hf
  simp only[lookF]at hf
  split at hf
  ·rename_i hb
   have:=Nat.eq_of_beq_eq_true hb
   subst this
   injection hf with hf
   subst hf
   exact h
  ·exact ih f G hf
abbrev IN (n:Int):Prop:= -9223372036854775808≤n∧n≤9223372036854775807
def apg {α:Type}(g:Gr)(e:Nat):List α→Gr
 | []=>g
 |_=>.own e
@[simp] theorem apg_nil {α:Type}(g:Gr)(e:Nat):apg g e ([]:List α)=g:=rfl
@[simp] theorem apg_cons {α:Type}(g:Gr)(e:Nat)(x:α)(l:List α):apg g e (x::l)= .own e:=rfl
@[simp] theorem apg_own {α:Type}(e:Nat)(l:List α):apg (.own e) e l= .own e:=by cases l<;>rfl
@[simp] theorem mayApp_own (e:Nat)(xs:List AV):mayApp e (.own e) xs=true:=by simp
@[simp] theorem Gr.cp_cp (g:Gr):g.cp.cp=g.cp:=by cases g<;>rfl
theorem list_dec {α:Type}(f:α→AV)(Ok:α→Prop){es:List TC}{ag:Bool}(h: ∀cs,wfcs es cs→∃y,mkE ag cs=f y∧Ok y){xs:List AV}(hx: ∀x∈xs,∃cs,wfcs es cs∧x=mkE ag cs):
 ∃l:List α,xs=l.map f∧∀y∈l,Ok y:=by
 induction xs with
 |nil=>exact⟨[],rfl,by simp⟩
 |cons x xs ih=>
  obtain⟨cs,c1,rfl⟩:=hx x (by simp)
  obtain⟨y,y1,y2⟩:=h cs c1
  obtain⟨l,rfl,l2⟩:=ih fun z hz=>hx z (List.mem_cons_of_mem _ hz)
  exact⟨y::l,by rw[List.map_cons,y1],fun z hz=>(List.mem_cons.1 hz).elim (fun e=>e▸y2) (l2 z)⟩
theorem wfcs_cons {t:TC}{ts:List TC}{cs:List AV}(h:wfcs (t::ts) cs): ∃a r,cs=a::r∧wfc t a∧wfcs ts r:=by
 cases cs with
 |nil=>exact h.elim
 |cons a r=>exact⟨a,r,rfl,h.1,h.2⟩
theorem wfcs_nil {cs:List AV}(h:wfcs [] cs):cs=[]:=by
 cases cs with
 |nil=>rfl
 |cons a r=>exact h.elim
theorem wfc_i64 {a:AV}(h:wfc (.i .i64) a): ∃n,a= .int .i64 n∧IN n:=h
theorem wfc_s {a:AV}(h:wfc .s a): ∃l,a= .str l∧l.length≤9223372036854775807:=h
theorem wfc_l {es:List TC}{ag:Bool}{a:AV}(h:wfc (.l es ag) a): ∃xs,a= .lst .no xs∧xs.length≤9223372036854775807∧∀x∈xs,∃cs,wfcs es cs∧x=mkE ag cs:=h
theorem wfcs_one {t:TC}{cs:List AV}(h:wfcs [t] cs):wfc t (mkE false cs):=by
 obtain⟨a,r,rfl,h1,h2⟩:=wfcs_cons h
 exact h1
theorem wfc_list {α:Type}(f:α→AV)(Ok:α→Prop){es:List TC}{ag:Bool}(h: ∀cs,wfcs es cs→∃y,mkE ag cs=f y∧Ok y){a:AV}(hl:wfc (.l es ag) a):
 ∃l:List α,a= .lst .no (l.map f)∧(∀y∈l,Ok y)∧l.length≤9223372036854775807:=by
 obtain⟨xs,rfl,h1,h2⟩:=wfc_l hl
 obtain⟨l,rfl,h3⟩:=list_dec f Ok h h2
 exact⟨l,rfl,h3,by simpa using h1⟩
def isClone (P:Program)(f:Nat)(e:Nat)(ag:Bool)(zero:List AV):Bool:=
 match P.funcs[f]? with
 |some fn=> !(fn.name== "runtime.NumGoroutine")&&Nat.ble 1 fn.ntmps&&okRess P fn.results.toList [.t 2]&&(match fn.body with
  |some (.seq (.region _ ops0 false) (.seq (.seq (.region _ ops1 false) (.cond (.tmp 4) c2 .skip)) c3))=>
   okItems P fn.ntmps ops0 ops0.toList [.s 2 (.mv (.c (.lst .full [])))]&&
   (match ops1.toList with
    | [o1,o2]=>okItem P fn.ntmps ops1 o1 (.s 3 (.mv (.t 0)))&&o2.dst==some 4&&Nat.blt 4 fn.ntmps&&o2.guard.isNone&&
      (match o2.op with| .binOp .eql t (.tmp 3) (.const (.slice none 0 0)) ty=>(sliceT P t).isSome|_=>false)
    |_=>false)&&
   okCode P fn.ntmps c2 (.seq (.reg [.s 2 (.mv (.c (.lst .full [])))] []) .ret)&&
   okCode P fn.ntmps c3 (.seq (.reg [.s 5 (.lit e ag zero 0 []),.s 6 (.mv (.t 0)),.s 7 (.app e ag (.x 5) (.t 6)),.s 2 (.mv (.x 7))] []) .ret)
  |_=>false)
 |none=>false
section
variable {P:Program} {Γ:Glob} {N0:Base Γ} {m n:Nat} {w w':World} {F X:Cell→Prop} {β:Nat→Cell} {Ow:Key→Cell→Prop} {env env':Env} {h h':Heap} {v:Value} {a0:AV} {a:Act} {o:Oper}
def cloneF (e:Nat)(ag:Bool):MFunc:={nargs:=1,ntmps:=8,res:=[.t 2],body:=.skip}
theorem eqs {t et:TypeId}(ht:P.underlying t=some (.slice et))(d:Nat)(A:Option Addr)(len cap:Nat):(Op.equalIn (d+1) t (.slice A len cap) (.slice none 0 0)).run P w= .ok A.isNone w:=by
 cases A<;>simp[Op.equalIn,run_underlying ht]
theorem run_nilCmp {t ty et:TypeId}{x:Operand}{A:Option Addr}{len cap:Nat}(ht:P.underlying t=some (.slice et))(hop:o.op= .binOp .eql t x (.const (.slice none 0 0)) ty)(hx:a.eval x= .slice A len cap):
 (execOp a.eval o).run P w= .ok (.value (.bool A.isNone)) w:=by
 have ey:a.eval (.const (.slice none 0 0))= .slice none 0 0:=rfl
 have hg:(eqGuard .eql t x (.const (.slice none 0 0)) (.slice A len cap) (.slice none 0 0)).run P w= .ok () w:=run_guard_other .eql t x _ _ _ (by simp) (by simp)
 have he:(Op.equal t (.slice A len cap) (.slice none 0 0)).run P w= .ok A.isNone w:=eqs ht 9999 A len cap
 have hb:binOp .eql t (.slice A len cap) (.slice none 0 0)=(do pure (.bool (←Op.equal t (.slice A len cap) (.slice none 0 0)))):=rfl
 simp only[execOp,hop,Sem.run_bind,hx,ey,hg,Result.andThen_ok,hb,he,Sem.run_pure]
theorem clone_ok {f e:Nat}{ag:Bool}{zero:List AV}(hk:isClone P f e ag zero=true){g:Gr}{xs:List AV}(hel:okElems e ag xs=true)(hl:xs.length≤lenMax):Call1 Γ P f [.lst g xs] [] (.lst .no xs) []:=by
 unfold isClone at hk
 split at hk
 case h_2=>cases hk
 rename_i fn hfn
 simp only[zba,Bool.not_eq_true',Nat.ble_eq]at hk
 obtain⟨⟨⟨k1,k2⟩,k3⟩,k4⟩:=hk
 split at k4
 case h_2=>cases k4
 rename_i id0 ops0 id1 ops1 c2 c3 hbody
 simp only[zba]at k4
 obtain⟨⟨⟨b0,b1⟩,b2⟩,b3⟩:=k4
 split at b1
 case h_2=>cases b1
 rename_i o1 o2 hops1
 simp only[zba,beq_iff_eq]at b1
 obtain⟨⟨⟨⟨b11,b12⟩,b13⟩,b14⟩,b15⟩:=b1
 split at b15
 case h_2=>cases b15
 rename_i t ty hop2
 obtain⟨et,het⟩:=Option.isSome_iff_exists.1 b15
 have het:=sliceT_spec het
 refine⟨Nat.le_refl _,⟨fn,hfn,k1,by rw[hbody];rfl⟩,?_⟩
 intro N0 w F β Ow args' g0 hsz
 have hC: ∀k,k≤0→CallOK Γ P (runs (fun _=>none) (fun _ _=>none) k).call:=fun k hk=>all_ok (M:=fun _=>none) (XE:=fun _ _=>none) (fun _ _ h=>by cases h) (fun _ _ _ _ _ h=>by cases h) 0 k hk
 refine calls_of_wp hfn hbody ?_
 have hsl:slots {tmps:=args'++Array.replicate (fn.ntmps-args'.size) undef,defers:=[]}=fun k=>args'.getD k undef:=by
  funext k
  simp only[slots,Array.getD_eq_getD_getElem?]
  rcases Nat.lt_or_ge k args'.size with hlt|hge
  ·rw[Array.getElem?_append_left hlt]
  ·rw[Array.getElem?_append_right hge,Array.getElem?_eq_none hge,Array.getElem?_replicate]
   split<;>rfl
 have ha0:ActOk fn.ntmps {tmps:=args'++Array.replicate (fn.ntmps-args'.size) undef,defers:=[]}:=⟨by simp at hsz ⊢;omega,rfl⟩
 rw[←hsl]at g0
 have hm0: ∀k,k<0→(hget (enter [AV.lst g xs] []).heap k).isSome=true:=fun k hk=>absurd hk (Nat.not_lt_zero k)
 refine wp_seq (code_wp (M:=fun _=>none) (XE:=fun _ _=>none) (m:=0) (Nat.zero_le _) _ (.reg [.s 2 (.mv (.c (.lst .full [])))] []) (by simpa [okCode]using b0) 0 hC (s:=enter [.lst g xs] []) g0 ha0 hm0 rfl ?_)
 intro a1 w1 β1 O1 x1
 refine wp_seq (wp_seq (wp_region_list ?_))
 rw[hops1]
 refine wpList_step fun K hK=> ?_
 refine item_wp (m:=0) (Nat.zero_le _) (R:=fun _ _ _=>none) (fun _ _ _ _ _ h=>by cases h) x1.gr x1.act (fun k hk=>absurd hk (Nat.not_lt_zero k)) b11 rfl fun a2 w2 β2 O2 x2=>hK _ _ ?_
 have x2:=x1.trans x2
 refine wpList_step fun K hK=> ?_
 have hg2:o2.guard=none:=by simpa using b14
 rw[if_pos (by simp[Region.wanted,hg2])]
 have hv3:=(x2.gr.slot 3).1
 have hv3':VRel w2 (XX F O2) β2 (a2.eval (.tmp 3)) (.lst g.cp xs):=hv3
 obtain⟨A,len,cap,hev,hnil⟩: ∃A len cap,a2.eval (.tmp 3)= .slice A len cap∧(A=none→xs=[]):=by
  generalize a2.eval (.tmp 3)=z at hv3'
  cases hv3' with
  |lst0 A cap g hg=>exact⟨A,0,cap,rfl,fun _=>rfl⟩
  |lst b o e cap g xs val hc hg hx hv h=>exact⟨_,_,_,rfl,fun h=>by cases h⟩
 unfold Oper.wp
 rw[run_nilCmp het hop2 hev]
 refine hK _ _ ?_
 have g3:=x2.gr.pend (v':=.bool A.isNone) (a':=.bool A.isNone) (.bool _) (.of rfl) (by simp)
 obtain⟨O3,g4,a4,x4⟩:=g3.done x2.act o2.dst (fun k hk=>by rw[b12]at hk;injection hk with hk;subst hk;exact Nat.le_of_ble_eq_true b13)
 rw[b12]at g4 a4 ⊢
 generalize hA:A.isNone=bb at g4 a4 ⊢
 let sB:St:=⟨(4,.bool bb)::(3,.lst g.cp xs)::(2,.lst .full [])::(enter [AV.lst g xs] []).env,[]⟩
 have c4:Come N0 F 0 fn.ntmps w β Ow sB _ _ β2 O3:=⟨a4,g4,x2.kp.shrink fun c hc=>XX_drop (x4 c hc),x2.ff,x2.at_,fun k hk=>absurd hk (Nat.not_lt_zero k)⟩
 refine wpList_nil ?_
 show(Code.cond (.tmp 4) c2 .skip).wp P _ _ _
 have hkc:okCode P fn.ntmps (.cond (.tmp 4) c2 .skip) (.cond (.t 4) (.seq (.reg [.s 2 (.mv (.c (.lst .full [])))] []) .ret) .skip)=true:=by
  simp only[okCode,zba]at b2 ⊢
  exact⟨⟨by simp[okT],b2⟩,trivial⟩
 cases bb with
 |true=>
  have hx0:xs=[]:=hnil (by simpa using hA)
  refine code_wp (M:=fun _=>none) (XE:=fun _ _=>none) (m:=0) (Nat.zero_le _) _ _ hkc 0 hC (s:=sB) (e:=.ret) c4.gr c4.act c4.has rfl fun a' w' β' Ow' hc=> ?_
  have:=(fin_ok (G:=cloneF e ag) (n0:=0) k3 (res:=.lst .no []) (hout:=[]) rfl).2 N0 fn.ntmps F w β Ow a' w' β' Ow' (c4.trans hc)
  rw[hx0]
  exact this
 |false=>
  refine code_wp (M:=fun _=>none) (XE:=fun _ _=>none) (m:=0) (Nat.zero_le _) _ _ hkc 0 hC (s:=sB) (e:=.norm) c4.gr c4.act c4.has rfl fun a' w' β' Ow' hc=> ?_
  have hc:=c4.trans hc
  have ho: ∀(R:CallF) (r:List MI) (env:Env),get env 5= .lst .full []→get env 6= .lst g.cp xs→runOps R (.s 7 (.app e ag (.x 5) (.t 6))::r) ⟨env,[]⟩=runOps R r ⟨(7,.lst (.own e) xs)::(5,.lst .full [])::env,[]⟩:=by
   intro R r env h5 h6
   have:okElems e ag xs=true:=hel
   simp only[runOps,stepI,MI.s,wanted,opv,evo,evoE,h5,h6,AV.cp,Gr.cp,srcElems,zbs,mayApp,headE,hel,List.length_nil,Nat.zero_add,hl,and_self,if_true,List.nil_append,Option.map_some,putD]
  let sD:St:=⟨(2,.lst (.own e) xs)::(7,.lst .no xs)::(7,.lst (.own e) xs)::(5,.lst .full [])::(6,.lst g.cp xs)::(5,.lst .full [])::sB.env,[]⟩
  have hD:step (runs (fun _=>none) (fun _ _=>none) 0) (.seq (.reg [.s 5 (.lit e ag zero 0 []),.s 6 (.mv (.t 0)),.s 7 (.app e ag (.x 5) (.t 6)),.s 2 (.mv (.x 7))] []) .ret) sB=some (.ret,sD):=by
   have h1:runOps (runs (fun _=>none) (fun _ _=>none) 0).call [.s 5 (.lit e ag zero 0 []),.s 6 (.mv (.t 0)),.s 7 (.app e ag (.x 5) (.t 6)),.s 2 (.mv (.x 7))] sB=some sD:=by
    have h2:runOps (runs (fun _=>none) (fun _ _=>none) 0).call [.s 5 (.lit e ag zero 0 []),.s 6 (.mv (.t 0)),.s 7 (.app e ag (.x 5) (.t 6)),.s 2 (.mv (.x 7))] sB=
     runOps (runs (fun _=>none) (fun _ _=>none) 0).call [.s 7 (.app e ag (.x 5) (.t 6)),.s 2 (.mv (.x 7))] ⟨(6,.lst g.cp xs)::(5,.lst .full [])::sB.env,[]⟩:=rfl
    rw[h2,ho _ _ _ rfl rfl]
    rfl
   simp only[step,h1,zbs]
   rfl
  have hF:finish (cloneF e ag) 0 sD=some (.lst .no xs,[]):=rfl
  exact code_wp (M:=fun _=>none) (XE:=fun _ _=>none) (m:=0) (Nat.zero_le _) _ _ b3 0 hC (s:=sB) (e:=.ret) hc.gr hc.act hc.has hD fun a2 w2 β3 O5 hc2=>
   (fin_ok (G:=cloneF e ag) (n0:=0) k3 hF).2 N0 fn.ntmps F w β Ow a2 w2 β3 O5 (hc.trans hc2)
end
def cloneX (L:List (Nat×Nat×Bool)):Nat→List AV→Option (AV×List Obj)
 |f,[.lst _ xs]=>match L.find? (fun p=>Nat.beq p.1 f)with
  |some p=>if okElems p.2.1 p.2.2 xs&&Nat.ble xs.length lenMax then some (.lst .no xs,[])else none
  |none=>none
 |_,_=>none
theorem cloneX_ok {Γ:Glob}{P:Program}{M:Prog}{L:List (Nat×Nat×Bool)}{Z:List (List AV)}(h:(List.zip L Z).all (fun p=>isClone P p.1.1 p.1.2.1 p.1.2.2 p.2)=true)(hl:L.length=Z.length):ExtOK Γ P M (cloneX L):=by
 intro f args v o _ hx
 unfold cloneX at hx
 split at hx
 ·rename_i g xs
  split at hx
  ·rename_i p hp
   split at hx
   ·rename_i hc
    simp only[zsi,zpi]at hx
    obtain⟨rfl,rfl⟩:=hx
    simp only[zba,Nat.ble_eq]at hc
    have hmem:=List.mem_of_find?_eq_some hp
    have hf:p.1=f:=by simpa using List.find?_some hp
    obtain⟨i,hi,rfl⟩:=List.getElem_of_mem hmem
    have:=List.all_eq_true.1 h (L[i],Z[i]'(by omega)) (by
     rw[List.mem_iff_getElem]
     exact⟨i,by simp;omega,by simp⟩)
    simp only at this
    rw[←hf]
    exact clone_ok this hc.1 hc.2
   ·cases hx
  ·cases hx
 ·cases hx
@[irreducible] def wr (n:Int):Int:=IntKind.wrap .i64 n
@[irreducible] def w8 (n:Int):Int:=IntKind.wrap .u8 n
theorem wr_eq {n:Int}(h: -9223372036854775808≤n∧n≤9223372036854775807):wr n=n:=by unfold wr;exact wrap64 h
@[irreducible] def kL {β:Type}(xs:List AV)(k:List AV→Option β):Option β:=k xs
theorem kL_eq {β:Type}(xs:List AV)(k:List AV→Option β):kL xs k=k xs:=by unfold kL;rfl
@[irreducible] def kI {β:Type}(n:Int)(k:Int→Option β):Option β:=k n
theorem kI_eq {β:Type}(n:Int)(k:Int→Option β):kI n k=k n:=by unfold kI;rfl
@[irreducible] def kN {β:Type}(n:Nat)(k:Nat→Option β):Option β:=k n
theorem kN_eq {β:Type}(n:Nat)(k:Nat→Option β):kN n k=k n:=by unfold kN;rfl
@[irreducible] def kS {α β:Type}(a:α)(k:α→Option β):Option β:=k a
theorem kS_eq {α β:Type}(a:α)(k:α→Option β):kS a k=k a:=by unfold kS;rfl
structure Stp where
 wr:Int→Int
 w8:Int→Int
 kL:{β:Type}→List AV→(List AV→Option β)→Option β
 kI:{β:Type}→Int→(Int→Option β)→Option β
 kN:{β:Type}→Nat→(Nat→Option β)→Option β
 kS:{α β:Type}→α→(α→Option β)→Option β
 kR:{β:Type}→Heap→Nat→List Nat→List Nat→(List Nat→Option β)→Option β
def kR {β:Type}(h:Heap)(n:Nat)(todo seen:List Nat)(k:List Nat→Option β):Option β:=(reach h n todo seen).bind k
def stp :Stp:=⟨wr,w8,kL,kI,kN,kS,kR⟩
@[simp] def fnl {β:Type}:List Nat→(List Nat→Option β)→Option β
  | [],k=>k []
  |a::r,k=>fnl r fun s=>k (a::s)
theorem fnl_eq {β:Type}(l:List Nat): ∀k:List Nat→Option β,fnl l k=k l:=by
 induction l with
 |nil=>intro k;rfl
 |cons a r ih=>intro k;simp only[fnl,ih]
def reachJ {β:Type}(S:Stp)(h:Heap)(n:Nat)(todo seen:List Nat)(k:List Nat→Option β):Option β:=
 match todo with
 | []=>k seen.reverse
 |o::todo=>match n with
  |0=>none
  |n+1=>match seen.contains o with
   |true=>S.kR h n todo seen k
   |false=>match hget h o with
    |none=>none
    |some ob=>fnl (ob.cells.flatMap refs2) fun rs=>S.kR h n (todo++rs) (o::seen) k
theorem reachJ_eq {β:Type}(h:Heap)(n:Nat)(todo seen:List Nat)(k:List Nat→Option β):reachJ stp h n todo seen k=(reach h n todo seen).bind k:=by
 unfold reachJ
 cases todo with
 |nil=>cases n<;>rfl
 |cons o todo=>
  cases n with
  |zero=>rfl
  |succ n=>
   simp only[reach,stp,kR]
   cases seen.contains o with
   |true=>simp only[if_true]
   |false=>
    simp only[Bool.false_eq_true,if_false]
    cases hget h o with
    |none=>rfl
    |some ob=>simp only[fnl_eq]
noncomputable def hinJ {β:Type}(f:Nat→Nat)(h:Heap)(l:List Nat):(List Obj→Option β)→Option β:=
 @List.rec Nat (fun _=>(List Obj→Option β)→Option β) (fun k=>k []) (fun o _ ih k=>match hget h o with
  |some ⟨w,cs⟩=>fl (cs.map (ren2 f)) fun cs=>ih fun l=>k (⟨w,cs⟩::l)
  |none=>none) l
@[simp] theorem hinJ_cons {β:Type}(f:Nat→Nat)(h:Heap)(o:Nat)(r:List Nat)(k:List Obj→Option β):hinJ f h (o::r) k=match hget h o with
   |some ⟨w,cs⟩=>fl (cs.map (ren2 f)) fun cs=>hinJ f h r fun l=>k (⟨w,cs⟩::l)
   |none=>none:=rfl
theorem hinJ_eq {β:Type}(f:Nat→Nat)(h:Heap)(ns:List Nat): ∀k:List Obj→Option β,hinJ f h ns k=(ns.mapM fun o=>(hget h o).map fun ob=>{ob with cells:=ob.cells.map (ren2 f)}).bind k:=by
 induction ns with
 |nil=>intro k;rfl
 |cons o r ih=>
  intro k
  simp only[hinJ_cons,List.mapM_cons,Option.bind_eq_bind,Option.bind_assoc,Option.pure_def]
  cases hget h o with
  |none=>rfl
  |some ob=>simp only[fl_eq,ih,Option.map_some,zbs]
@[simp] def tcellJ {β:Type}(h:Heap)(v:AV)(k:AV→Option β):Option β:=
  match v with
  | .lst _ xs=>k (.lst .no xs)
  | .arr o off len e ag=>match hget h o with
    |some ob=>kO (elems ob.cells off len e ag) fun xs=>k (.lst .no xs)
    |none=>none
  | .bool b=>k (.bool b)
  | .int i n=>k (.int i n)
  | .str s=>k (.str s)
  |_=>none
theorem tcellJ_eq {β:Type}(h:Heap)(v:AV)(k:AV→Option β):tcellJ h v k=(tcell h v).bind k:=by
 cases v<;>try rfl
 simp only[tcellJ,tcell,kO_bind]
 rename_i o off len e ag
 cases hget h o with
 |none=>rfl
 |some ob=>simp only[zbs];cases elems ob.cells off len e ag<;>rfl
noncomputable def tcellsJ {β:Type}(h:Heap)(l:List AV):(List AV→Option β)→Option β:=
 @List.rec AV (fun _=>(List AV→Option β)→Option β) (fun k=>k []) (fun a _ ih k=>tcellJ h a fun b=>ih fun s=>k (b::s)) l
@[simp] theorem tcellsJ_cons {β:Type}(h:Heap)(a:AV)(r:List AV)(k:List AV→Option β):tcellsJ h (a::r) k=tcellJ h a fun b=>tcellsJ h r fun s=>k (b::s):=rfl
theorem tcellsJ_eq {β:Type}(h:Heap)(l:List AV): ∀k:List AV→Option β,tcellsJ h l k=(tcells h l).bind k:=by
 induction l with
 |nil=>intro k;rfl
 |cons a r ih=>intro k;simp only[tcellsJ_cons,tcellJ_eq,ih,tcells,Option.bind_assoc,zbs]
@[simp] noncomputable def treeJ {β:Type}(h:Heap)(v:AV)(k:AV→Option β):Option β:=
  match v with
  | .agg cs=>tcellsJ h cs fun ds=>k (.agg ds)
  |v=>tcellJ h v k
theorem treeJ_eq {β:Type}(h:Heap)(v:AV)(k:AV→Option β):treeJ h v k=(tree h v).bind k:=by
 cases v with
 |agg cs=>simp only[treeJ,tree,tcellsJ_eq];cases tcells h cs<;>rfl
 |_=>simp only[treeJ,tree,tcellJ_eq]
noncomputable def treesJ {β:Type}(h:Heap)(l:List AV):(List AV→Option β)→Option β:=
 @List.rec AV (fun _=>(List AV→Option β)→Option β) (fun k=>k []) (fun a _ ih k=>treeJ h a fun b=>ih fun s=>k (b::s)) l
@[simp] theorem treesJ_cons {β:Type}(h:Heap)(a:AV)(r:List AV)(k:List AV→Option β):treesJ h (a::r) k=treeJ h a fun b=>treesJ h r fun s=>k (b::s):=rfl
theorem treesJ_eq {β:Type}(h:Heap)(l:List AV)(k:List AV→Option β):treesJ h l k=treesK h l k:=by
 induction l generalizing k with
 |nil=>rfl
 |cons a r ih=>simp only[treesJ_cons,treesK,treeJ_eq,kO_bind,ih]
noncomputable def treeTJ {β:Type}(h:Heap)(v:AV)(k:AV→Option β):Option β:=
 match v with
 | .tup vs=>treesJ h vs fun rs=>k (.tup rs)
 |v=>treeJ h v k
theorem treeTJ_eq {β:Type}(h:Heap)(v:AV)(k:AV→Option β):treeTJ h v k=treeTK h v k:=by
 cases v<;>simp only[treeTJ,treeTK,treesJ_eq,treeJ_eq,kO_bind]
noncomputable def callJ {β:Type}(S:Stp)(R:CallF)(h:Heap)(f:Nat)(m:CArg)(args:List AV)(k:AV→Heap→Option β):Option β:=
 match m with
 | .data=>treesJ [] args fun as=>kO (R f as []) fun p=>match p.2 with
   | []=>fv p.1 fun v=>k v h
   |_::_=>treeTJ (hp p.2) p.1 fun v=>k v h
 | .tree=>treesJ h args fun as=>kO (R f as []) fun p=>match p.2 with
   | []=>fv p.1 fun v=>match hasLst v with
     |true=>match args.flatMap arrs with
      | []=>k v h
      |ns=>k v (freeze h ns)
     |false=>k v h
   |_::_=>treeTJ (hp p.2) p.1 fun v=>match hasLst v with
    |true=>match args.flatMap arrs with
     | []=>k v h
     |ns=>k v (freeze h ns)
    |false=>k v h
 | .ref base=>
   reachJ S h 64 (args.flatMap refs) [] fun ns=>S.kS ns fun ns=>hinJ (idx ns) h ns fun hin=>S.kS hin fun hin=>
   fvs (args.map (ren (idx ns))) fun as=>S.kS as fun as=>kO (R f as hin) fun p=>
    S.kS (names ns base p.2.length) fun nm=>match Nat.ble ns.length p.2.length&&(nm.drop ns.length).all (fun k=>(hget h k).isNone)with
    |true=>fv (ren (fun i=>nm.getD i 0) p.1) fun v=>putsK (fun i=>nm.getD i 0) h (nm.zip p.2) fun h'=>S.kS h' fun h'=>k v h'
    |false=>none
theorem callJ_eq {β:Type}(R:CallF)(h:Heap)(f:Nat)(m:CArg)(args:List AV)(k:AV→Heap→Option β):callJ stp R h f m args k=(callR R h f m args).bind fun p=>k p.1 p.2:=by
 rw[←callK_eq]
 cases m with
 |data=>
  simp only[callJ,callK,treesJ_eq]
  congr 1;funext as;congr 1;funext p
  obtain⟨v,o⟩:=p
  cases o<;>simp only[treeTJ_eq]
 |tree=>
  simp only[callJ,callK,treesJ_eq]
  congr 1;funext as;congr 1;funext p
  obtain⟨v,o⟩:=p
  cases o<;>simp only[treeTJ_eq]<;>rfl
 |ref base=>
  simp only[callJ,callK,reachJ_eq]
  simp only[hinJ_eq,fvs_eq,stp,kS_eq,kO_bind];rfl
@[simp] noncomputable def binJ {β:Type}(S:Stp)(op:BinOp)(x y:AV)(k:AV→Option β):Option β:=
  match op,x,y with
  | .add,.int .i64 a,.int .i64 b=>k (.int .i64 (S.wr (a+b)))
  | .sub,.int .i64 a,.int .i64 b=>k (.int .i64 (S.wr (a-b)))
  | .mul,.int .i64 a,.int .i64 b=>k (.int .i64 (S.wr (a*b)))
  | .shl,.int i a,.int _ b=>kB (decide (b<0)) none (k (.int i (i.wrap (a*2^min b.toNat i.bits))))
  | .shr,.int i a,.int _ b=>kB (decide (b<0)) none (k (.int i (a.fdiv (2^min b.toNat i.bits))))
  | .quo,.int .i64 a,.int .i64 b=>kB (decide (b=0)) none (k (.int .i64 (S.wr (a.tdiv b))))
  | .rem,.int .i64 a,.int .i64 b=>kB (decide (b=0)) none (k (.int .i64 (a.tmod b)))
  | .add,.str a,.str b=>kB (decide (a.length+b.length≤9223372036854775807)) (k (.str (a++b))) none
  |op,x,y=>kO (binV op x y) fun v=>fv v k
theorem binJ_eq {β:Type}(op:BinOp)(x y:AV)(k:AV→Option β):binJ stp op x y k=(binV op x y).bind k:=by
 unfold binJ
 split
 ·simp only[binV,if_true,zbs,stp,wr]
 ·simp only[binV,if_true,zbs,stp,wr]
 ·simp only[binV,if_true,zbs,stp,wr]
 ·rename_i i a j b;simp only[binV];by_cases hb:b<0<;>simp[hb,kB]
 ·rename_i i a j b;simp only[binV];by_cases hb:b<0<;>simp[hb,kB]
 ·rename_i a b;simp only[binV,if_true,stp,wr];by_cases hb:b=0<;>simp[hb,kB]
 ·rename_i a b;simp only[binV,if_true];by_cases hb:b=0<;>simp[hb,kB]
 ·rename_i a b;simp only[binV];by_cases hl:a.length+b.length≤9223372036854775807<;>simp[hl,kB]
 ·rw[kO_bind];congr 1;funext v;exact fv_eq v k
@[simp] noncomputable def toJ {β:Type}(S:Stp)(i:IntKind)(n:Int)(k:Int→Option β):Option β:=
  match i with
  | .i64=>k (S.wr n)
  | .u8=>k (S.w8 n)
  |i=>k (i.wrap n)
theorem toJ_eq {β:Type}(i:IntKind)(n:Int)(k:Int→Option β):toJ stp i n k=k (i.wrap n):=by
 cases i<;>simp only[toJ,stp,wr,w8]
@[simp] def killJ {β:Type}(o:Nat):Env→(Env→Option β)→Option β
  | [],k=>k []
  |(j,v)::r,k=>match(refs v).contains o with
   |true=>killJ o r fun r=>k ((j,.undef)::r)
   |false=>killJ o r fun r=>k ((j,v)::r)
theorem killJ_eq {β:Type}(o:Nat)(env:Env): ∀k:Env→Option β,killJ o env k=k (killE o env):=by
 induction env with
 |nil=>intro k;rfl
 |cons p r ih=>
  intro k
  obtain⟨j,v⟩:=p
  simp only[killJ,killE]
  cases(refs v).contains o<;>simp only[ih]
@[simp] noncomputable def kept1K {β:Type}(h h':Heap)(u:AV)(d:Nat)(k:Option β):Option β:=
  match u with
  | .ptr o off=>match hget h o,hget h' o with
    |some ob,some ob'=>match ob.cells[off+d]?,ob'.cells[off+d]? with
     |some (.int i x),some (.int j y)=>match decide (i=j)with
      |true=>kB (decide (x=y)) k none
      |false=>none
     |_,_=>none
    |_,_=>none
  |_=>none
@[simp] noncomputable def keptK {β:Type}(env:Env)(h h':Heap)(ks:List (Opd×Nat))(k:Option β):Option β:=
  match ks with
  | []=>k
  |a::r=>kept1K h h' (evo env a.1) a.2 (keptK env h h' r k)
def kept1 (h h':Heap)(u:AV)(d:Nat):Bool:=
 match u with
 | .ptr o off=>match hget h o,hget h' o with
   |some ob,some ob'=>match ob.cells[off+d]?,ob'.cells[off+d]? with
    |some (.int k x),some (.int k' y)=>decide (k=k')&&decide (x=y)
    |_,_=>false
   |_,_=>false
 |_=>false
theorem kept1K_eq {β:Type}(h h':Heap)(u:AV)(d:Nat)(k:Option β):kept1K h h' u d k=if kept1 h h' u d then k else none:=by
 cases u with
 |ptr o off=>
  rcases Option.eq_none_or_eq_some (hget h o)with e1|⟨ob,e1⟩
  ·simp[kept1K,kept1,e1]
  rcases Option.eq_none_or_eq_some (hget h' o)with e2|⟨ob',e2⟩
  ·simp[kept1K,kept1,e1,e2]
  rcases Option.eq_none_or_eq_some (ob.cells[off+d]?)with e3|⟨c,e3⟩
  ·simp[kept1K,kept1,e1,e2,e3]
  rcases Option.eq_none_or_eq_some (ob'.cells[off+d]?)with e4|⟨c',e4⟩
  ·simp[kept1K,kept1,e1,e2,e3,e4]
  simp only[kept1K,kept1,e1,e2,e3,e4]
  cases c<;>(try rfl)
  cases c'<;>(try rfl)
  rename_i i x j y
  by_cases e:i=j
  ·by_cases e2:x=y<;>simp[e,e2,kB]
  ·simp[e]
 |_=>rfl
theorem kept_cons (env:Env)(h h':Heap)(a:Opd×Nat)(r:List (Opd×Nat)):kept env h h' (a::r)=(kept1 h h' (evo env a.1) a.2&&kept env h h' r):=rfl
theorem keptK_eq {β:Type}(env:Env)(h h':Heap)(ks:List (Opd×Nat))(k:Option β):keptK env h h' ks k=if kept env h h' ks then k else none:=by
 induction ks with
 |nil=>rfl
 |cons a r ih=>
  rw[keptK,kept1K_eq,kept_cons,ih]
  cases kept1 h h' (evo env a.1) a.2<;>rfl
@[simp] noncomputable def opJ {β:Type}(S:Stp)(R:CallF)(env:Env)(h:Heap)(op:MOp)(k:AV→Env→Heap→Option β):Option β:=
  match op with
  | .mv x=>evK env x fun v env=>k v env h
  | .pick c a b=>match evo env c with
    | .bool t=>kB t (fv (evo env a) fun v=>k v env h) (fv (evo env b) fun v=>k v env h)
    |_=>none
  | .new nm zero=>match hget h nm with
    |none=>k (.ptr nm 0) env ((nm,⟨true,zero⟩)::h)
    |some _=>none
  | .box nm x=>match hget h nm with
    |none=>evK env x fun v env=>if v.cells.all AV.isCell then k (.ptr nm 0) env ((nm,⟨true,v.cells⟩)::h)else none
    |some _=>none
  | .ld sz ag a=>match evo env a with
    | .ptr o off=>kO (hget h o) fun ob=>kO (loadC ob.cells off sz ag) fun v=>fv v fun v=>k v env h
    | .ept cs off=>kO (loadC cs off sz ag) fun v=>fv v fun v=>k v env h
    |_=>none
  | .ldd sz ag a=>match evo env a with
    | .ept cs off=>kO (loadC cs off sz ag) fun v=>fv v fun v=>k v env h
    |_=>none
  | .ldk a b d=>match evo env a,evo env b with
    | .ptr o off,.ptr o' off'=>match decide (o=o'∧off=off'+d)with
      |true=>kO (hget h o) fun ob=>kO (loadC ob.cells off 1 false) fun v=>fv v fun v=>k v env h
      |false=>none
    |_,_=>none
  | .ldx a=>match evo env a with
    | .ptr o off=>kO (hget h o) fun ob=>match ob.wr with
      |true=>kO (ob.cells[off]?) fun v=>fv v fun v=>S.kL (ob.cells.set off v.cp) fun cs=>hsetK h o {ob with cells:=cs} fun h=>k v env h
      |false=>none
    |_=>none
  | .st sz a v=>match evo env a with
    | .ptr o off=>kO (hget h o) fun ob=>evK env v fun v env=>
      if ob.wr∧v.cells.length=sz∧v.cells.all AV.isCell then kO (storeC ob.cells off v.cells) fun cs=>hsetK h o {ob with cells:=cs} fun h=>k .undef env h else none
    |_=>none
  | .nilc x=>match evo env x with
    | .ptr o a=>k (.ptr o a) env h
    | .ept cs a=>k (.ept cs a) env h
    |_=>none
  | .bin op x y=>binJ S op (evo env x) (evo env y) fun v=>k v env h
  | .toInt i x=>intK (evo env x) fun n=>toJ S i n fun n=>k (.int i n) env h
  | .s2b x=>match evo env x with
    | .str s=>kB (decide (s.length≤lenMax)) (S.kL (s.map byteAV) fun l=>k (.lst (.own 1) l) env h) none
    |_=>none
  | .s2bA nm x=>match hget h nm,evo env x with
    |none,.str s=>kB (decide (s.length≤lenMax)) (S.kL (s.map byteAV) fun l=>k (.arr nm 0 s.length 1 false) env ((nm,⟨true,l⟩)::h)) none
    |_,_=>none
  | .b2s x=>match evo env x with
    | .lst _ xs=>kO (xs.mapM avByte) fun s=>k (.str s) env h
    | .arr o off len 1 false=>kO (hget h o) fun ob=>kB (decide (off+len≤ob.cells.length)) (kO (((ob.cells.drop off).take len).mapM avByte) fun s=>k (.str s) env h) none
    |_=>none
  | .makeL e cap=>intK (evo env cap) fun n=>kB (decide (0≤n∧n≤lenMax)) (k (.lst (.own e) []) env h) none
  | .makeA nm e ag zero len=>match hget h nm with
    |none=>intK (evo env len) fun n=>kB (decide (0≤n∧n≤lenMax))
      (S.kL (List.replicate n.toNat zero).flatten fun l=>k (.arr nm 0 n.toNat e ag) env ((nm,⟨true,l⟩)::h)) none
    |some _=>none
  | .slcS x lo hi=>match evo env x with
    | .str s=>boundK env hi s.length s.length fun b=>boundK env lo 0 b fun a=>k (.str (cut lo hi s a b)) env h
    |_=>none
  | .slc e x lo hi mx=>match evo env x with
    | .lst g xs=>kB (headE e xs) (S.kN xs.length fun n=>boundK env mx n n fun m=>boundK env hi n m fun b=>boundK env lo 0 b fun a=>
       S.kL (cut lo hi xs a b) fun l=>evK env x fun _ env=>k (.lst (cutG hi mx g b m) l) env h) none
    | .arr o off len e' ag=>if e=e' then boundK env mx len len fun m=>boundK env hi len m fun b=>boundK env lo 0 b fun a=>
       k (.arr o (off+a*e) (b-a) e ag) env h else none
    |_=>none
  | .slcA n e ag x lo hi=>match evo env x with
    | .ptr o off=>boundK env hi n n fun b=>boundK env lo 0 b fun a=>k (.arr o (off+a*e) (b-a) e ag) env h
    |_=>none
  | .fa off x=>match evo env x with
    | .ptr o a=>k (.ptr o (a+off)) env h
    | .ept cs a=>k (.ept cs (a+off)) env h
    |_=>none
  | .fld off sz ag x=>match evo env x with
    | .agg cs=>kO (loadC cs off sz ag) fun v=>fv v fun v=>k v env h
    |_=>none
  | .ia e x i=>intK (evo env i) fun i=>match evo env x with
    | .lst _ xs=>withinK i xs.length fun j=>kO (xs[j]?) fun y=>if y.cells.length=e then k (.ept y.cells 0) env h else none
    | .arr o off len e' _=>if e=e' then withinK i len fun j=>k (.ptr o (off+j*e)) env h else none
    |_=>none
  | .iaA n e x i=>intK (evo env i) fun i=>match evo env x with
    | .ptr o off=>withinK i n fun j=>k (.ptr o (off+j*e)) env h
    | .ept cs off=>withinK i n fun j=>k (.ept cs (off+j*e)) env h
    |_=>none
  | .ixS x i=>intK (evo env i) fun i=>match evo env x with
    | .str s=>withinK i s.length fun j=>kO (s[j]?) fun b=>k (byteAV b) env h
    |_=>none
  | .ixA n e ag x i=>intK (evo env i) fun i=>match evo env x with
    | .agg cs=>withinK i n fun j=>kO (loadC cs (j*e) e ag) fun v=>fv v fun v=>k v env h
    |_=>none
  | .eqA neg ks x y=>match evo env x,evo env y with
    | .agg cs,.agg ds=>eqK ks cs ds fun b=>match neg with
      |true=>k (.bool (!b)) env h
      |false=>k (.bool b) env h
    |_,_=>none
  | .eqB neg x y=>match evo env x with
    | .bool a=>match evo env y with
      | .bool b=>match neg with
        |true=>k (.bool (a !=b)) env h
        |false=>k (.bool (a==b)) env h
      |_=>none
    |_=>none
  | .lit e ag zero len parts=>kO (putElems e (List.replicate len (zeroElem ag zero)) (parts.map fun p=>(p.1,evo env p.2))) fun xs=>fvs (xs.map AV.dtE) fun xs=>kB (okElems e ag xs) (S.kL xs fun l=>k (.lst .full l) env h) none
  | .litA nm e ag zero len parts=>match hget h nm with
    |none=>kO (putElems e (List.replicate len (zeroElem ag zero)) (parts.map fun p=>(p.1,evo env p.2))) fun xs=>fvs (xs.map AV.dtE) fun xs=>kB (okElems e ag xs) (fl (xs.flatMap AV.cells) fun cs=>k (.arr nm 0 len e ag) env ((nm,⟨true,cs⟩)::h)) none
    |some _=>none
  | .len st x=>match st,evo env x with
    |true,.str s=>k (.int .i64 s.length) env h
    |false,.lst _ xs=>S.kI xs.length fun n=>k (.int .i64 n) env h
    |false,.arr _ _ len _ _=>k (.int .i64 len) env h
    |_,_=>none
  | .lenA n=>k (.int .i64 n) env h
  | .mm mx x [y]=>match evo env x with
    | .int i a=>intK (evo env y) fun b=>match mx with
      |true=>k (.int i (max a b)) env h
      |false=>k (.int i (min a b)) env h
    |_=>none
  | .mm mx x r=>match evo env x with
    | .int i a=>intsK env r fun l=>k (.int i (l.foldl (fun x y=>if mx then(if y>x then y else x)else(if y<x then y else x)) a)) env h
    |_=>none
  | .app e ag b a=>match evo env b with
    | .lst g xs=>kO (srcElems h ag (evo env a)) fun ys=>
       kB (mayApp e g xs) (kB (okElems e ag ys) (kB (decide (xs.length+ys.length≤lenMax)) (S.kL (xs++ys) fun l=>evK env b fun _ env=>k (.lst (.own e) l) env h) none) none) none
    |_=>none
  | .appA e ag b a=>match evo env b with
    | .arw o len e' ag'=>if e=e'∧ag=ag' then kO (srcElems h ag (evo env a)) fun ys=>kO (hget h o) fun ob=>
       match ob.wr with
       |true=>kB (decide (ob.cells.length=len*e)) (kB (okElems e ag ys) (kB (decide (len+ys.length≤lenMax)) (kB (noRef o h) (kB (ob.cells.all fun c=>c.notOwn&&(refs2 c).isEmpty) (kB (Nat.ble 100 o)
         (killJ o env fun env=>S.kL (ob.cells++ys.flatMap AV.cells) fun cs=>hsetK h o {ob with cells:=cs} fun h=>S.kN (len+ys.length) fun n=>k (.arw o n e ag) env h) none) none) none) none) none) none
       |false=>none
      else none
    |_=>none
  | .frz x=>treeJ h (evo env x) fun v=>fv v fun v=>k v env (freeze h (arrs (evo env x)))
  | .copy e d s=>match evo env d with
    | .arr o off len e' ag=>if e=e' then kO (srcElems h ag (evo env s)) fun ys=>kO (hget h o) fun ob=>
       match ob.wr with
       |true=>kB (okElems e ag ys) (kO (storeC ob.cells off ((ys.take (min ys.length len)).flatMap AV.cells)) fun cs=>hsetK h o {ob with cells:=cs} fun h=>k (.int .i64 (min ys.length len:Nat)) env h) none
       |false=>none
      else none
    |_=>none
  | .ext x i=>match evo env x with
    | .tup vs=>kO (vs[i]?) fun v=>fv v fun v=>k v env h
    |_=>none
  | .call f m args=>argsK env args fun as env=>callJ S R h f m as fun v h=>k v env h
  | .callv x m args=>match evo env x with
    | .fn f cap=>argsK env args fun as env=>callJ S R h f m (fnArgs cap as) fun v h=>k v env h
    |_=>none
  | .callk f base args ks=>argsK env args fun as env'=>callJ S R h f (.ref base) as fun v h'=>keptK env h h' ks (k v env' h')
  |op=>kO (opv R env h op) fun p=>match p with|(v,env,h)=>fv v fun v=>k v env h
theorem opJ_eq {β:Type}(R:CallF)(env:Env)(h:Heap)(op:MOp)(k:AV→Env→Heap→Option β):opJ stp R env h op k=(opv R env h op).bind fun p=>k p.1 p.2.1 p.2.2:=by
 cases op with
 |mv x=>simp only[opJ,opv,evK_eq,zbs]
 |pick c a b=>
  simp only[opJ,opv,fv_eq]
  cases evo env c with
  |bool t=>cases t<;>rfl
  |_=>rfl
 |new nm zero=>simp only[opJ,opv];cases hget h nm<;>rfl
 |box nm x=>
  simp only[opJ,opv,evK_eq]
  cases hget h nm with
  |none=>dsimp only;split<;>rfl
  |some _=>rfl
 |ld sz ag a=>
  simp only[opJ,opv,fv_eq]
  cases evo env a with
  |ptr o off=>simp only[kO_bind,Option.bind_assoc];congr 1;funext ob;cases loadC ob.cells off sz ag<;>rfl
  |ept cs off=>simp only[kO_bind];cases loadC cs off sz ag<;>rfl
  |_=>rfl
 |ldd sz ag a=>
  simp only[opJ,opv,fv_eq]
  cases evo env a with
  |ept cs off=>simp only[kO_bind];cases loadC cs off sz ag<;>rfl
  |_=>rfl
 |ldk a b d=>
  simp only[opJ,opv,fv_eq]
  cases evo env a with
  |ptr o off=>
   cases evo env b with
   |ptr o' off'=>
    by_cases hc:o=o'∧off=off'+d
    ·simp only[hc,and_self,decide_true,if_true,kO_bind,Option.bind_assoc];congr 1;funext ob;cases loadC ob.cells (off'+d) 1 false<;>rfl
    ·simp only[if_neg hc,decide_eq_false hc];rfl
   |_=>rfl
  |_=>rfl
 |ldx a=>
  simp only[opJ,opv,fv_eq]
  cases evo env a with
  |ptr o off=>
   simp only[kO_bind,Option.bind_assoc];congr 1;funext ob
   cases ob.wr with
   |true=>simp only[if_true];cases ob.cells[off]? <;>simp[hsetK_eq,stp,kL_eq]
   |false=>rfl
  |_=>rfl
 |st sz a v=>
  simp only[opJ,opv,evK_eq]
  cases evo env a with
  |ptr o off=>
   simp only[kO_bind,Option.bind_assoc];congr 1;funext ob
   split
   ·cases storeC ob.cells off (evo env v).cells<;>simp[hsetK_eq]
   ·rfl
  |_=>rfl
 |nilc x=>simp only[opJ,opv];cases evo env x<;>rfl
 |bin op x y=>simp only[opJ,opv,binJ_eq];cases binV op (evo env x) (evo env y)<;>rfl
 |toInt i x=>simp only[opJ,opv,intK_eq,toJ_eq];cases intV (evo env x)<;>rfl
 |s2b x=>
  simp only[opJ,stp,kL_eq,opv]
  cases evo env x with
  |str s=>by_cases hl:s.length≤lenMax<;>simp[hl,kB]
  |_=>rfl
 |s2bA nm x=>
  simp only[opJ,stp,kL_eq,opv]
  cases hget h nm with
  |none=>
   cases evo env x with
   |str s=>by_cases hl:s.length≤lenMax<;>simp[hl,kB]
   |_=>rfl
  |some o=>rfl
 |b2s x=>
  simp only[opJ,opv]
  cases evo env x with
  |lst g xs=>simp only[kO_bind];cases xs.mapM avByte<;>rfl
  |arr o off len e ag=>
   split
   ·rename_i heq
    simp at heq
   ·rename_i heq
    injection heq with h1 h2 h3 h4 h5
    subst h1 h2 h3 h4 h5
    simp only[kO_bind,Option.bind_assoc]
    congr 1;funext ob
    by_cases hl:off+len≤ob.cells.length
    ·simp only[hl,decide_true,kB,if_true];cases((ob.cells.drop off).take len).mapM avByte<;>rfl
    ·simp[hl,kB]
   ·rename_i h1 h2
    split
    ·rename_i heq;simp at heq
    ·rename_i heq;exact absurd heq (h2 _ _ _)
    ·rfl
  |_=>rfl
 |makeL e cap=>
  simp only[opJ,opv,intK_eq,Option.bind_assoc]
  congr 1;funext n
  by_cases hl:0≤n∧n≤lenMax<;>simp[hl,kB]
 |makeA nm e ag zero len=>
  simp only[opJ,stp,kL_eq,opv]
  cases hget h nm with
  |none=>
   simp only[intK_eq,Option.bind_assoc]
   congr 1;funext n
   by_cases hl:0≤n∧n≤lenMax<;>simp[hl,kB]
  |some o=>rfl
 |fa off x=>simp only[opJ,opv];cases evo env x<;>rfl
 |fld off sz ag x=>
  simp only[opJ,opv,fv_eq]
  cases evo env x with
  |agg cs=>simp only[kO_bind];cases loadC cs off sz ag<;>rfl
  |_=>rfl
 |slcA n e ag x lo hi=>
  simp only[opJ,opv]
  cases evo env x with
  |ptr o off=>simp only[boundK_eq,Option.bind_assoc];congr 1;funext b;cases bound env lo 0 b<;>rfl
  |_=>rfl
 |iaA n e x i=>
  simp only[opJ,opv,intK_eq,Option.bind_assoc]
  congr 1;funext i
  cases evo env x with
  |ptr o off=>simp only[withinK_eq];cases within i n<;>rfl
  |ept cs off=>simp only[withinK_eq];cases within i n<;>rfl
  |_=>rfl
 |ixS x i=>
  simp only[opJ,opv,intK_eq,Option.bind_assoc]
  congr 1;funext i
  cases evo env x with
  |str s=>simp only[withinK_eq,kO_bind,Option.bind_assoc];congr 1;funext j;cases s[j]? <;>rfl
  |_=>rfl
 |ixA n e ag x i=>
  simp only[opJ,opv,intK_eq,Option.bind_assoc,fv_eq]
  congr 1;funext i
  cases evo env x with
  |agg cs=>simp only[withinK_eq,kO_bind,Option.bind_assoc];congr 1;funext j;cases loadC cs (j*e) e ag<;>rfl
  |_=>rfl
 |eqB neg x y=>
  simp only[opJ,opv]
  cases evo env x with
  |bool a=>
   cases evo env y with
   |bool b=>cases a<;>cases b<;>cases neg<;>rfl
   |_=>rfl
  |_=>rfl
 |eqA neg ks x y=>
  simp only[opJ,opv]
  cases evo env x with
  |agg cs=>
   cases evo env y with
   |agg ds=>simp only[eqK_eq];cases eqCells ks cs ds<;>cases neg<;>rfl
   |_=>rfl
  |_=>rfl
 |lit e ag zero len parts=>
  simp only[opJ,stp,kL_eq,opv,kO_bind,fvs_eq]
  cases putElems e (List.replicate len (zeroElem ag zero)) (parts.map fun p=>(p.1,evo env p.2))with
  |none=>rfl
  |some xs=>simp only[zbs];cases okElems e ag (xs.map AV.dtE)<;>rfl
 |litA nm e ag zero len parts=>
  simp only[opJ,opv]
  cases hget h nm with
  |some o=>rfl
  |none=>
   simp only[kO_bind,fvs_eq,fl_eq]
   cases putElems e (List.replicate len (zeroElem ag zero)) (parts.map fun p=>(p.1,evo env p.2))with
   |none=>rfl
   |some xs=>simp only[zbs];cases okElems e ag (xs.map AV.dtE)<;>rfl
 |len st x=>simp only[opJ,opv,stp,kI_eq];cases st<;>cases evo env x<;>rfl
 |lenA n=>rfl
 |mm mx x r=>
  have gen:(match evo env x with
   | .int i a=>intsK env r fun l=>k (.int i (l.foldl (fun x y=>if mx then(if y>x then y else x)else(if y<x then y else x)) a)) env h
   |_=>none)=(opv R env h (.mm mx x r)).bind fun p=>k p.1 p.2.1 p.2.2:=by
   simp only[opv]
   cases evo env x with
   |int i a=>simp only[intsK_eq];cases r.mapM fun y=>intV (evo env y)<;>rfl
   |_=>rfl
  match r with
  | []=>exact gen
  | [y]=>
    rw[←gen]
    simp only[opJ]
    cases evo env x with
    |int i a=>
     simp only[intsK,intK_eq]
     cases intV (evo env y)with
     |none=>rfl
     |some b=>
      cases mx with
      |true=>
       have:(if b>a then b else a)=max a b:=by rw[Int.max_def];split<;>split<;>omega
       simp only[zbs,List.foldl_cons,List.foldl_nil,if_true,this]
      |false=>
       have:(if b<a then b else a)=min a b:=by rw[Int.min_def];split<;>split<;>omega
       simp only[zbs,List.foldl_cons,List.foldl_nil,Bool.false_eq_true,if_false,this]
    |_=>rfl
  |y::z::r=>exact gen
 |ext x i=>
  simp only[opJ,opv,fv_eq]
  cases evo env x with
  |tup vs=>simp only[kO_bind];cases vs[i]? <;>rfl
  |_=>rfl
 |call f m args=>simp only[opJ,opv,argsK_eq,callJ_eq];cases callR R h f m (argsV env args)<;>rfl
 |callv x m args=>
  simp only[opJ,opv]
  cases evo env x with
  |fn g cap=>simp only[argsK_eq,callJ_eq];cases callR R h g m (fnArgs cap (argsV env args))<;>rfl
  |_=>rfl
 |callk f b args ks=>
  simp only[opJ,opv,argsK_eq,callJ_eq,keptK_eq]
  cases callR R h f (.ref b) (argsV env args)with
  |none=>rfl
  |some p=>simp only[zbs];split<;>rfl
 |slcS x lo hi=>
  simp only[opJ,opv]
  cases evo env x with
  |str s=>
   simp only[boundK_eq,Option.bind_assoc]
   rw[cut_eq env lo hi s s.length rfl s.length fun b l=>k (.str l) env h]
   congr 1;funext b;cases bound env lo 0 b<;>rfl
  |_=>rfl
 |slc e x lo hi mx=>
  simp only[opJ,stp,kL_eq,kN_eq,opv]
  cases evo env x with
  |lst g xs=>
   cases hh:headE e xs with
   |true=>
    simp only[kB,hh,if_true,boundK_eq,Option.bind_assoc,evK_eq];congr 1;funext m
    rw[cut_eq env lo hi xs xs.length rfl m fun b l=>k (.lst (cutG hi mx g b m) l) (evoE env x) h]
    congr 1;funext b
    cases bound env lo 0 b with
    |none=>rfl
    |some a=>
     have:cutG hi mx g b m=if hi.isNone then g else if mx.isSome∧b=m then .full else .no:=by
      cases hi with
      |none=>rfl
      |some y=>cases mx<;>simp
     simp only[zbs,Option.map_some,this]
   |false=>simp only[kB,hh,Bool.false_eq_true,if_false,Option.bind_none]
  |arr o off len e' ag=>
   dsimp only
   split
   ·simp only[boundK_eq,Option.bind_assoc];congr 1;funext m;congr 1;funext b;cases bound env lo 0 b<;>rfl
   ·rfl
  |_=>rfl
 |ia e x i=>
  simp only[opJ,opv,intK_eq,Option.bind_assoc]
  congr 1;funext i
  cases evo env x with
  |lst g xs=>
   simp only[withinK_eq,kO_bind,Option.bind_assoc]
   congr 1;funext j;congr 1;funext y
   split<;>rfl
  |arr o off len e' ag=>
   dsimp only
   split
   ·simp only[withinK_eq];cases within i len<;>rfl
   ·rfl
  |_=>rfl
 |app e ag b a=>
  simp only[opJ,stp,kL_eq,opv]
  cases evo env b with
  |lst g xs=>
   simp only[kO_bind,Option.bind_assoc,evK_eq]
   congr 1;funext ys
   cases mayApp e g xs<;>cases okElems e ag ys<;>simp[kB]
   by_cases hl:xs.length+ys.length≤lenMax<;>simp[hl]
  |_=>rfl
 |appA e ag b a=>
  simp only[opJ,opv]
  cases evo env b with
  |arw o len e' ag'=>
   dsimp only
   split
   ·simp only[kO_bind,Option.bind_assoc]
    congr 1;funext ys;congr 1;funext ob
    cases hw:ob.wr<;>simp only[killJ_eq,stp,kL_eq,kN_eq,hsetK_eq]
    ·simp
    ·by_cases h1:ob.cells.length=len*e<;>cases okElems e ag ys<;>by_cases h3:len+ys.length≤lenMax<;>cases noRef o h<;>cases(ob.cells.all fun c=>c.notOwn&&(refs2 c).isEmpty)<;>by_cases h6:100≤o<;>simp[h1,h3,h6,kB]
     all_goals (first|rw[Nat.ble_eq_true_of_le h6]|(cases hb:Nat.ble 100 o<;>first|rfl|exact absurd (Nat.le_of_ble_eq_true hb) h6))
   ·rfl
  |_=>rfl
 |frz x=>
  simp only[opJ,opv,treeJ_eq,fv_eq]
  cases tree h (evo env x)<;>rfl
 |copy e d s=>
  simp only[opJ,opv]
  cases evo env d with
  |arr o off len e' ag=>
   dsimp only
   split
   ·simp only[kO_bind,Option.bind_assoc]
    congr 1;funext ys;congr 1;funext ob
    cases ob.wr<;>cases okElems e ag ys<;>simp[kB,hsetK_eq]
    cases storeC ob.cells off ((ys.take (min ys.length len)).flatMap AV.cells)<;>rfl
   ·rfl
  |_=>rfl
 |_=>simp only[opJ,opv,kO_bind,fv_eq]
@[simp] noncomputable def itemJ {β:Type}(S:Stp)(R:CallF)(i:MI)(env:Env)(h:Heap)(k:Env→Heap→Option β):Option β:=
  match i with
  |⟨d,g,op⟩=>
   match g with
   |none=>opJ S R env h op fun v env h=>match d with
    |some j=>k ((j,v)::env) h
    |none=>k env h
   |some (j,want)=>match get env j with
    | .bool b=>match want with
      |true=>kB b
       (opJ S R env h op fun v env h=>match d with
         |some j=>k ((j,v)::env) h
         |none=>k env h)
       (match d with
         |some j=>k ((j,.nov)::env) h
         |none=>k env h)
      |false=>kB b
       (match d with
         |some j=>k ((j,.nov)::env) h
         |none=>k env h)
       (opJ S R env h op fun v env h=>match d with
         |some j=>k ((j,v)::env) h
         |none=>k env h)
    | .nov=>match d with
      |some j=>k ((j,.nov)::env) h
      |none=>k env h
    |_=>none
theorem itemJ_eq {β:Type}(R:CallF)(i:MI)(env:Env)(h:Heap)(k:Env→Heap→Option β):itemJ stp R i env h k=(stepI R i ⟨env,h⟩).bind fun s=>k s.env s.heap:=by
 obtain⟨d,g,op⟩:=i
 have hput: ∀(v:AV) (env:Env) (h:Heap),(match d with|some j=>k ((j,v)::env) h|none=>k env h)=k (putD d v env) h:=by
  intro v env h;cases d<;>rfl
 have hop:(opJ stp R env h op fun v env h=>match d with|some j=>k ((j,v)::env) h|none=>k env h)=((opv R env h op).map fun(v,env,h)=>(⟨putD d v env,h⟩:St)).bind fun s=>k s.env s.heap:=by
  rw[opJ_eq]
  cases opv R env h op with
  |none=>rfl
  |some p=>exact hput _ _ _
 simp only[itemJ,stepI]
 cases g with
 |none=>simp only[wanted];exact hop
 |some p=>
  obtain⟨j,want⟩:=p
  simp only[wanted]
  cases get env j with
  |bool b=>
   cases b<;>cases want
   ·exact hop
   ·exact hput _ _ _
   ·exact hput _ _ _
   ·exact hop
  |nov=>exact hput _ _ _
  |_=>rfl
noncomputable def opsJ {β:Type}(S:Stp)(R:CallF)(l:List MI):Env→Heap→(Env→Heap→Option β)→Option β:=
 @List.rec MI (fun _=>Env→Heap→(Env→Heap→Option β)→Option β) (fun env h k=>k env h) (fun i _ ih env h k=>itemJ S R i env h fun env h=>ih env h k) l
@[simp] theorem opsJ_cons {β:Type}(S:Stp)(R:CallF)(i:MI)(r:List MI)(env:Env)(h:Heap)(k:Env→Heap→Option β):opsJ S R (i::r) env h k=itemJ S R i env h fun env h=>opsJ S R r env h k:=rfl
theorem opsJ_eq {β:Type}(R:CallF)(l:List MI): ∀(env:Env) (h:Heap) (k:Env→Heap→Option β),opsJ stp R l env h k=(runOps R l ⟨env,h⟩).bind fun s=>k s.env s.heap:=by
 induction l with
 |nil=>intro env h k;rfl
 |cons i r ih=>
  intro env h k
  simp only[opsJ_cons,runOps,itemJ_eq,ih,Option.bind_assoc]
noncomputable def rnJ {β:Type}(S:Stp)(R:MRec)(c:MCode):Env→Heap→(Ex→Env→Heap→Option β)→Option β:=
 @MCode.rec (fun _=>Env→Heap→(Ex→Env→Heap→Option β)→Option β)
  (fun env h k=>k .norm env h)
  (fun ops ap env h k=>opsJ S R.call ops env h fun env h=>match ap with
    | []=>k .norm env h
    |ap=>if ap.all (fun p=>distinct p.1.1 (evo env p.1.2) p.2.1 (evo env p.2.2))then k .norm env h else none)
  (fun _ _ ia ib env h k=>ia env h fun e env h=>match e with
    | .norm=>ib env h k
    | .exit j=>k (.exit j) env h
    | .ret=>k .ret env h)
  (fun c _ _ ia ib env h k=>match evo env c with
    | .bool t=>kB t (ia env h k) (ib env h k)
    |_=>none)
  (fun id _ ib env h k=>ib env h fun e env h=>match e with
    | .exit j=>match Nat.beq j id with
      |true=>k .norm env h
      |false=>k (.exit j) env h
    | .norm=>k .norm env h
    | .ret=>k .ret env h)
  (fun ks ko kx b _ env h k=>kO (R.loop (ks,ko,kx,b) ⟨env,h⟩) fun p=>match p with|(e,⟨env,h⟩)=>k e env h)
  (fun id env h k=>k (.exit id) env h)
  (fun env h k=>k .ret env h) c
section
variable {β:Type} (S:Stp) (R:MRec) (env:Env) (h:Heap) (k:Ex→Env→Heap→Option β)
theorem rnJ_reg (ops:List MI)(ap:List ((Nat×Opd)×(Nat×Opd))):rnJ S R (.reg ops ap) env h k=opsJ S R.call ops env h fun env h=>match ap with
 | []=>k .norm env h
 |ap=>if ap.all (fun p=>distinct p.1.1 (evo env p.1.2) p.2.1 (evo env p.2.2))then k .norm env h else none:=rfl
theorem rnJ_seq (a b:MCode):rnJ S R (.seq a b) env h k=rnJ S R a env h fun e env h=>match e with
 | .norm=>rnJ S R b env h k
 | .exit j=>k (.exit j) env h
 | .ret=>k .ret env h:=rfl
theorem rnJ_cond (c:Opd)(a b:MCode):rnJ S R (.cond c a b) env h k=match evo env c with
 | .bool t=>kB t (rnJ S R a env h k) (rnJ S R b env h k)
 |_=>none:=rfl
theorem rnJ_block (id:Nat)(b:MCode):rnJ S R (.block id b) env h k=rnJ S R b env h fun e env h=>match e with
 | .exit j=>match Nat.beq j id with
   |true=>k .norm env h
   |false=>k (.exit j) env h
 | .norm=>k .norm env h
 | .ret=>k .ret env h:=rfl
theorem rnJ_loop (ks ko kx:List Nat)(b:MCode):rnJ S R (.loop ks ko kx b) env h k=kO (R.loop (ks,ko,kx,b) ⟨env,h⟩) fun p=>match p with|(e,⟨env,h⟩)=>k e env h:=rfl
end
theorem rnJ_eq {β:Type}(R:MRec)(c:MCode): ∀(env:Env) (h:Heap) (k:Ex→Env→Heap→Option β),rnJ stp R c env h k=(step R c ⟨env,h⟩).bind fun p=>k p.1 p.2.env p.2.heap:=by
 induction c with
 |skip=>intro env h k;rfl
 |reg ops ap=>
  intro env h k
  simp only[rnJ_reg,step,opsJ_eq,Option.bind_assoc]
  congr 1;funext s'
  cases ap with
  |nil=>rfl
  |cons p r=>dsimp only;split<;>rfl
 |seq a b iha ihb=>
  intro env h k
  simp only[rnJ_seq,step,iha,Option.bind_assoc]
  congr 1;funext p
  obtain⟨e,s'⟩:=p
  cases e with
  |norm=>exact ihb _ _ _
  |exit j=>rfl
  |ret=>rfl
 |cond c a b iha ihb=>
  intro env h k
  simp only[rnJ_cond,step]
  cases evo env c with
  |bool t=>cases t with
   |true=>exact iha _ _ _
   |false=>exact ihb _ _ _
  |_=>rfl
 |block id b ih=>
  intro env h k
  simp only[rnJ_block,step,ih]
  cases step R b ⟨env,h⟩with
  |none=>rfl
  |some p=>
   obtain⟨e,s'⟩:=p
   cases e with
   |exit j=>
    simp only[zbs,Option.map_some]
    by_cases hj:j=id
    ·subst hj;simp
    ·have hb:Nat.beq j id=false:=by
      cases hb:Nat.beq j id
      ·rfl
      ·exact absurd (Nat.eq_of_beq_eq_true hb) hj
     simp[hj,hb]
   |norm=>rfl
   |ret=>rfl
 |loop ks ko kx b ih=>intro env h k;simp only[rnJ_loop,step,kO_bind]
 |exit id=>intro env h k;rfl
 |ret=>intro env h k;rfl
@[simp] noncomputable def treeNJ {β:Type}(ns:List Nat)(h:Heap)(v:AV)(k:AV→Option β):Option β:=
  match ns with
  | []=>treeJ h v k
  |ns=>match(arrs v).all (fun o=> !ns.contains o)with
   |true=>treeJ h v k
   |false=>none
theorem treeNJ_eq {β:Type}(ns:List Nat)(h:Heap)(v:AV)(k:AV→Option β):treeNJ ns h v k=(treeN ns h v).bind k:=by
 cases ns with
 |nil=>exact treeJ_eq h v k
 |cons n r=>
  simp only[treeNJ,treeN]
  cases(arrs v).all (fun o=> !(n::r).contains o)with
  |true=>simp only[if_true];exact treeJ_eq h v k
  |false=>simp
noncomputable def treJ {β:Type}(ns:List Nat)(h:Heap)(l:List AV):(List AV→Option β)→Option β:=
 @List.rec AV (fun _=>(List AV→Option β)→Option β) (fun k=>k []) (fun v _ ih k=>treeNJ ns h v fun v'=>ih fun vs=>k (v'::vs)) l
@[simp] theorem treJ_cons {β:Type}(ns:List Nat)(h:Heap)(v:AV)(l:List AV)(k:List AV→Option β):treJ ns h (v::l) k=treeNJ ns h v fun v'=>treJ ns h l fun vs=>k (v'::vs):=rfl
theorem treJ_eq {β:Type}(ns:List Nat)(h:Heap)(l:List AV)(k:List AV→Option β):treJ ns h l k=treK ns h l k:=by
 induction l generalizing k with
 |nil=>rfl
 |cons v l ih=>simp only[treJ_cons,treK,treeNJ_eq,kO_bind,ih]
@[simp] noncomputable def outJ (n:Nat)(ns:List Nat)(h:Heap)(rs:List AV):Option (AV×List Obj):=
  hinJ (idx ns) h ns fun out=>match Nat.ble n 100 with
   |true=>some (one rs,out)
   |false=>none
theorem outJ_eq (n:Nat)(ns:List Nat)(h:Heap)(rs:List AV):outJ n ns h rs=outK n ns h rs:=by simp only[outJ,outK,hinJ_eq,kO_bind];rfl
@[simp] noncomputable def finJ (S:Stp)(F:MFunc)(n:Nat)(s:St):Option (AV×List Obj):=
  resV s F.res fun vs=>match F.handsRef with
   |false=>reachJ S s.heap 64 (List.range n++[]) [] fun ns=>treJ ns s.heap vs fun rs=>outJ n ns s.heap rs
   |true=>reachJ S s.heap 64 (List.range n++vs.flatMap refs) [] fun ns=>if vs.all AV.flat2 then outJ n ns s.heap (vs.map (ren (idx ns)))else none
theorem finJ_eq (F:MFunc)(n:Nat)(s:St):finJ stp F n s=finK F n s:=by simp only[finJ,finK,reachJ_eq,treJ_eq,outJ_eq,kO_bind];rfl
noncomputable def callE2 (S:Stp)(R:MRec)(F:MFunc)(args:List AV)(hin:List Obj):Option (AV×List Obj):=
 rnJ S R F.body (enter args hin).env (enter args hin).heap fun e env h=>match e with
  | .norm=>finJ S F hin.length ⟨env,h⟩
  | .ret=>finJ S F hin.length ⟨env,h⟩
  | .exit _=>none
theorem callE2_eq (R:MRec)(F:MFunc)(args:List AV)(hin:List Obj)(hl:args.length=F.nargs):callB R F args hin=callE2 stp R F args hin:=by
 unfold callB callE2
 rw[if_pos hl,rnJ_eq]
 congr 1;funext p
 obtain⟨e,s⟩:=p
 cases e with
 |norm=>exact((finJ_eq _ _ _).trans (finK_eq _ _ _)).symm
 |exit j=>rfl
 |ret=>exact((finJ_eq _ _ _).trans (finK_eq _ _ _)).symm
section
variable (M:Prog) (X:Nat→List AV→Option (AV×List Obj))
theorem evJ {f:Nat}{F:MFunc}{args:List AV}{hin:List Obj}{r:Option (AV×List Obj)}(hf:M f=some F)(hl:args.length=F.nargs)(h:callE2 stp (lim M X) F args hin=r):(lim M X).call f args hin=r:=by
 rw[lim_call_eq M X hf,callE2_eq _ _ _ _ hl,h]
theorem evLJ {ks ko kx:List Nat}{b:MCode}{s:St}{env:Env}{hp:Heap}{r:Option (Ex×St)}(hk:keep ks ko s=some ⟨env,hp⟩)
 (h:rnJ stp (lim M X) b env hp (fun e env h=>match e with
   | .norm=>(lim M X).loop (ks,ko,kx,b) ⟨env,h⟩
   | .exit j=>kO (keep kx ko ⟨env,h⟩) fun s=>some (.exit j,s)
   | .ret=>kO (keep kx ko ⟨env,h⟩) fun s=>some (.ret,s))=r):(lim M X).loop (ks,ko,kx,b) s=r:=by
 rw[lim_loop_eq,hk,zbs,←h,rnJ_eq]
 congr 1;funext p
 obtain⟨e,s2⟩:=p
 cases e with
 |norm=>rfl
 |exit j=>dsimp only;rw[kO_bind];cases keep kx ko s2<;>rfl
 |ret=>dsimp only;rw[kO_bind];cases keep kx ko s2<;>rfl
end
def iter {σ ρ:Type}(f:σ→Option (σ⊕ρ)):Nat→σ→Option ρ
 |0,_=>none
 |n+1,s=>match f s with
  |none=>none
  |some (.inl t)=>iter f n t
  |some (.inr r)=>some r
theorem iter_mono {σ ρ:Type}{f:σ→Option (σ⊕ρ)}: ∀{n m:Nat} {s:σ} {r:ρ},iter f n s=some r→n≤m→iter f m s=some r:=by
 intro n
 induction n with
 |zero=>intro m s r h;cases h
 |succ n ih=>
  intro m s r h hm
  cases m with
  |zero=>omega
  |succ m=>
   simp only[iter]at h ⊢
   cases hf:f s with
   |none=>rw[hf]at h;cases h
   |some o=>
    rw[hf]at h
    cases o with
    |inl t=>exact ih h (by omega)
    |inr r=>exact h
noncomputable def loopO {σ ρ:Type}(f:σ→Option (σ⊕ρ))(s:σ):Option ρ:=
 @dite _ (∃n r,iter f n s=some r) (Classical.propDecidable _) (fun h=>some h.choose_spec.choose) (fun _=>none)
theorem loopO_iff {σ ρ:Type}{f:σ→Option (σ⊕ρ)}{s:σ}{r:ρ}:loopO f s=some r↔∃n,iter f n s=some r:=by
 unfold loopO
 constructor
 ·intro h
  split at h
  ·rename_i hx
   injection h with h
   subst h
   exact⟨_,hx.choose_spec.choose_spec⟩
  ·cases h
 ·rintro⟨n,hn⟩
  have hx: ∃n r,iter f n s=some r:=⟨n,r,hn⟩
  rw[dif_pos hx]
  have h2:=hx.choose_spec.choose_spec
  have h3:=iter_mono hn (Nat.le_max_left n hx.choose)
  have h4:=iter_mono h2 (Nat.le_max_right n hx.choose)
  rw[h3]at h4
  exact h4.symm
theorem loopO_eq {σ ρ:Type}(f:σ→Option (σ⊕ρ))(s:σ):loopO f s=(f s).bind fun| .inl t=>loopO f t| .inr r=>some r:=by
 apply Option.ext
 intro r
 rw[loopO_iff]
 constructor
 ·rintro⟨n,hn⟩
  cases n with
  |zero=>cases hn
  |succ n=>
   simp only[iter]at hn
   cases hf:f s with
   |none=>rw[hf]at hn;cases hn
   |some o=>
    rw[hf]at hn
    cases o with
    |inl t=>exact loopO_iff.2 ⟨n,hn⟩
    |inr r=>exact hn
 ·intro h
  cases hf:f s with
  |none=>rw[hf]at h;cases h
  |some o=>
   rw[hf]at h
   cases o with
   |inl t=>
    obtain⟨n,hn⟩:=loopO_iff.1 h
    exact⟨n+1,by simp only[iter,hf];exact hn⟩
   |inr r'=>exact⟨1,by simp only[iter,hf];exact h⟩
theorem loopO_inl {σ ρ:Type}{f:σ→Option (σ⊕ρ)}{s t:σ}(h:f s=some (.inl t)):loopO f s=loopO f t:=by rw[loopO_eq,h];rfl
theorem loopO_inr {σ ρ:Type}{f:σ→Option (σ⊕ρ)}{s:σ}{r:ρ}(h:f s=some (.inr r)):loopO f s=some r:=by rw[loopO_eq,h];rfl
theorem loopO_for {σ ρ:Type}{f:σ→Option (σ⊕ρ)}(inv:Nat→σ)(n:Nat){r:ρ}(h: ∀k,k<n→f (inv k)=some (.inl (inv (k+1))))(he:f (inv n)=some (.inr r)):loopO f (inv 0)=some r:=by
 have: ∀m k,k+m=n→loopO f (inv k)=some r:=by
  intro m
  induction m with
  |zero=>intro k hk;rw[show k=n from by omega];exact loopO_inr he
  |succ m ih=>intro k hk;rw[loopO_inl (h k (by omega))];exact ih (k+1) (by omega)
 exact this n 0 (by omega)
def idx? {α:Type}(l:List α)(i:Int):Option α:=if 0≤i∧i<l.length then l[i.toNat]? else none
theorem idx_some {α:Type}{l:List α}{i:Int}{x:α}(h:idx? l i=some x):l[i.toNat]? =some x:=by
 unfold idx? at h
 split at h
 ·exact h
 ·cases h
theorem idx_in {α:Type}{l:List α}{i:Int}{x:α}(h:idx? l i=some x):0≤i∧i<l.length:=by
 unfold idx? at h
 split at h
 ·assumption
 ·cases h
@[simp] theorem idx_nat {α:Type}(l:List α)(k:Nat)(h:k<l.length):idx? l (k:Int)=some l[k]:=by
  unfold idx?
  rw[if_pos (by omega),Int.toNat_natCast,zge h]
def sub? {α:Type}(l:List α)(a n:Nat):Option (List α):=if a+n≤l.length then some ((l.drop a).take n)else none
theorem sub_all {α:Type}(l:List α)(n:Nat)(h:n=l.length):sub? l 0 n=some l:=by
 subst h
 simp[sub?]
def mod? {α:Type}(l:List α)(j:Nat)(u:α→α):Option (List α):=(l[j]?).map fun x=>l.set j (u x)
theorem mod_some {α:Type}(l:List α)(j:Nat)(u:α→α)(h:j<l.length):mod? l j u=some (l.set j (u l[j])):=by
 unfold mod?
 rw[zge h];rfl
abbrev iav (n:Int):AV:=.int .i64 n
abbrev u8av (n:Int):AV:=.int .u8 n
abbrev bav (b:Bool):AV:=.bool b
abbrev sav (s:List UInt8):AV:=.str s
abbrev lav {α:Type}(f:α→AV)(l:List α):AV:=.lst .no (l.map f)
@[reducible] def shlI (k:IntKind)(a b:Int):Int:=k.wrap (a*2^min b.toNat k.bits)
@[reducible] def orI (k:IntKind)(a b:Int):Int:=k.wrap (BitVec.ofInt k.bits a ||| BitVec.ofInt k.bits b).toNat
def bytesOf (l:List Int):List UInt8:=l.map fun n=>UInt8.ofNat n.toNat
def intsOf (s:List UInt8):List Int:=s.map fun b=>(b.toNat:Int)
def Sim {α β:Type}(P:Option α)(G:α→Option β→Prop)(Q:Option β):Prop:= ∀r,P=some r→G r Q
abbrev Gv {α β:Type}(R:α→β→Prop)(r:α)(Q:Option β):Prop:= ∃q,Q=some q∧R r q
namespace Sim
variable {α β γ δ:Type} {G:α→Option β→Prop}
theorem no {Q:Option β}:Sim none G Q:=fun _ h=>by cases h
theorem ret {r:α}{Q:Option β}(h:G r Q):Sim (some r) G Q:=fun _ e=>by injection e with e;exact e▸h
theorem ite {c c':Prop} [Decidable c] [Decidable c']{P1 P2:Option α}{x y:Option β}(hc:c↔c')(h1:c'→Sim P1 G x)(h2: ¬c'→Sim P2 G y):
 Sim (if c' then P1 else P2) G (kB.match_1 (motive:=fun _=>Option β) (decide c) (fun _=>x) (fun _=>y)):=by
 by_cases h:c'
 ·rw[if_pos h,decide_eq_true (hc.2 h)];exact h1 h
 ·rw[if_neg h,decide_eq_false fun hh=>h (hc.1 hh)];exact h2 h
theorem iteB {b:Bool}{P1 P2:Option α}{x y:Option β}(h1:b=true→Sim P1 G x)(h2:b=false→Sim P2 G y):
 Sim (if b=true then P1 else P2) G (kB.match_1 (motive:=fun _=>Option β) b (fun _=>x) (fun _=>y)):=by
 cases b
 ·rw[if_neg (by simp)];exact h2 rfl
 ·rw[if_pos rfl];exact h1 rfl
theorem go {o:Option γ}{a:γ}{P:Option α}{K:γ→Option β}(h:o=some a)(k:Sim P G (K a)):Sim P G (kO.match_1 (motive:=fun _=>Option β) o (fun a=>K a) (fun _=>none)):=by rw[h];exact k
theorem goB {b:Bool}{P:Option α}{x y:Option β}(h:b=true)(k:Sim P G x):Sim P G (kB.match_1 (motive:=fun _=>Option β) b (fun _=>x) (fun _=>y)):=by rw[h];exact k
theorem goF {b:Bool}{P:Option α}{x y:Option β}(h:b=false)(k:Sim P G y):Sim P G (kB.match_1 (motive:=fun _=>Option β) b (fun _=>x) (fun _=>y)):=by rw[h];exact k
theorem bindO {o:Option γ}{P:γ→Option α}{Q:Option β}(k: ∀x,o=some x→Sim (P x) G Q):Sim (o.bind P) G Q:=by
 cases o with
 |none=>exact no
 |some x=>exact k x rfl
theorem ix {l:List γ}{i:Int}{n:Nat}{P:γ→Option α}{x y:Option β}(hn:n=l.length)(k: ∀z,l[i.toNat]? =some z→Sim (P z) G x):
 Sim ((idx? l i).bind P) G (kB.match_1 (motive:=fun _=>Option β) (decide (0≤i∧i<n)) (fun _=>x) (fun _=>y)):=by
 subst hn
 refine bindO fun z hz=> ?_
 exact goB (decide_eq_true (idx_in hz)) (k z (idx_some hz))
theorem opt {o:Option δ}{o':Option γ}{f:γ→δ}{P:γ→Option α}{K:δ→Option β}(h:o=o'.map f)(k: ∀z,o'=some z→Sim (P z) G (K (f z))):
 Sim (o'.bind P) G (kO.match_1 (motive:=fun _=>Option β) o (fun a=>K a) (fun _=>none)):=by
 refine bindO fun z hz=> ?_
 exact go (by rw[h,hz];rfl) (k z hz)
theorem call {Pc:Option γ}{Qc:Option δ}{R:γ→δ→Prop}{P:γ→Option α}{K:δ→Option β}(hc:Sim Pc (Gv R) Qc)(k: ∀r q,R r q→Sim (P r) G (K q)):
 Sim (Pc.bind P) G (kO.match_1 (motive:=fun _=>Option β) Qc (fun a=>K a) (fun _=>none)):=by
 refine bindO fun z hz=> ?_
 obtain⟨q,h1,h2⟩:=hc z hz
 exact go h1 (k z q h2)
theorem callR {R L:MRec}(hR:R=L){f:Nat}{as:List AV}{hs:List Obj}{Pc:Option γ}{Rel:γ→AV×List Obj→Prop}{P:γ→Option α}{K:AV×List Obj→Option β}(hc:Sim Pc (Gv Rel) (L.call f as hs))(k: ∀r q,Rel r q→Sim (P r) G (K q)):
 Sim (Pc.bind P) G (kO.match_1 (motive:=fun _=>Option β) (R.call f as hs) (fun a=>K a) (fun _=>none)):=by subst hR;exact call hc k
theorem callL {R L:MRec}(hR:R=L){l:List Nat×List Nat×List Nat×MCode}{s:St}{Pc:Option γ}{Rel:γ→Ex×St→Prop}{P:γ→Option α}{K:Ex×St→Option β}(hc:Sim Pc (Gv Rel) (L.loop l s))(k: ∀r q,Rel r q→Sim (P r) G (K q)):
 Sim (Pc.bind P) G (kO.match_1 (motive:=fun _=>Option β) (R.loop l s) (fun a=>K a) (fun _=>none)):=by subst hR;exact call hc k
theorem kl {S:Stp}(hS:S=stp){xs ys:List AV}{P:Option α}{K:List AV→Option β}(h:xs=ys)(k:Sim P G (K ys)):Sim P G (S.kL xs K):=by subst hS;show Sim P G (kL xs K);rw[kL_eq,h];exact k
theorem ki {S:Stp}(hS:S=stp){n m:Int}{P:Option α}{K:Int→Option β}(h:n=m)(k:Sim P G (K m)):Sim P G (S.kI n K):=by subst hS;show Sim P G (kI n K);rw[kI_eq,h];exact k
theorem kn {S:Stp}(hS:S=stp){n m:Nat}{P:Option α}{K:Nat→Option β}(h:n=m)(k:Sim P G (K m)):Sim P G (S.kN n K):=by subst hS;show Sim P G (kN n K);rw[kN_eq,h];exact k
theorem ks {S:Stp}(hS:S=stp){σ:Type}{a b:σ}{P:Option α}{K:σ→Option β}(h:a=b)(k:Sim P G (K b)):Sim P G (S.kS a K):=by subst hS;show Sim P G (kS a K);rw[kS_eq,h];exact k
theorem kr {S:Stp}(hS:S=stp){h:Heap}{n:Nat}{todo seen:List Nat}{P:Option α}{K:List Nat→Option β}(k:Sim P G (reachJ S h n todo seen K)):Sim P G (S.kR h n todo seen K):=by
 subst hS
 rw[reachJ_eq]at k
 exact k
theorem kfl {xs ys:List AV}{P:Option α}{K:List AV→Option β}(h:xs=ys)(k:Sim P G (K ys)):Sim P G (fl xs K):=by rw[fl_eq,h];exact k
theorem kfn {xs ys:List Nat}{P:Option α}{K:List Nat→Option β}(h:xs=ys)(k:Sim P G (K ys)):Sim P G (fnl xs K):=by rw[fnl_eq,h];exact k
theorem guard {c:Prop} [Decidable c]{P:Option α}{Q:Option β}(h:c→Sim P G Q):Sim (if c then P else none) G Q:=by
 by_cases hc:c
 ·rw[if_pos hc];exact h hc
 ·rw[if_neg hc];exact no
theorem sub {f:γ→AV}{l:List γ}{a n:Nat}{cs:List AV}{P:List γ→Option α}{x y:Option β}(hcs:cs=l.map f)(k: ∀z,(cs.drop a).take n=z.map f→Sim (P z) G x):
 Sim ((sub? l a n).bind P) G (kB.match_1 (motive:=fun _=>Option β) (decide (a+n≤cs.length)) (fun _=>x) (fun _=>y)):=by
 subst hcs
 refine bindO fun z hz=> ?_
 unfold sub? at hz
 split at hz
 ·rename_i hc
  injection hz with hz
  subst hz
  exact goB (decide_eq_true (by rw[List.length_map];exact hc)) (k _ (by rw[←List.map_drop,←List.map_take]))
 ·cases hz
theorem eqP {P P':Option α}{Q:Option β}(h:P=P')(k:Sim P' G Q):Sim P G Q:=h▸k
end Sim
section
variable (M:Prog) (X:Nat→List AV→Option (AV×List Obj))
theorem sim_evR {α:Type}{f:Nat}{F:MFunc}{args:List AV}{hin:List Obj}{P:Option α}{G:α→Option (AV×List Obj)→Prop}(hf:M f=some F)(hl:args.length=F.nargs)(h: ∀(S:Stp) (_:S=stp) (_:wr=S.wr) (_:w8=S.w8) (R:MRec) (_:R=lim M X),Sim P G (callE2 S R F args hin)):Sim P G ((lim M X).call f args hin):=by
 rw[evJ M X hf hl rfl];exact h stp rfl rfl rfl _ rfl
theorem sim_loop {σ ρ:Type}{ks ko kx:List Nat}{b:MCode}{f:σ→Option (σ⊕ρ)}(Inv:σ→St→Prop)(R:ρ→Ex×St→Prop)
 (round: ∀(S:Stp) (_:S=stp) (_:wr=S.wr) (_:w8=S.w8) (L:MRec) (_:L=lim M X) v env hp,Inv v ⟨env,hp⟩→Sim (f v) (fun o Q=>match o with
   | .inl v'=> ∃t e',Q=L.loop (ks,ko,kx,b) t∧keep ks ko t=some e'∧Inv v' e'
   | .inr r=>Gv R r Q)
   (rnJ S L b env hp (fun e env h=>match e with
     | .norm=>L.loop (ks,ko,kx,b) ⟨env,h⟩
     | .exit j=>kO (keep kx ko ⟨env,h⟩) fun s=>some (.exit j,s)
     | .ret=>kO (keep kx ko ⟨env,h⟩) fun s=>some (.ret,s))))
 (v:σ) (s e:St) (hk:keep ks ko s=some e) (hi:Inv v e):Sim (loopO f v) (Gv R) ((lim M X).loop (ks,ko,kx,b) s):=by
 intro r hr
 obtain⟨n,hn⟩:=loopO_iff.1 hr
 clear hr
 induction n generalizing v s e with
 |zero=>cases hn
 |succ n ih=>
  obtain⟨env,hp⟩:=e
  have hrd:=round stp rfl rfl rfl (lim M X) rfl v env hp hi
  simp only[iter]at hn
  cases hf:f v with
  |none=>rw[hf]at hn;cases hn
  |some o=>
   rw[hf]at hn
   have:=hrd o hf
   cases o with
   |inl v'=>
    obtain⟨t,e',h1,h2,h3⟩:=this
    rw[evLJ M X hk h1]
    exact ih v' t e' h2 h3 hn
   |inr r'=>
    obtain⟨q,h1,h2⟩:=this
    injection hn with hn
    subst hn
    exact⟨q,evLJ M X hk h1,h2⟩
end
def Mg (e:Nat)(g:Gr):Prop:=g= .full∨g= .own e
theorem Mg.full {e:Nat}:Mg e .full:=.inl rfl
theorem Mg.own {e:Nat}:Mg e (.own e):=.inr rfl
theorem headE_map {α:Type}{e:Nat}{f:α→AV}(h: ∀x,(f x).cells.length=e)(l:List α):headE e (l.map f)=true:=by
 cases l with
 |nil=>rfl
 |cons x r=>
  show Nat.beq (f x).cells.length e=true
  rw[h x];exact Nat.beq_refl e
theorem may_map {α:Type}{e:Nat}{f:α→AV}{g:Gr}(h: ∀x,(f x).cells.length=e)(hg:Mg e g)(l:List α):mayApp e g (l.map f)=true:=by
 rcases hg with rfl|rfl
 ·exact headE_map h l
 ·simp
theorem okE_map {α:Type}{e:Nat}{ag:Bool}{f:α→AV}(h: ∀x,(f x).delem=true∧(f x).cells.length=e∧(match f x with| .agg _=>ag|_=> !ag)=true)(l:List α):okElems e ag (l.map f)=true:=by
 simp only[okElems,List.all_map,List.all_eq_true,Function.comp_apply,zba,decide_eq_true_eq]
 exact fun x _=>⟨⟨(h x).1,(h x).2.1⟩,(h x).2.2⟩
theorem byte_map (s:List UInt8):s.map byteAV=(intsOf s).map u8av:=by
 simp only[intsOf,List.map_map];rfl
theorem bytes_mapM (l:List Int):(l.map u8av).mapM avByte=some (bytesOf l):=by
 induction l with
 |nil=>rfl
 |cons n l ih=>simp only[List.map_cons,List.mapM_cons,ih];rfl
theorem idx_map {α:Type}{l:List α}{n:Nat}{x:α}(f:α→AV)(h:l[n]? =some x):(l.map f)[n]? =some (f x):=by rw[List.getElem?_map,h];rfl
def Flat (cs:List AV):Prop:= ∀c∈cs,refs2 c=[]
theorem Flat.map {α:Type}{f:α→AV}(h: ∀x,refs2 (f x)=[])(l:List α):Flat (l.map f):=by
 intro c hc
 obtain⟨x,-,rfl⟩:=List.mem_map.1 hc
 exact h x
theorem Flat.fm {α:Type}{f:α→List AV}(h: ∀x,Flat (f x))(l:List α):Flat (l.flatMap f):=by
 intro c hc
 obtain⟨x,-,hx⟩:=List.mem_flatMap.1 hc
 exact h x c hx
theorem Flat.of {cs:List AV}(h:cs.flatMap refs2=[]):Flat cs:=List.flatMap_eq_nil_iff.1 h
theorem Flat.to {cs:List AV}(h:Flat cs):cs.flatMap refs2=[]:=List.flatMap_eq_nil_iff.2 h
theorem Flat.ren {cs:List AV}(h:Flat cs)(f:Nat→Nat):cs.map (ren2 f)=cs:=by
 refine(List.map_congr_left fun c hc=> ?_).trans (List.map_id cs)
 have:=h c hc
 cases c with
 |ptr o a=>cases this
 |arr o a b c d=>cases this
 |arw o b c d=>cases this
 |fn g cap=>
  show AV.fn g (cap.map (ren1 f))=AV.fn g cap
  have h3: ∀x∈cap,refs1 x=[]:=fun x hx=>List.flatMap_eq_nil_iff.1 this x hx
  congr 1
  refine(List.map_congr_left fun x hx=> ?_).trans (List.map_id cap)
  have:=h3 x hx
  cases x<;>first|rfl|cases this
 |_=>rfl
def okH (ko:List Nat)(h:Heap):Bool:=h.all fun p=>p.2.cells.all fun c=>(refs2 c).all fun o=>o<100||ko.contains o
theorem okH_nil (ko:List Nat):okH ko []=true:=rfl
theorem okH_flat {ko:List Nat}{n:Nat}{w:Bool}{cs:List AV}{r:Heap}(h1:Flat cs)(h2:okH ko r=true):okH ko ((n,⟨w,cs⟩)::r)=true:=by
 have:(cs.all fun c=>(refs2 c).all fun o=>o<100||ko.contains o)=true:=List.all_eq_true.2 fun c hc=>by rw[h1 c hc];rfl
 simp only[okH,List.all_cons,zba]
 exact⟨this,h2⟩
theorem okH_cons {ko:List Nat}{n:Nat}{ob:Obj}{r:Heap}(h1:(ob.cells.all fun c=>(refs2 c).all fun o=>o<100||ko.contains o)=true)(h2:okH ko r=true):okH ko ((n,ob)::r)=true:=by
 simp only[okH,List.all_cons,zba]
 exact⟨h1,h2⟩
theorem keep_eq {ks ko:List Nat}{s:St}{e:Env}{h:Heap}(h1:(ks.map fun k=>(k,get s.env k))=e)(h2:(s.heap.filter fun p=>p.1<100||ko.contains p.1)=h)
 (h3:(e.all fun p=>(refs p.2).all fun o=>o<100||ko.contains o)=true) (h4:okH ko h=true):keep ks ko s=some ⟨e,h⟩:=by
 subst h1;subst h2
 simp only[keep]
 rw[if_pos]
 rw[zba]
 exact⟨h3,h4⟩
theorem load_map {α:Type}{f:α→AV}{l:List α}{n m sz:Nat}(hf: ∀x,(f x).cp=f x)(hn:n=m):loadC (l.map f) n sz false=(l[m]?).map f:=by
 subst hn
 simp only[loadC]
 rw[←List.map_drop]
 cases hd:l.drop n with
 |nil=>
  have:l.length≤n:=by simpa using hd
  rw[List.getElem?_eq_none this];rfl
 |cons x r=>
  have:l[n]? =some x:=by
   have:=congrArg List.head? hd
   rwa [List.head?_drop]at this
  rw[this]
  simp only[List.map_cons,hf];rfl
theorem storeC_one (cs:List AV)(n:Nat)(v:AV):storeC cs n [v]=if n<cs.length then some (cs.set n v)else none:=by
 induction cs generalizing n with
 |nil=>cases n<;>rfl
 |cons c cs ih=>
  cases n with
  |zero=>cases cs<;>rfl
  |succ n=>
   simp only[storeC,ih,List.length_cons]
   by_cases h:n<cs.length
   ·rw[if_pos h,if_pos (by omega)];rfl
   ·rw[if_neg h,if_neg (by omega)]
theorem store_map {α:Type}{f:α→AV}{l:List α}{n m:Nat}{v:AV}{u:α→α}(hn:n=m)(hv: ∀x,v=f (u x)):storeC (l.map f) n [v]=(mod? l m u).map (fun l=>l.map f):=by
 subst hn
 rw[storeC_one,List.length_map]
 by_cases h:n<l.length
 ·rw[if_pos h,mod_some _ _ _ h,hv l[n],Option.map_some,List.map_set]
 ·rw[if_neg h,mod?,List.getElem?_eq_none (by omega)];rfl
theorem rep_map {α:Type}{f:α→AV}(z:α)(v:AV)(hv:v=f z)(n:Nat):(List.replicate n [v]).flatten=(List.replicate n z).map f:=by
 subst hv
 induction n with
 |zero=>rfl
 |succ n ih=>simp only[List.replicate_succ,List.flatten_cons,ih,List.map_cons];rfl
theorem elems_map {α:Type}{f:α→AV}{l:List α}{a b n:Nat}(hd: ∀x,(f x).dt=f x∧(f x).dcell=true)(hb:a=b):elems (l.map f) a n 1 false=(sub? l b n).map (fun l=>l.map f):=by
 subst hb
 unfold elems sub?
 rw[List.length_map,Nat.mul_one]
 by_cases h:a+n≤l.length
 ·rw[if_pos h,if_pos h]
  have e1:((((l.map f).drop a).take n).map AV.dt)=((l.drop a).take n).map f:=by
   rw[←List.map_drop,←List.map_take,List.map_map]
   exact List.map_congr_left fun x _=>(hd x).1
  rw[e1]
  have e2:(((l.drop a).take n).map f).all AV.dcell=true:=by
   rw[List.all_eq_true]
   intro c hc
   obtain⟨x,-,rfl⟩:=List.mem_map.1 hc
   exact(hd x).2
  simp only[e2,if_true,Bool.false_eq_true,if_false,Option.map_some]
 ·rw[if_neg h,if_neg h];rfl
theorem fm_len {α:Type}{f:α→List AV}{e:Nat}(h: ∀x,(f x).length=e)(l:List α):(l.flatMap f).length=l.length*e:=by
 induction l with
 |nil=>simp
 |cons x l ih=>rw[List.flatMap_cons,List.length_append,ih,h,List.length_cons,Nat.succ_mul];omega
theorem fm_drop {α:Type}{f:α→List AV}{e:Nat}(h: ∀x,(f x).length=e): ∀(l:List α) (k:Nat),(l.flatMap f).drop (k*e)=(l.drop k).flatMap f:=by
 intro l
 induction l with
 |nil=>intro k;simp
 |cons x l ih=>
  intro k
  cases k with
  |zero=>simp
  |succ k=>
   rw[List.flatMap_cons,Nat.succ_mul,Nat.add_comm,List.drop_succ_cons,←ih k,←List.drop_drop,List.drop_left' (h x)]
theorem takeN_app (n:Nat): ∀(a b:List AV),n≤a.length→takeN n (a++b)=takeN n a:=by
 induction n with
 |zero=>intro a b _;cases a<;>rfl
 |succ n ih=>
  intro a b h
  cases a with
  |nil=>simp at h
  |cons c a=>simp only[List.cons_append,takeN,ih a b (by simpa using h)]
theorem load_fm {α:Type}{f:α→List AV}{l:List α}{e n m k sz:Nat}{ag:Bool}{v:α→AV}(h: ∀x,(f x).length=e)(hn:n=m*e+k)(hk:k+(if ag then sz else 1)≤e)(hv: ∀x,loadC (f x) k sz ag=some (v x)):
 loadC (l.flatMap f) n sz ag=if m<l.length then(l[m]?).map v else if ag∧sz=0 then some (.agg [])else none:=by
 subst hn
 have hd:(l.flatMap f).drop (m*e+k)=((l.drop m).flatMap f).drop k:=by rw[←List.drop_drop,fm_drop h]
 by_cases hm:m<l.length
 ·rw[if_pos hm,zge hm,Option.map_some,←hv l[m]]
  simp only[loadC,hd,List.drop_eq_getElem_cons hm,List.flatMap_cons]
  rw[List.drop_append_of_le_length (by rw[h];split at hk<;>omega)]
  cases ag with
  |true=>
   simp only[if_true]at hk
   rw[takeN_app _ _ _ (by rw[List.length_drop,h];omega)]
  |false=>
   simp only[Bool.false_eq_true,if_false]at hk
   have:0<((f l[m]).drop k).length:=by rw[List.length_drop,h];omega
   cases hq:(f l[m]).drop k with
   |nil=>rw[hq]at this;simp at this
   |cons c r=>rfl
 ·rw[if_neg hm]
  have:l.drop m=[]:=by rw[List.drop_eq_nil_iff];omega
  simp only[loadC,hd,this,List.flatMap_nil,List.drop_nil]
  cases ag with
  |true=>cases sz<;>rfl
  |false=>rfl
theorem load_fm1 {α:Type}{f:α→List AV}{l:List α}{e n m k sz:Nat}{ag:Bool}{v:α→AV}(h: ∀x,(f x).length=e)(hn:n=m*e+k)(hk:k+(if ag then sz else 1)≤e)(hs:(ag&&Nat.beq sz 0)=false)(hv: ∀x,loadC (f x) k sz ag=some (v x)):
 loadC (l.flatMap f) n sz ag=(l[m]?).map v:=by
 rw[load_fm h hn hk hv]
 by_cases hm:m<l.length
 ·rw[if_pos hm]
 ·rw[if_neg hm,List.getElem?_eq_none (by omega),if_neg]
  ·rfl
  ·rintro⟨h1,h2⟩
   subst h1;subst h2
   cases hs
theorem over_app (vs:List AV): ∀(a b r:List AV),over a vs=some r→over (a++b) vs=some (r++b):=by
 induction vs with
 |nil=>intro a b r h;cases a<;>(simp only[over,zsi]at h;subst h)<;>cases b<;>rfl
 |cons v vs ih=>
  intro a b r h
  cases a with
  |nil=>cases h
  |cons c a=>
   simp only[over]at h
   cases ho:over a vs with
   |none=>rw[ho]at h;cases h
   |some q=>
    rw[ho]at h
    injection h with h
    subst h
    simp only[List.cons_append,over,ih a b q ho]
theorem storeC_app1 (vs:List AV): ∀(k:Nat) (a b r:List AV),storeC a k vs=some r→storeC (a++b) k vs=some (r++b):=by
 intro k
 induction k with
 |zero=>
  intro a b r h
  have h':over a vs=some r:=by cases a<;>exact h
  have:over (a++b) vs=some (r++b):=over_app vs a b r h'
  cases hab:a++b<;>(rw[hab]at this;exact this)
 |succ k ih=>
  intro a b r h
  cases a with
  |nil=>cases h
  |cons c a=>
   simp only[storeC]at h
   cases ho:storeC a k vs with
   |none=>rw[ho]at h;cases h
   |some q=>
    rw[ho]at h
    injection h with h
    subst h
    simp only[List.cons_append,storeC,ih a b q ho]
theorem storeC_app2 (vs:List AV): ∀(a b r:List AV) (k n:Nat),n=a.length+k→storeC b k vs=some r→storeC (a++b) n vs=some (a++r):=by
 intro a
 induction a with
 |nil=>intro b r k n hn h;rw[hn];simpa using h
 |cons c a ih=>
  intro b r k n hn h
  subst hn
  rw[List.length_cons,show a.length+1+k=(a.length+k)+1 from by omega]
  simp only[List.cons_append,storeC,ih b r k _ rfl h]
theorem storeC_none (vs:List AV)(hv:vs≠[]): ∀(k:Nat) (cs:List AV),cs.length≤k→storeC cs k vs=none:=by
 intro k
 induction k with
 |zero=>
  intro cs h
  cases cs with
  |nil=>cases vs with
   |nil=>exact absurd rfl hv
   |cons v vs=>rfl
  |cons c cs=>simp at h
 |succ k ih=>
  intro cs h
  cases cs with
  |nil=>rfl
  |cons c cs=>simp only[storeC,ih cs (by simpa using h)]
theorem store_fm {α:Type}{f:α→List AV}{l:List α}{e n m k:Nat}{vs:List AV}{u:α→α}(h: ∀x,(f x).length=e)(hn:n=m*e+k)(hv:vs≠[])(hs: ∀x,storeC (f x) k vs=some (f (u x))):
 storeC (l.flatMap f) n vs=(mod? l m u).map (fun l=>l.flatMap f):=by
 subst hn
 by_cases hm:m<l.length
 ·rw[mod_some _ _ _ hm,Option.map_some]
  have e1:l.flatMap f=(l.take m).flatMap f++(f l[m]++(l.drop (m+1)).flatMap f):=by
   conv=>lhs;rw[←List.take_append_drop m l,List.drop_eq_getElem_cons hm]
   rw[List.flatMap_append,List.flatMap_cons]
  have e2:(l.set m (u l[m])).flatMap f=(l.take m).flatMap f++(f (u l[m])++(l.drop (m+1)).flatMap f):=by
   rw[List.set_eq_take_append_cons_drop,if_pos hm,List.flatMap_append,List.flatMap_cons]
  rw[e1,e2]
  exact storeC_app2 vs _ _ _ k _ (by rw[fm_len h,List.length_take,Nat.min_eq_left (by omega)]) (storeC_app1 vs _ _ _ _ (hs _))
 ·rw[mod?,List.getElem?_eq_none (by omega),Option.map_none]
  refine storeC_none vs hv _ _ ?_
  rw[fm_len h]
  have:l.length*e≤m*e:=Nat.mul_le_mul_right _ (by omega)
  omega
theorem rep_fm {α:Type}{f:α→List AV}(z:α)(v:List AV)(hv:v=f z)(n:Nat):(List.replicate n v).flatten=(List.replicate n z).flatMap f:=by
 subst hv
 induction n with
 |zero=>rfl
 |succ n ih=>simp only[List.replicate_succ,List.flatten_cons,ih,List.flatMap_cons]
theorem chunk_fm {α:Type}{f:α→List AV}{e:Nat}(h: ∀x,(f x).length=e)(l:List α):chunk e l.length (l.flatMap f)=l.map fun x=>.agg (f x):=by
 induction l with
 |nil=>rfl
 |cons x l ih=>
  simp only[List.length_cons,chunk,List.flatMap_cons,List.map_cons]
  rw[List.take_left' (h x),List.drop_left' (h x),ih]
theorem elems_fm {α:Type}{f:α→List AV}{g:α→AV}{l:List α}{e a b n:Nat}(h: ∀x,(f x).length=e)(hg: ∀x,g x= .agg ((f x).map AV.dt))(hd: ∀x,((f x).map AV.dt).all AV.dcell=true)(he:0<e)(hb:a=b*e):elems (l.flatMap f) a n e true=(sub? l b n).map (fun l=>l.map g):=by
 subst hb
 unfold elems sub?
 rw[fm_len h]
 by_cases hc:b+n≤l.length
 ·have hc2:b*e+n*e≤l.length*e:=by rw[←Nat.add_mul];exact Nat.mul_le_mul_right _ hc
  rw[if_pos hc2,if_pos hc]
  have e0:((l.drop b).take n).length=n:=by simp;omega
  have e1:((l.flatMap f).drop (b*e)).take (n*e)=((l.drop b).take n).flatMap f:=by
   rw[fm_drop h]
   conv=>lhs;rw[←List.take_append_drop n (l.drop b),List.flatMap_append]
   rw[List.take_left' (by rw[fm_len h,e0])]
  have e2:(((l.drop b).take n).flatMap f).map AV.dt=((l.drop b).take n).flatMap fun x=>(f x).map AV.dt:=by
   rw[List.map_flatMap]
  have hl2: ∀x,((f x).map AV.dt).length=e:=fun x=>by rw[List.length_map,h]
  have e3:(((l.drop b).take n).flatMap fun x=>(f x).map AV.dt).all AV.dcell=true:=by
   rw[List.all_eq_true]
   intro c hcc
   obtain⟨x,-,hx⟩:=List.mem_flatMap.1 hcc
   exact List.all_eq_true.1 (hd x) c hx
  simp only[e1,e2,e3,if_true,Option.map_some]
  have e4:=chunk_fm hl2 ((l.drop b).take n)
  rw[e0]at e4
  rw[e4]
  congr 1
  exact List.map_congr_left fun x _=>(hg x).symm
 ·have hc2: ¬b*e+n*e≤l.length*e:=by
   rw[←Nat.add_mul]
   intro hh
   exact hc (Nat.le_of_mul_le_mul_right hh he)
  rw[if_neg hc2,if_neg hc];rfl
theorem noRef_nil (o:Nat):noRef o []=true:=rfl
theorem noRef_flat {o n:Nat}{w:Bool}{cs:List AV}{r:Heap}(h1:Flat cs)(h2:noRef o r=true):noRef o ((n,⟨w,cs⟩)::r)=true:=by
 have:(cs.all fun c=> !(refs2 c).contains o)=true:=List.all_eq_true.2 fun c hc=>by rw[h1 c hc];rfl
 simp only[noRef,List.all_cons,zba]
 exact⟨this,h2⟩
theorem noRef_cons {o n:Nat}{ob:Obj}{r:Heap}(h1:(ob.cells.all fun c=> !(refs2 c).contains o)=true)(h2:noRef o r=true):noRef o ((n,ob)::r)=true:=by
 simp only[noRef,List.all_cons,zba]
 exact⟨h1,h2⟩
theorem all_map {α:Type}{f:α→AV}{p:AV→Bool}(h: ∀x,p (f x)=true)(l:List α):(l.map f).all p=true:=by
 rw[List.all_map,List.all_eq_true];exact fun x _=>h x
theorem all_fm {α:Type}{f:α→List AV}{p:AV→Bool}(h: ∀x,(f x).all p=true)(l:List α):(l.flatMap f).all p=true:=by
 rw[List.all_eq_true]
 intro c hc
 obtain⟨x,-,hx⟩:=List.mem_flatMap.1 hc
 exact List.all_eq_true.1 (h x) c hx
theorem app_map {α:Type}{f:α→AV}(h: ∀x,(f x).cells=[f x])(l ys:List α):l.map f++(ys.map f).flatMap AV.cells=(l++ys).map f:=by
 rw[List.map_append]
 congr 1
 induction ys with
 |nil=>rfl
 |cons y r ih=>rw[List.map_cons,List.flatMap_cons,ih,h];rfl
theorem app_fm {α:Type}{f:α→List AV}{g:α→AV}(h: ∀x,(g x).cells=f x)(l ys:List α):l.flatMap f++(ys.map g).flatMap AV.cells=(l++ys).flatMap f:=by
 rw[List.flatMap_append]
 congr 1
 induction ys with
 |nil=>rfl
 |cons y r ih=>rw[List.map_cons,List.flatMap_cons,ih,h,List.flatMap_cons]
theorem len_map1 {α:Type}{f:α→AV}(l:List α):(l.map f).length=l.length*1:=by simp
theorem loadC_out {cs:List AV}{n sz:Nat}(h:cs.length≤n):loadC cs n sz false=none:=by
 simp only[loadC]
 rw[List.drop_eq_nil_of_le h]
def isCloneA (P:Program)(f:Nat)(e:Nat)(ag:Bool)(zero:List AV):Bool:=
 match P.funcs[f]? with
 |some fn=> !(fn.name== "runtime.NumGoroutine")&&Nat.ble 1 fn.ntmps&&okRess P fn.results.toList [.t 2]&&(match fn.body with
  |some (.seq (.region _ ops0 false) (.seq (.seq (.region _ ops1 false) (.cond (.tmp 4) c2 .skip)) c3))=>
   okItems P fn.ntmps ops0 ops0.toList [.s 2 (.mv (.c (.lst .full [])))]&&
   (match ops1.toList with
    | [o1,o2]=>okItem P fn.ntmps ops1 o1 (.s 3 (.mv (.t 0)))&&o2.dst==some 4&&Nat.blt 4 fn.ntmps&&o2.guard.isNone&&
      (match o2.op with| .binOp .eql t (.tmp 3) (.const (.slice none 0 0)) ty=>(sliceT P t).isSome|_=>false)
    |_=>false)&&
   okCode P fn.ntmps c2 (.seq (.reg [.s 2 (.nilA 102 e ag (.c (.lst .full [])))] []) .ret)&&
   okCode P fn.ntmps c3 (.seq (.reg [.s 5 (.litZ 105 e ag zero),.s 6 (.mv (.t 0)),.s 7 (.appA e ag (.x 5) (.t 6)),.s 2 (.mv (.x 7))] []) .ret)
  |_=>false)
 |none=>false
section
variable {P:Program} {Γ:Glob} {N0:Base Γ} {m n:Nat} {w w':World} {F X:Cell→Prop} {β:Nat→Cell} {Ow:Key→Cell→Prop} {env env':Env} {h h':Heap} {v:Value} {a0:AV} {a:Act} {o:Oper}
def cloneFA (e:Nat)(ag:Bool):MFunc:={nargs:=1,ntmps:=8,res:=[.t 2],handsRef:=true,body:=.skip}
theorem cloneA_ok {f e:Nat}{ag:Bool}{zero:List AV}(hk:isCloneA P f e ag zero=true){g:Gr}{xs:List AV}(hel:okElems e ag xs=true)(hl:xs.length≤lenMax):Call1 Γ P f [.lst g xs] [] (.arr 0 0 xs.length e ag) [⟨true,xs.flatMap AV.cells⟩]:=by
 unfold isCloneA at hk
 split at hk
 case h_2=>cases hk
 rename_i fn hfn
 simp only[zba,Bool.not_eq_true',Nat.ble_eq]at hk
 obtain⟨⟨⟨k1,k2⟩,k3⟩,k4⟩:=hk
 split at k4
 case h_2=>cases k4
 rename_i id0 ops0 id1 ops1 c2 c3 hbody
 simp only[zba]at k4
 obtain⟨⟨⟨b0,b1⟩,b2⟩,b3⟩:=k4
 split at b1
 case h_2=>cases b1
 rename_i o1 o2 hops1
 simp only[zba,beq_iff_eq]at b1
 obtain⟨⟨⟨⟨b11,b12⟩,b13⟩,b14⟩,b15⟩:=b1
 split at b15
 case h_2=>cases b15
 rename_i t ty hop2
 obtain⟨et,het⟩:=Option.isSome_iff_exists.1 b15
 have het:=sliceT_spec het
 refine⟨Nat.zero_le _,⟨fn,hfn,k1,by rw[hbody];rfl⟩,?_⟩
 intro N0 w F β Ow args' g0 hsz
 have hC: ∀k,k≤0→CallOK Γ P (runs (fun _=>none) (fun _ _=>none) k).call:=fun k hk=>all_ok (M:=fun _=>none) (XE:=fun _ _=>none) (fun _ _ h=>by cases h) (fun _ _ _ _ _ h=>by cases h) 0 k hk
 refine calls_of_wp hfn hbody ?_
 have hsl:slots {tmps:=args'++Array.replicate (fn.ntmps-args'.size) undef,defers:=[]}=fun k=>args'.getD k undef:=by
  funext k
  simp only[slots,Array.getD_eq_getD_getElem?]
  rcases Nat.lt_or_ge k args'.size with hlt|hge
  ·rw[Array.getElem?_append_left hlt]
  ·rw[Array.getElem?_append_right hge,Array.getElem?_eq_none hge,Array.getElem?_replicate]
   split<;>rfl
 have ha0:ActOk fn.ntmps {tmps:=args'++Array.replicate (fn.ntmps-args'.size) undef,defers:=[]}:=⟨by simp at hsz ⊢;omega,rfl⟩
 rw[←hsl]at g0
 have hm0: ∀k,k<0→(hget (enter [AV.lst g xs] []).heap k).isSome=true:=fun k hk=>absurd hk (Nat.not_lt_zero k)
 refine wp_seq (code_wp (M:=fun _=>none) (XE:=fun _ _=>none) (m:=0) (Nat.zero_le _) _ (.reg [.s 2 (.mv (.c (.lst .full [])))] []) (by simpa [okCode]using b0) 0 hC (s:=enter [.lst g xs] []) g0 ha0 hm0 rfl ?_)
 intro a1 w1 β1 O1 x1
 refine wp_seq (wp_seq (wp_region_list ?_))
 rw[hops1]
 refine wpList_step fun K hK=> ?_
 refine item_wp (m:=0) (Nat.zero_le _) (R:=fun _ _ _=>none) (fun _ _ _ _ _ h=>by cases h) x1.gr x1.act (fun k hk=>absurd hk (Nat.not_lt_zero k)) b11 rfl fun a2 w2 β2 O2 x2=>hK _ _ ?_
 have x2:=x1.trans x2
 refine wpList_step fun K hK=> ?_
 have hg2:o2.guard=none:=by simpa using b14
 rw[if_pos (by simp[Region.wanted,hg2])]
 have hv3:=(x2.gr.slot 3).1
 have hv3':VRel w2 (XX F O2) β2 (a2.eval (.tmp 3)) (.lst g.cp xs):=hv3
 obtain⟨A,len,cap,hev,hnil⟩: ∃A len cap,a2.eval (.tmp 3)= .slice A len cap∧(A=none→xs=[]):=by
  generalize a2.eval (.tmp 3)=z at hv3'
  cases hv3' with
  |lst0 A cap g hg=>exact⟨A,0,cap,rfl,fun _=>rfl⟩
  |lst b o e cap g xs val hc hg hx hv h=>exact⟨_,_,_,rfl,fun h=>by cases h⟩
 unfold Oper.wp
 rw[run_nilCmp het hop2 hev]
 refine hK _ _ ?_
 have g3:=x2.gr.pend (v':=.bool A.isNone) (a':=.bool A.isNone) (.bool _) (.of rfl) (by simp)
 obtain⟨O3,g4,a4,x4⟩:=g3.done x2.act o2.dst (fun k hk=>by rw[b12]at hk;injection hk with hk;subst hk;exact Nat.le_of_ble_eq_true b13)
 rw[b12]at g4 a4 ⊢
 generalize hA:A.isNone=bb at g4 a4 ⊢
 let sB:St:=⟨(4,.bool bb)::(3,.lst g.cp xs)::(2,.lst .full [])::(enter [AV.lst g xs] []).env,[]⟩
 have c4:Come N0 F 0 fn.ntmps w β Ow sB _ _ β2 O3:=⟨a4,g4,x2.kp.shrink fun c hc=>XX_drop (x4 c hc),x2.ff,x2.at_,fun k hk=>absurd hk (Nat.not_lt_zero k)⟩
 refine wpList_nil ?_
 show(Code.cond (.tmp 4) c2 .skip).wp P _ _ _
 have hkc:okCode P fn.ntmps (.cond (.tmp 4) c2 .skip) (.cond (.t 4) (.seq (.reg [.s 2 (.nilA 102 e ag (.c (.lst .full [])))] []) .ret) .skip)=true:=by
  simp only[okCode,zba]at b2 ⊢
  exact⟨⟨by simp[okT],b2⟩,trivial⟩
 cases bb with
 |true=>
  have hx0:xs=[]:=hnil (by simpa using hA)
  refine code_wp (M:=fun _=>none) (XE:=fun _ _=>none) (m:=0) (Nat.zero_le _) _ _ hkc 0 hC (s:=sB) (e:=.ret) c4.gr c4.act c4.has rfl fun a' w' β' Ow' hc=> ?_
  have:=(fin_ok (G:=cloneFA e ag) (n0:=0) k3 (res:=.arr 0 0 0 e ag) (hout:=[⟨true,[]⟩]) rfl).2 N0 fn.ntmps F w β Ow a' w' β' Ow' (c4.trans hc)
  rw[hx0]
  exact this
 |false=>
  refine code_wp (M:=fun _=>none) (XE:=fun _ _=>none) (m:=0) (Nat.zero_le _) _ _ hkc 0 hC (s:=sB) (e:=.norm) c4.gr c4.act c4.has rfl fun a' w' β' Ow' hc=> ?_
  have hc:=c4.trans hc
  have hflat:Flat (xs.flatMap AV.cells):=by
   intro c hc
   refine dcell_refs2 (delem_flat (fun x hx=> ?_) c hc)
   have:=List.all_eq_true.1 hel x hx
   simp only[zba]at this
   exact this.1.1
  have hel':okElems e ag xs=true:=hel
  let sC:St:=⟨(6,.lst g.cp xs)::(5,.arw 105 0 e ag)::sB.env,[(105,⟨true,[]⟩)]⟩
  let sD:St:=⟨(2,.arw 105 (0+xs.length) e ag)::(7,.arr 105 0 (0+xs.length) e ag)::(7,.arw 105 (0+xs.length) e ag)::killE 105 sC.env,[(105,⟨true,[]++xs.flatMap AV.cells⟩)]⟩
  have hA: ∀R:CallF,opv R sC.env sC.heap (.appA e ag (.x 5) (.t 6))=some (.arw 105 (0+xs.length) e ag,killE 105 sC.env,[(105,⟨true,[]++xs.flatMap AV.cells⟩)]):=by
   intro R
   show(if e=e∧ag=ag then(some xs).bind fun ys=>(some (⟨true,[]⟩:Obj)).bind fun ob=>
    if ob.wr∧ob.cells.length=0*e∧okElems e ag ys∧0+ys.length≤lenMax∧noRef 105 [(105,(⟨true,[]⟩:Obj))]∧(ob.cells.all fun c=>c.notOwn&&(refs2 c).isEmpty)∧100≤105 then
     some (AV.arw 105 (0+ys.length) e ag,killE 105 sC.env,hset [(105,(⟨true,[]⟩:Obj))] 105 {ob with cells:=ob.cells++ys.flatMap AV.cells})else none else none)=_
   rw[if_pos ⟨rfl,rfl⟩]
   simp only[zbs]
   rw[if_pos ⟨trivial,by simp,hel',by omega,rfl,rfl,by omega⟩]
   rfl
  have hD:step (runs (fun _=>none) (fun _ _=>none) 0) (.seq (.reg [.s 5 (.litZ 105 e ag zero),.s 6 (.mv (.t 0)),.s 7 (.appA e ag (.x 5) (.t 6)),.s 2 (.mv (.x 7))] []) .ret) sB=some (.ret,sD):=by
   have h1:runOps (runs (fun _=>none) (fun _ _=>none) 0).call [.s 5 (.litZ 105 e ag zero),.s 6 (.mv (.t 0)),.s 7 (.appA e ag (.x 5) (.t 6)),.s 2 (.mv (.x 7))] sB=some sD:=by
    have h2:runOps (runs (fun _=>none) (fun _ _=>none) 0).call [.s 5 (.litZ 105 e ag zero),.s 6 (.mv (.t 0)),.s 7 (.appA e ag (.x 5) (.t 6)),.s 2 (.mv (.x 7))] sB=
     (((opv (runs (fun _=>none) (fun _ _=>none) 0).call sC.env sC.heap (.appA e ag (.x 5) (.t 6))).map fun(v,env,h)=>(⟨putD (some 7) v env,h⟩:St)).bind (runOps (runs (fun _=>none) (fun _ _=>none) 0).call [.s 2 (.mv (.x 7))])):=rfl
    rw[h2,hA]
    rfl
   simp only[step,h1,zbs]
   rfl
  have hF:finish (cloneFA e ag) 0 sD=some (.arr 0 0 xs.length e ag,[⟨true,xs.flatMap AV.cells⟩]):=by
   have h1:reach sD.heap 64 (List.range 0++[105]) []=some [105]:=by
    show reach sD.heap 63 ([]++([]++xs.flatMap AV.cells).flatMap refs2) [105]=_
    rw[List.nil_append,List.nil_append,hflat.to];rfl
   show((reach sD.heap 64 (List.range 0++[105]) []).bind fun ns=>_)=_
   rw[h1]
   show some (AV.arr 0 0 (0+xs.length) e ag,[(⟨true,([]++xs.flatMap AV.cells).map (ren2 (idx [105]))⟩:Obj)])=_
   rw[List.nil_append,hflat.ren,Nat.zero_add]
  exact code_wp (M:=fun _=>none) (XE:=fun _ _=>none) (m:=0) (Nat.zero_le _) _ _ b3 0 hC (s:=sB) (e:=.ret) hc.gr hc.act hc.has hD fun a2 w2 β3 O5 hc2=>
   (fin_ok (G:=cloneFA e ag) (n0:=0) k3 hF).2 N0 fn.ntmps F w β Ow a2 w2 β3 O5 (hc.trans hc2)
end
def cloneAX (L:List (Nat×Nat×Bool)):Nat→List AV→Option (AV×List Obj)
 |f,[.lst _ xs]=>match L.find? (fun p=>Nat.beq p.1 f)with
  |some p=>if okElems p.2.1 p.2.2 xs&&Nat.ble xs.length lenMax then some (.arr 0 0 xs.length p.2.1 p.2.2,[⟨true,xs.flatMap AV.cells⟩])else none
  |none=>none
 |_,_=>none
theorem cloneAX_ok {Γ:Glob}{P:Program}{M:Prog}{L:List (Nat×Nat×Bool)}{Z:List (List AV)}(h:(List.zip L Z).all (fun p=>isCloneA P p.1.1 p.1.2.1 p.1.2.2 p.2)=true)(hl:L.length=Z.length):ExtOK Γ P M (cloneAX L):=by
 intro f args v o _ hx
 unfold cloneAX at hx
 split at hx
 ·rename_i g xs
  split at hx
  ·rename_i p hp
   split at hx
   ·rename_i hc
    simp only[zsi,zpi]at hx
    obtain⟨rfl,rfl⟩:=hx
    simp only[zba,Nat.ble_eq]at hc
    have hmem:=List.mem_of_find?_eq_some hp
    have hf:p.1=f:=by simpa using List.find?_some hp
    obtain⟨i,hi,rfl⟩:=List.getElem_of_mem hmem
    have:=List.all_eq_true.1 h (L[i],Z[i]'(by omega)) (by
     rw[List.mem_iff_getElem]
     exact⟨i,by simp;omega,by simp⟩)
    simp only at this
    rw[←hf]
    exact cloneA_ok this hc.1 hc.2
   ·cases hx
  ·cases hx
 ·cases hx
def orX (A B:Nat→List AV→Option (AV×List Obj)):Nat→List AV→Option (AV×List Obj):=fun f as=>match A f as with
 |some r=>some r
 |none=>B f as
theorem orX_ok {Γ:Glob}{P:Program}{M:Prog}{A B:Nat→List AV→Option (AV×List Obj)}(hA:ExtOK Γ P M A)(hB:ExtOK Γ P M B):ExtOK Γ P M (orX A B):=by
 intro f args v o hM h
 unfold orX at h
 cases hq:A f args with
 |some r=>rw[hq]at h;injection h with h;subst h;exact hA f args _ _ hM hq
 |none=>rw[hq]at h;exact hB f args v o hM h
section
variable {P:Program} {Γ:Glob} {N0:Base Γ} {w w':World} {F X:Cell→Prop} {β:Nat→Cell} {Ow:Key→Cell→Prop} {env:Env} {h:Heap} {v:Value} {a:AV} {sl:Nat→Value}
theorem ext_of_below (h:Go.RowKit.Below w.heap.size w w'):Ext w w':=⟨h.os,h.tape,h.output,h.size,h.block⟩
theorem gr_ext (g:GR N0 w F β Ow sl env h v a)(x:Ext w w'){u:Value}{res:AV}(hv:VRel w' (XX F fun _ _=>False) β u res)(hn:res.notOwn=true)(hr:refs res=[]):
 GR N0 w' F β (fun _ _=>False) (fun _=>undef) [] [] u res∧Kp N0 w (XX F Ow) w' (XX F fun _ _=>False)∧FF F w w':=by
 have hX: ∀c,XX F (fun _ _=>False) c→F c:=fun c hc=>hc.elim id fun⟨_,hk⟩=>hk.elim
 have hlt: ∀c,F c→c.1<w.heap.size:=fun c hc=>by
  obtain⟨⟨u,hu⟩,-⟩:=g.inv.live c (.inl hc)
  exact cat_lt hu
 refine⟨{
  inv:=⟨fun _ _ _ h=>h.elim,fun _ _ h=>h.elim,fun c hc=> ?_,fun c hc=>g.inv.low c (.inl (hX c hc)),Nat.le_trans g.inv.base x.size,fun k hk=>(x.blk k (Nat.lt_of_lt_of_le hk g.inv.base)).trans (g.inv.glob k hk)⟩
  slot:=fun k=>⟨.undef _,.of rfl⟩
  val:=⟨hv,.of hn⟩
  obj:=fun nm ob hb=>by cases hb
  refE:=fun k o ho=>by cases ho
  refV:=fun o ho=>by rw[hr]at ho;cases ho
  refH:=fun nm ob hb=>by cases hb},⟨x.os,x.tape,x.output,x.size,fun c hc=>x.cfz hc,fun k hk=>x.blk k (Nat.lt_of_lt_of_le hk g.inv.base),fun c u hc hx=>⟨(x.cat (cat_lt hc)).trans hc,fun h2=>hx (.inl (hX c h2))⟩⟩,fun c hc=>⟨x.cat (hlt c hc),x.cfz (hlt c hc)⟩⟩
 have:=g.inv.live c (.inl (hX c hc))
 rw[x.cat (hlt c (hX c hc)),x.cfz (hlt c (hX c hc))]
 exact this
theorem call1_ext {f:Nat}{args:List AV}{res:AV}(hfn: ∃fn,P.funcs[f]? =some fn∧(fn.name== "runtime.NumGoroutine")=false∧fn.body.isNone=false)(hn:res.notOwn=true)(hr:refs res=[])
 (H: ∀(N0:Base Γ) (w:World) (X:Cell→Prop) (β:Nat→Cell) (vals:Array Value),(∀k,k<N0.n→w.heap[k]? =N0.H k)→(∀c,X c→c.1<w.heap.size)→vals.size=args.length→(∀i (h1:i<vals.size) (h2:i<args.length),VRel w X β vals[i] args[i])→
   Calls P f vals w fun e w'=> ∃u,e= .returned u∧(∀X',(∀c,X' c→X c)→VRel w' X' β u res)∧Ext w w'):Call1 Γ P f args [] res []:=by
 refine⟨Nat.le_refl _,hfn,fun N0 w F β Ow args' g hsz=> ?_⟩
 refine(H N0 w (XX F Ow) β args' g.inv.glob (fun c hc=>by obtain⟨⟨u,hu⟩,-⟩:=g.inv.live c hc;exact cat_lt hu) hsz fun i h1 h2=> ?_).mono ?_
 ·have:=(g.slot i).1
  simp only[enter,get_enter]at this
  rw[List.getD_eq_getElem?_getD,zge h2,Array.getD_eq_getD_getElem?,Array.getElem?_eq_getElem h1]at this
  exact this
 ·rintro e w' ⟨u,rfl,hv,x⟩
  obtain⟨q1,q2,q3⟩:=gr_ext g x (hv (XX F fun _ _=>False) fun c hc=>hc.elim (fun h=>.inl h) fun⟨_,hk⟩=>hk.elim) hn hr
  exact⟨u,_,β,rfl,fun _ _=>rfl,q1,hn,q2,q3⟩
end
def repeatX (n:Nat):Nat→List AV→Option (AV×List Obj)
 |f,[.str s,.int .i64 c]=>match Nat.beq f n with
  |true=>if 0≤c∧c≤9223372036854775807∧s.length*c.toNat≤140737488355328 then some (.str (Lib.repeatL s c.toNat),[])else none
  |false=>none
 |_,_=>none
theorem repeatX_ok {Γ:Glob}{P:Program}{M:Prog}{n:Nat}(hfn: ∃fn,P.funcs[n]? =some fn∧(fn.name== "runtime.NumGoroutine")=false∧fn.body.isNone=false)
 (H: ∀(s:ByteArray) (c:Nat) (w:World),c≤9223372036854775807→s.size*c≤140737488355328→Calls P n #[.string s,.int .i64 c] w fun e w'=>e= .returned (.string ⟨(Lib.repeatL s.data.toList c).toArray⟩)∧Go.RowKit.Below w.heap.size w w'):ExtOK Γ P M (repeatX n):=by
 intro f args v o _ hx
 unfold repeatX at hx
 split at hx
 ·rename_i s c
  split at hx
  ·rename_i hb
   have:=Nat.eq_of_beq_eq_true hb
   subst this
   split at hx
   ·rename_i hc
    obtain⟨h0,h1,h2⟩:=hc
    simp only[zsi,zpi]at hx
    obtain⟨rfl,rfl⟩:=hx
    refine call1_ext hfn rfl rfl fun _ w X β vals _ _ hsz hv=> ?_
    have hv0:=hv 0 (by rw[hsz];simp) (by simp)
    have hv1:=hv 1 (by rw[hsz];simp) (by simp)
    obtain⟨by_,ex,hby⟩: ∃by_:ByteArray,vals[0]'(by rw[hsz];simp)= .string by_∧by_.data.toList=s:=by
     generalize vals[0]'(by rw[hsz];simp)=z at hv0
     cases hv0 with|str by_ l h=>exact⟨by_,rfl,h⟩
    have ey:vals[1]'(by rw[hsz];simp)= .int .i64 c:=by
     generalize vals[1]'(by rw[hsz];simp)=z at hv1
     cases hv1;rfl
    have ev:vals= #[.string by_,.int .i64 (c.toNat:Nat)]:=by
     apply Array.ext
     ·rw[hsz];rfl
     ·intro i h3 h4
      have h4:i<2:=by simpa using h4
      match i,h4 with
      |0,_=>exact ex
      |1,_=>rw[ey];show _=Value.int .i64 ((c.toNat:Nat):Int);rw[Int.toNat_of_nonneg h0]
    have hsize:by_.size=s.length:=by rw[←hby];rfl
    rw[ev]
    refine(H by_ c.toNat w (by omega) (by rw[hsize];exact h2)).mono ?_
    rintro e w' ⟨rfl,hb2⟩
    exact⟨_,rfl,fun X' _=>.str _ _ (by rw[hby]),ext_of_below hb2⟩
   ·cases hx
  ·cases hx
 ·cases hx
theorem au {α β:Type}{P:Option α}{G:α→Option β→Prop}{x y:Option β}(k:Sim P G y)(h:Sim P G y→Sim P G x:=by
 intro k
 (conv=>arg 3;whnf)
 repeat((first|refine Sim.ks (by assumption) rfl ?_|refine Sim.kr (by assumption) ?_|refine Sim.goB (by assumption) ?_|refine Sim.goB (decide_eq_true (by assumption)) ?_|refine Sim.goF (by assumption) ?_|refine Sim.goF (decide_eq_false (by assumption)) ?_);(conv=>arg 3;whnf))
 exact k):Sim P G x:=h k
theorem cE {α β γ:Type}{G:α→Option β→Prop}{R L:MRec}(hR:R=L){f:Nat}{as:List AV}{hs:List Obj}{Pc:Option γ}{e:γ→AV×List Obj}{P:γ→Option α}{K:AV×List Obj→Option β}(hc:Sim Pc (Gv fun r q=>q=e r) (L.call f as hs))(k: ∀r,Sim (P r) G (K (e r))):
 Sim (Pc.bind P) G (kO.match_1 (motive:=fun _=>Option β) (R.call f as hs) (fun a=>K a) (fun _=>none)):=Sim.callR hR hc fun r q hq=>by subst hq;exact k r
@[reducible] def mmL (mx:Bool)(a:Int)(l:List Int):Int:=l.foldl (fun x y=>if mx then(if y>x then y else x)else(if y<x then y else x)) a
theorem mmL_max (a:Int)(l:List Int):mmL true a l=l.foldl max a:=by
 unfold mmL
 congr 1
 funext x y
 rw[if_pos rfl,Int.max_def]
 split<;>split<;>omega
abbrev glv {α:Type}(f:α→AV)(p:Gr×List α):AV:=.lst p.1 (p.2.map f)
instance : Inhabited Gr:=⟨.no⟩
instance (e :Nat)(g:Gr):Decidable (Mg e g):=by unfold Mg;infer_instance
theorem elems_fmP {α γ:Type}{f:α→List AV}{g:γ→AV}(p:α→γ){l:List α}{e a b n:Nat}(h: ∀x,(f x).length=e)(hg: ∀x,g (p x)= .agg ((f x).map AV.dt))(hd: ∀x,((f x).map AV.dt).all AV.dcell=true)(he:0<e)(hb:a=b*e):
 elems (l.flatMap f) a n e true=(sub? l b n).map (fun l=>(l.map p).map g):=by
 rw[elems_fm (g:=fun x=>g (p x)) h hg hd he hb]
 congr 1;funext l;rw[List.map_map];rfl
theorem elems_mapP {α γ:Type}{f:α→AV}{g:γ→AV}(p:α→γ){l:List α}{a b n:Nat}(hd: ∀x,(f x).dt=g (p x)∧(g (p x)).dcell=true)(hb:a=b):
 elems (l.map f) a n 1 false=(sub? l b n).map (fun l=>(l.map p).map g):=by
 subst hb
 unfold elems sub?
 rw[List.length_map,Nat.mul_one]
 by_cases h:a+n≤l.length
 ·rw[if_pos h,if_pos h]
  have e1:((((l.map f).drop a).take n).map AV.dt)=(((l.drop a).take n).map p).map g:=by
   rw[←List.map_drop,←List.map_take,List.map_map,List.map_map]
   exact List.map_congr_left fun x _=>(hd x).1
  rw[e1]
  have e2:((((l.drop a).take n).map p).map g).all AV.dcell=true:=by
   rw[List.all_eq_true]
   intro c hc
   obtain⟨y,hy,rfl⟩:=List.mem_map.1 hc
   obtain⟨x,-,rfl⟩:=List.mem_map.1 hy
   exact(hd x).2
  simp only[e2,if_true,Bool.false_eq_true,if_false,Option.map_some]
 ·rw[if_neg h,if_neg h];rfl
theorem app_fmU {α γ:Type}{f:α→List AV}{g:γ→AV}(u:γ→α)(h: ∀x,(g x).cells=f (u x))(l:List α)(ys:List γ):l.flatMap f++(ys.map g).flatMap AV.cells=(l++ys.map u).flatMap f:=by
 rw[List.flatMap_append]
 congr 1
 induction ys with
 |nil=>rfl
 |cons y r ih=>rw[List.map_cons,List.flatMap_cons,ih,h,List.map_cons,List.flatMap_cons]
theorem mod_len {α:Type}{l r:List α}{j:Nat}{u:α→α}(h:mod? l j u=some r):r.length=l.length:=by
 unfold mod? at h
 obtain⟨x,-,rfl⟩:=Option.map_eq_some_iff.1 h
 rw[List.length_set]
def Dec {α:Type}(es:List TC)(ag:Bool)(f:α→AV)(P:α→Prop):Prop:= ∀cs,wfcs es cs→∃y,mkE ag cs=f y∧P y
def I64 (n:Int):Prop:= -9223372036854775808≤n∧n≤9223372036854775807
def SL {α:Type}(l:List α):Prop:=l.length≤9223372036854775807
theorem Dec.one {α:Type}{t:TC}{f:α→AV}{P:α→Prop}(h: ∀a,wfc t a→∃y,a=f y∧P y):Dec [t] false f P:=by
 intro cs hc
 obtain⟨a,r,rfl,h1,h2⟩:=wfcs_cons hc
 exact h a h1
theorem Dec.i64 :Dec [.i .i64] false iav I64:=.one fun a h=>by
 obtain⟨n,rfl,h1,h2⟩:=h
 exact⟨n,rfl,h1,h2⟩
theorem Dec.u8 :Dec [.i .u8] false u8av (fun n=>0≤n∧n≤255):=.one fun a h=>by
 obtain⟨n,rfl,h1,h2⟩:=h
 exact⟨n,rfl,h1,h2⟩
theorem Dec.bool :Dec [.b] false bav (fun _=>True):=.one fun a h=>by
 obtain⟨n,rfl⟩:=h
 exact⟨n,rfl,trivial⟩
theorem Dec.str :Dec [.s] false sav SL:=.one fun a h=>by
 obtain⟨n,rfl,h1⟩:=h
 exact⟨n,rfl,h1⟩
theorem Dec.list {α:Type}{es:List TC}{ag:Bool}{f:α→AV}{P:α→Prop}(d:Dec es ag f P):Dec [.l es ag] false (lav f) (fun l=>SL l∧∀x∈l,P x):=.one fun a h=>by
 obtain⟨xs,rfl,h1,h2⟩:=h
 have: ∃l:List α,xs=l.map f∧∀x∈l,P x:=by
  clear h1
  induction xs with
  |nil=>exact⟨[],rfl,by simp⟩
  |cons x xs ih=>
   obtain⟨l,rfl,hl⟩:=ih fun y hy=>h2 y (List.mem_cons_of_mem _ hy)
   obtain⟨cs,hc,rfl⟩:=h2 x (by simp)
   obtain⟨y,e,hy⟩:=d cs hc
   exact⟨y::l,by rw[e];rfl,fun z hz=>(List.mem_cons.1 hz).elim (fun e=>e▸hy) (hl z)⟩
 obtain⟨l,rfl,hl⟩:=this
 exact⟨l,rfl,by simpa [SL]using h1,hl⟩
theorem Dec.cons {α:Type}{t:TC}{ts:List TC}{f:α→AV}{P:α→Prop}{cs:List AV}(d:Dec [t] false f P)(h:wfcs (t::ts) cs): ∃y r,cs=f y::r∧P y∧wfcs ts r:=by
 obtain⟨a,r,rfl,h1,h2⟩:=wfcs_cons h
 obtain⟨y,e,hy⟩:=d [a] ⟨h1,trivial⟩
 obtain rfl:a=f y:=e
 exact⟨y,r,rfl,hy,h2⟩
theorem Dec.arg {α:Type}{es:List TC}{ag:Bool}{f:α→AV}{P:α→Prop}{L:List (List TC×Bool)}{l:List AV}(d:Dec es ag f P)(h:ArgsOf ((es,ag)::L) l): ∃y r,l=f y::r∧P y∧ArgsOf L r:=by
 cases l with
 |nil=>exact h.elim
 |cons a r=>
  obtain⟨⟨cs,h1,rfl⟩,h2⟩:=h
  obtain⟨y,e,hy⟩:=d cs h1
  exact⟨y,r,by rw[e],hy,h2⟩
theorem Dec.end_ {l:List AV}(h:ArgsOf [] l):l=[]:=by
 cases l with
 |nil=>rfl
 |cons a r=>exact h.elim
class HS {α β:Type} (P:Option α) (Q:outParam (Option β)) (R:outParam (α→β→Prop)):Prop where
 h:Sim P (Gv R) Q
class HG {α:Type} (P:Option α) (L:outParam MRec) (f:outParam Nat) (pre:outParam (List AV→List Obj→Prop)) (R:outParam (α→AV×List Obj→Prop)):Prop where
 h: ∀a hs,pre a hs→Sim P (Gv R) (L.call f a hs)
class HL {ρ:Type} (P:Option ρ) (L:outParam MRec) (l:outParam (List Nat×List Nat×List Nat×MCode)) (pre:outParam (St→Prop)) (R:outParam (ρ→Ex×St→Prop)):Prop where
 h: ∀s e,keep l.1 l.2.1 s=some e→pre e→Sim P (Gv R) (L.loop l s)
@[reducible] def rE {ρ:Type}(f:ρ→Ex×St)(r:ρ)(q:Ex×St):Prop:=q=f r
@[reducible] def rS {γ δ:Type}(A:γ→Ex×St→Prop)(B:δ→Ex×St→Prop)(r:γ⊕δ)(q:Ex×St):Prop:=Sum.elim (fun r=>A r q) (fun r=>B r q) r
theorem kp {ks ko:List Nat}{s e:St}(h:keep ks ko s=some e:=by
 first
 |exact rfl
 |exact keep_eq rfl rfl rfl (by repeat(first|exact okH_nil _|refine okH_flat (Flat.map (fun _=>rfl) _) ?_|refine okH_flat (Flat.fm (fun _=>Flat.of rfl) _) ?_|refine okH_cons rfl ?_))):keep ks ko s=some e:=h
theorem pz {p:Prop}(h:p:=by
 first
 |exact rfl
 |(repeat' (first|exact rfl|exact Mg.full|exact Mg.own|assumption|apply And.intro|apply Exists.intro))):p:=h
namespace Sim
variable {α β γ δ:Type} {G:α→Option β→Prop}
theorem hc {R L:MRec}(hR:R=L){f:Nat}{a:List AV}{hs:List Obj}{Pc:Option γ}{Rel:γ→AV×List Obj→Prop} [i:HS Pc (L.call f a hs) Rel]{P:γ→Option α}{K:AV×List Obj→Option β}(k: ∀r q,Rel r q→Sim (P r) G (K q)):
 Sim (Pc.bind P) G (kO.match_1 (motive:=fun _=>Option β) (R.call f a hs) (fun a=>K a) (fun _=>none)):=callR hR i.h k
theorem hg {R L:MRec}(hR:R=L){f:Nat}{a:List AV}{hs:List Obj}{Pc:Option γ}{pre:List AV→List Obj→Prop}{Rel:γ→AV×List Obj→Prop} [i:HG Pc L f pre Rel]{P:γ→Option α}{K:AV×List Obj→Option β}(hp:pre a hs)(k: ∀r q,Rel r q→Sim (P r) G (K q)):
 Sim (Pc.bind P) G (kO.match_1 (motive:=fun _=>Option β) (R.call f a hs) (fun a=>K a) (fun _=>none)):=callR hR (i.h a hs hp) k
theorem hl {R L:MRec}(hR:R=L){l:List Nat×List Nat×List Nat×MCode}{s e:St}{Pc:Option γ}{pre:St→Prop}{Rel:γ→Ex×St→Prop} [i:HL Pc L l pre Rel]{P:γ→Option α}{K:Ex×St→Option β}(hk:keep l.1 l.2.1 s=some e)(hp:pre e)(k: ∀r q,Rel r q→Sim (P r) G (K q)):
 Sim (Pc.bind P) G (kO.match_1 (motive:=fun _=>Option β) (R.loop l s) (fun a=>K a) (fun _=>none)):=callL hR (i.h s e hk hp) k
theorem hl2 {ε:Type}{R L:MRec}(hR:R=L){l:List Nat×List Nat×List Nat×MCode}{s e:St}{Pc:Option (γ⊕ε)}{pre:St→Prop}{Rel:γ⊕ε→Ex×St→Prop} [i:HL Pc L l pre Rel]{P1:γ→Option α}{P2:ε→Option α}{K:Ex×St→Option β}(hk:keep l.1 l.2.1 s=some e)(hp:pre e)
 (k1: ∀r q,Rel (.inl r) q→Sim (P1 r) G (K q)) (k2: ∀r q,Rel (.inr r) q→Sim (P2 r) G (K q)):
 Sim (Pc.bind fun r=>Sum.elim P1 P2 r) G (kO.match_1 (motive:=fun _=>Option β) (R.loop l s) (fun a=>K a) (fun _=>none)):=callL hR (i.h s e hk hp) fun r _ h=>match r,h with| .inl _,h=>k1 _ _ h| .inr _,h=>k2 _ _ h
theorem kiM {S:Stp}(hS:S=stp){f:γ→AV}{l:List γ}{P:Option α}{K:Int→Option β}(k:Sim P G (K (l.length:Int))):Sim P G (S.kI ((l.map f).length:Int) K):=ki hS (by rw[List.length_map]) k
theorem kn2 {S:Stp}(hS:S=stp){f:γ→AV}{l:List γ}{P:Option α}{K:Nat→Option β}(k:Sim P G (K l.length)):Sim P G (S.kN (l.map f).length K):=kn hS (by rw[List.length_map]) k
theorem klA {S:Stp}(hS:S=stp){f:γ→AV}{l m:List γ}{P:Option α}{K:List AV→Option β}(k:Sim P G (K ((l++m).map f))):Sim P G (S.kL (l.map f++m.map f) K):=kl hS (List.map_append).symm k
theorem iP {c:Prop} [Decidable c]{P Q:Option α}{x:Option β}(h:c)(k:Sim P G x):Sim (if c then P else Q) G x:=by rw[if_pos h];exact k
theorem iN {c:Prop} [Decidable c]{P Q:Option α}{x:Option β}(h: ¬c)(k:Sim Q G x):Sim (if c then P else Q) G x:=by rw[if_neg h];exact k
end Sim
theorem fin {α β:Type}{P:Option α}{G:α→Option β→Prop}{x:Option β}(h:Sim P G x:=by
 (conv=>arg 3;whnf)
 repeat' (first
  |exact Sim.ret ⟨_,rfl,pz⟩
  |exact Sim.ret ⟨_,_,rfl,kp,pz⟩
  |exact Sim.no
  |(refine Sim.ks (by assumption) rfl ?_;(conv=>arg 3;whnf))
  |(refine Sim.kr (by assumption) ?_;(conv=>arg 3;whnf))
  |(refine Sim.goB (by assumption) ?_;(conv=>arg 3;whnf))
  |(refine Sim.goB (decide_eq_true (by assumption)) ?_;(conv=>arg 3;whnf))
  |(refine Sim.goF (by assumption) ?_;(conv=>arg 3;whnf))
  |(refine Sim.goF (decide_eq_false (by assumption)) ?_;(conv=>arg 3;whnf))
  |(refine Sim.hc (by assumption) ?_;intro _ _ hr;(first|cases(show _=_ from hr)|(obtain⟨_,rfl⟩:=hr)|(obtain⟨_,rfl,_⟩:=hr)|(obtain⟨_,_,rfl⟩:=hr)|(obtain⟨_,_,rfl,h1⟩:=hr;try(obtain⟨_,_⟩:=(show _∧_ from h1))));(conv=>arg 3;whnf))
  |(refine Sim.hg (by assumption) pz ?_;intro _ _ hr;(first|cases(show _=_ from hr)|(obtain⟨_,rfl⟩:=hr)|(obtain⟨_,rfl,_⟩:=hr)|(obtain⟨_,_,rfl⟩:=hr)|(obtain⟨_,_,rfl,h1⟩:=hr;try(obtain⟨_,_⟩:=(show _∧_ from h1))));(conv=>arg 3;whnf))
  |(refine Sim.ite Iff.rfl (fun _=> ?_) fun _=> ?_<;>(conv=>arg 3;whnf))
  |(refine Sim.iteB (fun _=> ?_) fun _=> ?_<;>(conv=>arg 3;whnf))
  |(refine Sim.kiM (by assumption) ?_;(conv=>arg 3;whnf))
  |(refine Sim.ix (by rw[List.length_map]) fun _ _=> ?_;(conv=>arg 3;whnf);refine Sim.go (idx_map _ (by assumption)) ?_;(conv=>arg 3;whnf))
  |(refine Sim.ix rfl fun _ _=> ?_;(conv=>arg 3;whnf);refine Sim.go (by assumption) ?_;(conv=>arg 3;whnf))
  |(refine Sim.guard fun _=> ?_;(conv=>arg 3;whnf))
  |(refine Sim.hl2 (by assumption) kp pz (fun _ _ hr=> ?_) (fun _ _ hr=> ?_)<;>((first|cases(show _=_ from hr)|(obtain⟨_,rfl⟩:=hr)|(obtain⟨_,rfl,_⟩:=hr)|(obtain⟨_,_,rfl⟩:=hr)|(obtain⟨_,_,rfl,h1⟩:=hr;try(obtain⟨_,_⟩:=(show _∧_ from h1))));(conv=>arg 3;whnf)))
  |(refine Sim.hl (by assumption) kp pz (fun _ _ hr=> ?_);(first|cases(show _=_ from hr)|(obtain⟨_,rfl⟩:=hr)|(obtain⟨_,rfl,_⟩:=hr)|(obtain⟨_,_,rfl⟩:=hr)|(obtain⟨_,_,rfl,h1⟩:=hr;try(obtain⟨_,_⟩:=(show _∧_ from h1))));(conv=>arg 3;whnf))
  |(refine Sim.kfn (Flat.to (Flat.map (fun _=>rfl) _)) ?_;(conv=>arg 3;whnf))
  |(refine Sim.kfn (Flat.to (Flat.fm (fun _=>Flat.of rfl) _)) ?_;(conv=>arg 3;whnf))
  |(refine Sim.kfl (Flat.ren (Flat.map (fun _=>rfl) _) _) ?_;(conv=>arg 3;whnf))
  |(refine Sim.kfl (Flat.ren (Flat.fm (fun _=>Flat.of rfl) _) _) ?_;(conv=>arg 3;whnf))
  |(refine Sim.kn2 (by assumption) ?_;(conv=>arg 3;whnf))
  |(refine Sim.klA (by assumption) ?_;(conv=>arg 3;whnf))
  |(refine Sim.kl (by assumption) rfl ?_;(conv=>arg 3;whnf))
  |(refine Sim.goB (okE_map (by intro _;exact⟨rfl,rfl,rfl⟩) _) ?_;(conv=>arg 3;whnf))
  |(refine Sim.goB (may_map (by intro _;rfl) (by assumption) _) ?_;(conv=>arg 3;whnf))
  |(refine Sim.goB (headE_map (by intro _;rfl) _) ?_;(conv=>arg 3;whnf))
  |(refine Sim.go kp ?_;(conv=>arg 3;whnf))
  |(refine Sim.iP (by assumption) ?_)
  |(refine Sim.iN (by assumption) ?_))):Sim P G x:=h
namespace MI
def m (a b:Nat):MI:=.s a (.mv (.t b))
def mx (a b:Nat):MI:=.s a (.mv (.x b))
def mi (a:Nat)(n:Int):MI:=.s a (.mv (.i n))
def mb (a:Nat)(b:Bool):MI:=.s a (.mv (.c (.bool b)))
def l (a b:Nat):MI:=.s a (.ld 1 false (.t b))
def L (a n b:Nat):MI:=.s a (.ld n true (.t b))
def f (a n b:Nat):MI:=.s a (.fa n (.t b))
def b (a:Nat)(o:BinOp)(x y:Nat):MI:=.s a (.bin o (.t x) (.t y))
def bi (a:Nat)(o:BinOp)(x:Nat)(n:Int):MI:=.s a (.bin o (.t x) (.i n))
def bc (a:Nat)(o:BinOp)(x:Nat)(v:AV):MI:=.s a (.bin o (.t x) (.c v))
def po (a x:Nat)(b:Bool)(y:Nat):MI:=.s a (.pick (.t x) (.c (.bool b)) (.t y))
def pa (a x y:Nat)(b:Bool):MI:=.s a (.pick (.t x) (.t y) (.c (.bool b)))
def e (a b:Nat):MI:=.s a (.len false (.t b))
def es (a b:Nat):MI:=.s a (.len true (.t b))
def ix (a n x i:Nat):MI:=.s a (.ia n (.t x) (.t i))
def is (a x i:Nat):MI:=.s a (.ixS (.t x) (.t i))
def S (n a v:Nat):MI:=.n (.st n (.t a) (.t v))
def no (a b:Nat):MI:=.s a (.un .not (.t b))
def ex (a b i:Nat):MI:=.s a (.ext (.t b) i)
def be (a b:Nat):MI:=.s a (.boxE (.t b))
def nc (a b:Nat):MI:=.s a (.nilc (.t b))
def k (a f:Nat)(l:List Opd):MI:=.s a (.call f .tree l)
def kd (a f:Nat)(l:List Opd):MI:=.s a (.call f .data l)
def kr (a f n:Nat)(l:List Opd):MI:=.s a (.call f (.ref n) l)
def nw (a n:Nat)(l:List AV):MI:=.s a (.new n l)
def bd (a:Nat)(l:List AV)(p:List (Nat×Nat×Opd)):MI:=.s a (.build l p)
def li (a e:Nat)(g:Bool)(z:List AV)(n:Nat)(p:List (Nat×Opd)):MI:=.s a (.lit e g z n p)
def w (j:Nat)(b:Bool)(i:MI):MI:=⟨i.dst,some (j,b),i.op⟩
end MI
namespace MCode
def r (l:List MI):MCode:=.reg l []
def q (l:List MI)(x:MCode):MCode:=.seq (.reg l []) x
def c (t:Nat)(a b:MCode):MCode:=.cond (.t t) a b
def i (t:Nat)(a:MCode):MCode:=.cond (.t t) a .skip
def u (t e:Nat)(x:MCode):MCode:=.seq (.cond (.t t) .skip (.exit e)) x
def k (a b:MCode):MCode:=.seq a b
def o (n:Nat)(b:MCode):MCode:=.block n b
end MCode
def AV.z :AV:=.int .i64 0
def AV.n :AV:=.lst .full []
def AV.e :AV:=.str []
def AV.o :AV:=.bool false
theorem okAll_of {P:Program}{l:List (Nat×MFunc)}(h:(l.all fun p=>okFunc P p.1 p.2)=true):OkAll P l:=by
 induction l with
 |nil=>exact .nil
 |cons p r ih=>
  rw[List.all_cons,zba]at h
  exact .cons h.1 (ih h.2)
end Go.Proofs.PF
