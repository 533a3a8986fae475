/-
  Plain texts of this claim. Conditions: none beyond each theorem's own.
-/
import Derived.Test.YtaoijbibmcgdaaaGreatX6
set_option linter.unusedVariables false
set_option linter.unusedSimpArgs false
namespace Go.Proofs.YtaoijbibmcgdaaaGreat.x0
noncomputable section
open Go.Proofs Go.Proofs.PF Go.RowKit
theorem Qo {α:Type}{f:α→AV}(hf: ∀x y,f x=f y→x=y){a b:List α}(h:lav f a=lav f b):a=b:=by
 injection h with _ h
 induction a generalizing b with
 |nil=>cases b<;>first|rfl|cases h
 |cons x a ih=>
  cases b with
  |nil=>cases h
  |cons y b=>
   simp only[List.map_cons,List.cons.injEq]at h
   rw[hf _ _ h.1,ih h.2]
theorem bT {a b:Int}(h:iav a=iav b):a=b:=by injection h
theorem Aqn {a b:List UInt8}(h:sav a=sav b):a=b:=by injection h
theorem qY {a b:Ag}(h:Ag.av a=Ag.av b):a=b:=by
 cases a;cases b
 simp only[Ag.av,AV.agg.injEq,List.cons.injEq,AV.int.injEq,AV.str.injEq,true_and,and_true]at h
 simpa using h
theorem Aqf {a b:Ac}(h:Ac.av a=Ac.av b):a=b:=by
 cases a;cases b
 simp only[Ac.av,AV.agg.injEq,List.cons.injEq,AV.int.injEq,AV.str.injEq,AV.bool.injEq,true_and,and_true]at h
 obtain⟨rfl,rfl,rfl,rfl,rfl,rfl,h⟩:=h
 rw[Qo (fun _ _=>qY) h]
theorem Ap0 {a b:Af}(h:Af.av a=Af.av b):a=b:=by
 cases a with|mk c f=>cases b with|mk c' f'=>
 cases c;cases c'
 simp only[Af.av,AV.agg.injEq,List.cons.injEq,AV.int.injEq,true_and,and_true]at h
 obtain⟨rfl,rfl,rfl,rfl,rfl,rfl,rfl,rfl,rfl,rfl,h,h2⟩:=h
 rw[Qo (fun _ _=>bT) h,Qo (fun _ _=>bT) h2]
theorem Aos {a b:Ah}(h:Ah.av a=Ah.av b):a=b:=by
 cases a;cases b
 simp only[Ah.av,AV.agg.injEq,List.cons.injEq,AV.int.injEq,AV.str.injEq,true_and,and_true]at h
 obtain⟨rfl,rfl,h,h2⟩:=h
 rw[Qo (fun _ _=>Aqn) h,Qo (fun _ _=>Qo fun _ _=>qY) h2]
def atR (rows:List (List Ac))(t node:Int):Ac:=(Dc rows t node).getD default
theorem uU (rows:List (List Ac))(t node:Int):Dc rows t node=some (atR rows t node):=by
 unfold atR
 have: ∃r,Dc rows t node=some r:=by
  unfold Dc
  split
  ·exact⟨_,rfl⟩
  ·split
   ·exact⟨_,rfl⟩
   ·split
    ·exact⟨_,rfl⟩
    ·rename_i h1 h2 h3
     have e:idx? rows t=some (rows[t.toNat]'(by omega)):=by
      unfold idx?
      rw[if_pos (by omega),zge (by omega)]
     rw[e,zbs]
     split
     ·exact⟨_,rfl⟩
     ·rename_i h4
      rw[zbs]
      have e2:idx? (rows[t.toNat]'(by omega)) node=some ((rows[t.toNat]'(by omega))[node.toNat]'(by omega)):=by
       unfold idx?
       rw[if_pos (by omega),zge (by omega)]
      rw[e2]
      exact⟨_,rfl⟩
 obtain⟨r,hr⟩:=this
 rw[hr];rfl
def gN (L:Nat)(fr to:Int):Nat:=(min to L-max fr 0).toNat
def aD (rows:List (List Ac))(node fr to:Int):List Ag:=(List.range (gN rows.length fr to)).flatMap fun k:Nat=>(atR rows (max fr 0+(k:Int)) node).Got
def tC (rows:List (List Ac))(fr:Int):Prop:=rows.length≤4096∧(∀l∈rows,∀r∈l,r.Got.length≤1048576)∧ -9223372036854775808≤fr∧fr≤9223372036854775807
instance (rows :List (List Ac))(fr:Int):Decidable (tC rows fr):=by unfold tC;infer_instance
def Abw (rows:List (List Ac))(node fr to:Int):Option (List Ag):=if tC rows fr then some (aD rows node fr to)else none
def Avh (args:List AV)(v:AV):Prop:= ∃rows node fr to l,args=[lav (lav Ac.av) rows,iav node,iav fr,iav to]∧Abw rows node fr to=some l∧v=lav Ag.av l
def Adb (n f:Nat)(args:List AV):Option (AV×List PF.Obj):=match Nat.beq f n with
 |true=> @dite _ (∃v,Avh args v) (Classical.propDecidable _) (fun h=>some (h.choose,[])) (fun _=>none)
 |false=>none
theorem An7 {n:Nat}{rows:List (List Ac)}{node fr to:Int}{l:List Ag}(h:Abw rows node fr to=some l):Adb n n [lav (lav Ac.av) rows,iav node,iav fr,iav to]=some (lav Ag.av l,[]):=by
 have hx: ∃v,Avh [lav (lav Ac.av) rows,iav node,iav fr,iav to] v:=⟨_,rows,node,fr,to,l,rfl,h,rfl⟩
 unfold Adb
 rw[Nat.beq_refl]
 simp only
 rw[dif_pos hx]
 obtain⟨rows',node',fr',to',l',e,h',ev⟩:=hx.choose_spec
 simp only[List.cons.injEq,and_true]at e
 obtain⟨e1,e2,e3,e4⟩:=e
 have e1:=Qo (fun _ _=>Qo fun _ _=>Aqf) e1
 have e2:=bT e2
 have e3:=bT e3
 have e4:=bT e4
 subst e1 e2 e3 e4
 rw[h]at h'
 injection h' with h'
 subst h'
 rw[ev]
theorem xD {rows:List (List Ac)}(h: ∀l∈rows,∀r∈l,r.Got.length≤1048576){t node:Int}{r:Ac}(hr:Dc rows t node=some r):r.Got.length≤1048576:=by
 unfold Dc at hr
 split at hr
 ·injection hr with hr;subst hr;simp
 ·split at hr
  ·injection hr with hr;subst hr;simp
  ·split at hr
   ·injection hr with hr;subst hr;simp
   ·obtain⟨z0,hz0,hr⟩:=zbi hr
    split at hr
    ·injection hr with hr;subst hr;simp
    ·obtain⟨z2,hz2,hr⟩:=zbi hr
     obtain⟨z3,hz3,hr⟩:=zbi hr
     injection hr with hr
     subst hr
     exact h _ (List.mem_of_getElem? (W7 hz2)) _ (List.mem_of_getElem? (W7 hz3))
theorem Apw {M:Prog}(hfn: ∃fn,Tryz.prog.funcs[113]? =some fn∧(fn.name== "runtime.NumGoroutine")=false∧fn.body.isNone=false)(_:Unit):Rd noG Tryz.prog M (Adb 113):=by
 intro f args v o _ hx
 unfold Adb at hx
 split at hx
 case h_2=>cases hx
 rename_i hb
 have:=Nat.eq_of_beq_eq_true hb
 subst this
 split at hx
 case isFalse=>cases hx
 rename_i hex
 injection hx with hx
 injection hx with hx1 hx2
 subst hx2
 obtain⟨rows,node,fr,to,l,e,hp,ev⟩:=hex.choose_spec
 rw[hx1]at ev
 subst ev
 subst e
 unfold Abw at hp
 split at hp
 case isFalse=>cases hp
 rename_i hc
 injection hp with hp
 obtain⟨c1,c2,c3,c4⟩:=hc
 refine dC hfn rfl rfl fun _ w X β vals _ hX hsz hv=> ?_
 have sh: ∀{u:Value} {a:AV},VRel w X β u a→VRel w nX β u a:=fun h=>h.mono ((Kp.refl 0 w X).shrink fun _ h=>h.elim)
 have v0:=sh (hv 0 (by rw[hsz];simp) (by simp))
 have v1:=hv 1 (by rw[hsz];simp) (by simp)
 have v2:=hv 2 (by rw[hsz];simp) (by simp)
 have v3:=hv 3 (by rw[hsz];simp) (by simp)
 obtain⟨A0,cap0,e0⟩:=Qm v0
 have e1:vals[1]'(by rw[hsz];simp)= .int .i64 node:=by generalize vals[1]'(by rw[hsz];simp)=z at v1;cases v1;rfl
 have e2:vals[2]'(by rw[hsz];simp)= .int .i64 fr:=by generalize vals[2]'(by rw[hsz];simp)=z at v2;cases v2;rfl
 have e3:vals[3]'(by rw[hsz];simp)= .int .i64 to:=by generalize vals[3]'(by rw[hsz];simp)=z at v3;cases v3;rfl
 rw[List.length_map]at e0
 have ea:vals= #[.slice A0 rows.length cap0,.int .i64 node,.int .i64 fr,.int .i64 to]:=by
  apply Array.ext
  ·rw[hsz];rfl
  ·intro i h1 h2
   have:i<4:=h2
   match i,this with
   |0,_=>exact e0
   |1,_=>exact e1
   |2,_=>exact e2
   |3,_=>exact e3
 simp only[List.getElem_cons_zero]at v0
 rw[e0]at v0
 subst ea
 have hR:VRel w nX β (.slice A0 (rows.map (lav Ac.av)).length cap0) (lav (lav Ac.av) rows):=by rw[List.length_map];exact v0
 let N:=gN rows.length fr to
 have hat: ∀k:Nat,∃x:ElT w β,x.1.t=max fr 0+k∧x.1.r=atR rows (max fr 0+k) node∧∀n W,Below w.heap.size w W→CallsIn Fence.wide n Tryz.prog 112 #[.slice A0 rows.length cap0,.int .i64 (max fr 0+k),.int .i64 node] W fun e W'=>e= .returned (elR x.1)∧Below W.heap.size W W':=by
  intro k
  obtain⟨me,A,cap,h1,h2,h3⟩:=Aua hR (max fr 0+k) node _ (uU rows _ node)
  rw[List.length_map]at h2 h3
  refine⟨⟨⟨max fr 0+k,atR rows (max fr 0+k) node,me,A,cap⟩,h1,h2,xD c2 (uU rows _ node)⟩,rfl,rfl,fun n W hB=> ?_⟩
  have:=h3 n W hB
  rw[List.length_map]at this
  exact this
 have hG:=Au8 3 (Nat.le_refl _) A0 rows.length cap0 node fr to (max fr 0) N rfl (by intro k hk;simp only[N,gN]at hk ⊢;omega) (by omega) ⟨c3,c4⟩ (fun k=>(hat k).choose) (fun k _=>(hat k).choose_spec.1) (fun k _=>(hat k).choose_spec.2.2) (by simp only[N,gN];omega) (w:=w) (β:=β)
 have egl:gl ((List.range N).map fun k=>(hat k).choose)=l:=by
  rw[←hp]
  simp only[gl,aD,List.flatMap_map]
  congr 1
  funext k
  rw[(hat k).choose_spec.2.1]
 rw[egl]at hG
 refine(callsIn_wide.1 hG).mono ?_
 rintro e' w' ⟨v,rfl,hrow,hB⟩
 refine⟨v,rfl,fun X' hX'=> ?_,⟨hB.os,hB.tape,hB.output,hB.size,fun k hk=>hB.block k hk⟩⟩
 rcases hrow.2 with⟨rfl,h0⟩|⟨g,cap,cur,rfl,hg,hgb,hk,-,hcs,hct⟩
 ·have:l=[]:=List.eq_nil_of_length_eq_zero h0
  subst this
  exact .lst0 _ _ _ (by simp)
 ·have hl:(l.map Ag.av).length=l.length:=List.length_map ..
  rw[←hl]
  have hcl:((l.map Ag.av).flatMap AV.cells).length=l.length*4:=by
   rw[Rk (e:=4) (by intro x hx;obtain⟨d,-,rfl⟩:=List.mem_map.1 hx;rfl),hl]
  refine .lst g 0 4 cap .no (l.map Ag.av) (fun j=>((l.flatMap dvals)[j]?).getD undef) (by rw[hl];exact hk) (by simp) (fun x hx=> ?_) (fun j hj=> ?_) fun j hj=> ?_
  ·obtain⟨d,-,rfl⟩:=List.mem_map.1 hx;exact⟨rfl,rfl⟩
  ·rw[hl]at hj
   have hj2:j<(l.flatMap dvals).length:=by rw[Yv];exact hj
   refine⟨?_,fun hx=> ?_⟩
   ·simp only[Nat.zero_add]
    rw[zge hj2,Option.getD_some]
    have hj3:j<cur.size:=by rw[hcs];have:=Nat.mul_le_mul_right 4 hk;omega
    have h1:=(Be hgb j hj3).1
    have h2:(l.flatMap dvals)[j]? =cur.toList[j]? :=by
     rw[←hct,List.getElem?_take,if_pos (by omega)]
    rw[zge hj2,zge (by simpa using hj3)]at h2
    injection h2 with h2
    rw[h2]
    simpa [cat]using h1
   ·have:=hX _ (hX' _ hx)
    simp only at this
    omega
  ·have hj2:j<(l.flatMap dvals).length:=by rw[Yv];omega
   have hi:j/4<l.length:=by omega
   have hm:j%4<4:=Nat.mod_lt _ (by omega)
   have e1:=iV hi hm
   rw[show j/4*4+j%4=j from by omega]at e1
   have e2:((l.map Ag.av).flatMap AV.cells)[j]? =some ((Ag.av l[j/4]).cells[j%4]'(by simpa using hm)):=by
    have:=(Vn (e:=4) ((l.map Ag.av).map AV.cells) (by intro x hx;simp only[List.map_map,List.mem_map]at hx;obtain⟨d,-,rfl⟩:=hx;rfl)).2 (j/4) (j%4) (by simpa using hi) (by simpa using hm)
    rw[←List.flatMap_def,show j/4*4+j%4=j from by omega]at this
    rw[this]
    simp
   rw[zge hj]at e2
   injection e2 with e2
   rw[e2]
   refine Adh hm ?_
   rw[←e1,zge hj2]
   rfl
end
end Go.Proofs.YtaoijbibmcgdaaaGreat.x0
