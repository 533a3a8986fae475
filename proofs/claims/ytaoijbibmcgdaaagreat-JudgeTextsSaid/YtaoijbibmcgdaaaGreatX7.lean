/-
  Plain texts of this claim. Conditions: none beyond each theorem's own.
-/
import Derived.Test.YtaoijbibmcgdaaaGreatX6
set_option linter.unusedVariables false
set_option linter.unusedSimpArgs false
namespace Go.Proofs.YtaoijbibmcgdaaaGreat.x0
open Go.Proofs Go.Proofs.PF Go.RowKit
theorem lav_inj {α:Type}{f:α→AV}(hf: ∀x y,f x=f y→x=y){a b:List α}(h:lav f a=lav f b):a=b:=by
 injection h with _ h
 induction a generalizing b with
 |nil=>cases b<;>first|rfl|cases h
 |cons x a ih=>
  cases b with
  |nil=>cases h
  |cons y b=>
   simp only[List.map_cons,List.cons.injEq]at h
   rw[hf _ _ h.1,ih h.2]
theorem iav_inj {a b:Int}(h:iav a=iav b):a=b:=by injection h
theorem sav_inj {a b:List UInt8}(h:sav a=sav b):a=b:=by injection h
theorem del_inj {a b:GDeliver}(h:GDeliver.av a=GDeliver.av b):a=b:=by
 cases a;cases b
 simp only[GDeliver.av,AV.agg.injEq,List.cons.injEq,AV.int.injEq,AV.str.injEq,true_and,and_true]at h
 simpa using h
theorem rep_inj {a b:GReport}(h:GReport.av a=GReport.av b):a=b:=by
 cases a;cases b
 simp only[GReport.av,AV.agg.injEq,List.cons.injEq,AV.int.injEq,AV.str.injEq,AV.bool.injEq,true_and,and_true]at h
 obtain⟨rfl,rfl,rfl,rfl,rfl,rfl,h⟩:=h
 rw[lav_inj (fun _ _=>del_inj) h]
theorem mac_inj {a b:Ground_machine}(h:Ground_machine.av a=Ground_machine.av b):a=b:=by
 cases a with|mk c f=>cases b with|mk c' f'=>
 cases c;cases c'
 simp only[Ground_machine.av,AV.agg.injEq,List.cons.injEq,AV.int.injEq,true_and,and_true]at h
 obtain⟨rfl,rfl,rfl,rfl,rfl,rfl,rfl,rfl,rfl,rfl,h,h2⟩:=h
 rw[lav_inj (fun _ _=>iav_inj) h,lav_inj (fun _ _=>iav_inj) h2]
theorem rnd_inj {a b:GRound}(h:GRound.av a=GRound.av b):a=b:=by
 cases a;cases b
 simp only[GRound.av,AV.agg.injEq,List.cons.injEq,AV.int.injEq,AV.str.injEq,true_and,and_true]at h
 obtain⟨rfl,rfl,h,h2⟩:=h
 rw[lav_inj (fun _ _=>sav_inj) h,lav_inj (fun _ _=>lav_inj fun _ _=>del_inj) h2]
noncomputable def atR (rows:List (List GReport))(t node:Int):GReport:=(trace_At rows t node).getD default
theorem at_total (rows:List (List GReport))(t node:Int):trace_At rows t node=some (atR rows t node):=by
 unfold atR
 have: ∃r,trace_At rows t node=some r:=by
  unfold trace_At
  split
  ·exact⟨_,rfl⟩
  ·split
   ·exact⟨_,rfl⟩
   ·split
    ·exact⟨_,rfl⟩
    ·rename_i h1 h2 h3
     have e:idx? rows t=some (rows[t.toNat]'(by omega)):=by
      unfold idx?
      rw[if_pos (by omega),zge (by omega)]
     rw[e,zbs]
     split
     ·exact⟨_,rfl⟩
     ·rename_i h4
      rw[zbs]
      have e2:idx? (rows[t.toNat]'(by omega)) node=some ((rows[t.toNat]'(by omega))[node.toNat]'(by omega)):=by
       unfold idx?
       rw[if_pos (by omega),zge (by omega)]
      rw[e2]
      exact⟨_,rfl⟩
 obtain⟨r,hr⟩:=this
 rw[hr];rfl
def gN (L:Nat)(fr to:Int):Nat:=(min to L-max fr 0).toNat
noncomputable def gotL (rows:List (List GReport))(node fr to:Int):List GDeliver:=(List.range (gN rows.length fr to)).flatMap fun k:Nat=>(atR rows (max fr 0+(k:Int)) node).Got
def gotC (rows:List (List GReport))(fr:Int):Prop:=rows.length≤4096∧(∀l∈rows,∀r∈l,r.Got.length≤1048576)∧ -9223372036854775808≤fr∧fr≤9223372036854775807
instance (rows :List (List GReport))(fr:Int):Decidable (gotC rows fr):=by unfold gotC;infer_instance
noncomputable def gotP (rows:List (List GReport))(node fr to:Int):Option (List GDeliver):=if gotC rows fr then some (gotL rows node fr to)else none
def gotR (args:List AV)(v:AV):Prop:= ∃rows node fr to l,args=[lav (lav GReport.av) rows,iav node,iav fr,iav to]∧gotP rows node fr to=some l∧v=lav GDeliver.av l
noncomputable def gotX (n:Nat)(f:Nat)(args:List AV):Option (AV×List PF.Obj):=match Nat.beq f n with
 |true=> @dite _ (∃v,gotR args v) (Classical.propDecidable _) (fun h=>some (h.choose,[])) (fun _=>none)
 |false=>none
theorem gotX_eq {n:Nat}{rows:List (List GReport)}{node fr to:Int}{l:List GDeliver}(h:gotP rows node fr to=some l):gotX n n [lav (lav GReport.av) rows,iav node,iav fr,iav to]=some (lav GDeliver.av l,[]):=by
 have hx: ∃v,gotR [lav (lav GReport.av) rows,iav node,iav fr,iav to] v:=⟨_,rows,node,fr,to,l,rfl,h,rfl⟩
 unfold gotX
 rw[Nat.beq_refl]
 simp only
 rw[dif_pos hx]
 obtain⟨rows',node',fr',to',l',e,h',ev⟩:=hx.choose_spec
 simp only[List.cons.injEq,and_true]at e
 obtain⟨e1,e2,e3,e4⟩:=e
 have e1:=lav_inj (fun _ _=>lav_inj fun _ _=>rep_inj) e1
 have e2:=iav_inj e2
 have e3:=iav_inj e3
 have e4:=iav_inj e4
 subst e1 e2 e3 e4
 rw[h]at h'
 injection h' with h'
 subst h'
 rw[ev]
theorem at_mem {rows:List (List GReport)}(h: ∀l∈rows,∀r∈l,r.Got.length≤1048576){t node:Int}{r:GReport}(hr:trace_At rows t node=some r):r.Got.length≤1048576:=by
 unfold trace_At at hr
 split at hr
 ·injection hr with hr;subst hr;simp
 ·split at hr
  ·injection hr with hr;subst hr;simp
  ·split at hr
   ·injection hr with hr;subst hr;simp
   ·obtain⟨z0,hz0,hr⟩:=zbi hr
    split at hr
    ·injection hr with hr;subst hr;simp
    ·obtain⟨z2,hz2,hr⟩:=zbi hr
     obtain⟨z3,hz3,hr⟩:=zbi hr
     injection hr with hr
     subst hr
     exact h _ (List.mem_of_getElem? (idx_some hz2)) _ (List.mem_of_getElem? (idx_some hz3))
theorem gotX_ok {M:Prog}(hfn: ∃fn,Tryz.prog.funcs[113]? =some fn∧(fn.name== "runtime.NumGoroutine")=false∧fn.body.isNone=false)(_:Unit):ExtOK noG Tryz.prog M (gotX 113):=by
 intro f args v o _ hx
 unfold gotX at hx
 split at hx
 case h_2=>cases hx
 rename_i hb
 have:=Nat.eq_of_beq_eq_true hb
 subst this
 split at hx
 case isFalse=>cases hx
 rename_i hex
 injection hx with hx
 injection hx with hx1 hx2
 subst hx2
 obtain⟨rows,node,fr,to,l,e,hp,ev⟩:=hex.choose_spec
 rw[hx1]at ev
 subst ev
 subst e
 unfold gotP at hp
 split at hp
 case isFalse=>cases hp
 rename_i hc
 injection hp with hp
 obtain⟨c1,c2,c3,c4⟩:=hc
 refine call1_ext hfn rfl rfl fun _ w X β vals _ hX hsz hv=> ?_
 have sh: ∀{u:Value} {a:AV},VRel w X β u a→VRel w nX β u a:=fun h=>h.mono ((Kp.refl 0 w X).shrink fun _ h=>h.elim)
 have v0:=sh (hv 0 (by rw[hsz];simp) (by simp))
 have v1:=hv 1 (by rw[hsz];simp) (by simp)
 have v2:=hv 2 (by rw[hsz];simp) (by simp)
 have v3:=hv 3 (by rw[hsz];simp) (by simp)
 obtain⟨A0,cap0,e0⟩:=lst_len v0
 have e1:vals[1]'(by rw[hsz];simp)= .int .i64 node:=by generalize vals[1]'(by rw[hsz];simp)=z at v1;cases v1;rfl
 have e2:vals[2]'(by rw[hsz];simp)= .int .i64 fr:=by generalize vals[2]'(by rw[hsz];simp)=z at v2;cases v2;rfl
 have e3:vals[3]'(by rw[hsz];simp)= .int .i64 to:=by generalize vals[3]'(by rw[hsz];simp)=z at v3;cases v3;rfl
 rw[List.length_map]at e0
 have ea:vals= #[.slice A0 rows.length cap0,.int .i64 node,.int .i64 fr,.int .i64 to]:=by
  apply Array.ext
  ·rw[hsz];rfl
  ·intro i h1 h2
   have:i<4:=h2
   match i,this with
   |0,_=>exact e0
   |1,_=>exact e1
   |2,_=>exact e2
   |3,_=>exact e3
 simp only[List.getElem_cons_zero]at v0
 rw[e0]at v0
 subst ea
 have hR:VRel w nX β (.slice A0 (rows.map (lav GReport.av)).length cap0) (lav (lav GReport.av) rows):=by rw[List.length_map];exact v0
 let N:=gN rows.length fr to
 have hat: ∀k:Nat,∃x:ElT w β,x.1.t=max fr 0+k∧x.1.r=atR rows (max fr 0+k) node∧∀n W,Below w.heap.size w W→CallsIn Fence.wide n Tryz.prog 112 #[.slice A0 rows.length cap0,.int .i64 (max fr 0+k),.int .i64 node] W fun e W'=>e= .returned (elR x.1)∧Below W.heap.size W W':=by
  intro k
  obtain⟨me,A,cap,h1,h2,h3⟩:=at_val hR (max fr 0+k) node _ (at_total rows _ node)
  rw[List.length_map]at h2 h3
  refine⟨⟨⟨max fr 0+k,atR rows (max fr 0+k) node,me,A,cap⟩,h1,h2,at_mem c2 (at_total rows _ node)⟩,rfl,rfl,fun n W hB=> ?_⟩
  have:=h3 n W hB
  rw[List.length_map]at this
  exact this
 have hG:=Got_in 3 (Nat.le_refl _) A0 rows.length cap0 node fr to (max fr 0) N rfl (by intro k hk;simp only[N,gN]at hk ⊢;omega) (by omega) ⟨c3,c4⟩ (fun k=>(hat k).choose) (fun k _=>(hat k).choose_spec.1) (fun k _=>(hat k).choose_spec.2.2) (by simp only[N,gN];omega) (w:=w) (β:=β)
 have egl:gl ((List.range N).map fun k=>(hat k).choose)=l:=by
  rw[←hp]
  simp only[gl,gotL,List.flatMap_map]
  congr 1
  funext k
  rw[(hat k).choose_spec.2.1]
 rw[egl]at hG
 refine(callsIn_wide.1 hG).mono ?_
 rintro e' w' ⟨v,rfl,hrow,hB⟩
 refine⟨v,rfl,fun X' hX'=> ?_,⟨hB.os,hB.tape,hB.output,hB.size,fun k hk=>hB.block k hk⟩⟩
 rcases hrow.2 with⟨rfl,h0⟩|⟨g,cap,cur,rfl,hg,hgb,hk,-,hcs,hct⟩
 ·have:l=[]:=List.eq_nil_of_length_eq_zero h0
  subst this
  exact .lst0 _ _ _ (by simp)
 ·have hl:(l.map GDeliver.av).length=l.length:=List.length_map ..
  rw[←hl]
  have hcl:((l.map GDeliver.av).flatMap AV.cells).length=l.length*4:=by
   rw[lenF (e:=4) (by intro x hx;obtain⟨d,-,rfl⟩:=List.mem_map.1 hx;rfl),hl]
  refine .lst g 0 4 cap .no (l.map GDeliver.av) (fun j=>((l.flatMap dvals)[j]?).getD undef) (by rw[hl];exact hk) (by simp) (fun x hx=> ?_) (fun j hj=> ?_) fun j hj=> ?_
  ·obtain⟨d,-,rfl⟩:=List.mem_map.1 hx;exact⟨rfl,rfl⟩
  ·rw[hl]at hj
   have hj2:j<(l.flatMap dvals).length:=by rw[dvals_len];exact hj
   refine⟨?_,fun hx=> ?_⟩
   ·simp only[Nat.zero_add]
    rw[zge hj2,Option.getD_some]
    have hj3:j<cur.size:=by rw[hcs];have:=Nat.mul_le_mul_right 4 hk;omega
    have h1:=(cell_of hgb j hj3).1
    have h2:(l.flatMap dvals)[j]? =cur.toList[j]? :=by
     rw[←hct,List.getElem?_take,if_pos (by omega)]
    rw[zge hj2,zge (by simpa using hj3)]at h2
    injection h2 with h2
    rw[h2]
    simpa [cat]using h1
   ·have:=hX _ (hX' _ hx)
    simp only at this
    omega
  ·have hj2:j<(l.flatMap dvals).length:=by rw[dvals_len];omega
   have hi:j/4<l.length:=by omega
   have hm:j%4<4:=Nat.mod_lt _ (by omega)
   have e1:=dvals_at hi hm
   rw[show j/4*4+j%4=j from by omega]at e1
   have e2:((l.map GDeliver.av).flatMap AV.cells)[j]? =some ((GDeliver.av l[j/4]).cells[j%4]'(by simpa using hm)):=by
    have:=(flatten_at (e:=4) ((l.map GDeliver.av).map AV.cells) (by intro x hx;simp only[List.map_map,List.mem_map]at hx;obtain⟨d,-,rfl⟩:=hx;rfl)).2 (j/4) (j%4) (by simpa using hi) (by simpa using hm)
    rw[←List.flatMap_def,show j/4*4+j%4=j from by omega]at this
    rw[this]
    simp
   rw[zge hj]at e2
   injection e2 with e2
   rw[e2]
   refine dval_rel' hm ?_
   rw[←e1,zge hj2]
   rfl
end Go.Proofs.YtaoijbibmcgdaaaGreat.x0
