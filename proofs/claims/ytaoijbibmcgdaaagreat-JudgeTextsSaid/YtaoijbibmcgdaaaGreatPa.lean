/-
  What the rows' arguments are known to be.
-/
import Derived.Test.YtaoijbibmcgdaaaGreatPFe
import Derived.Test.YtaoijbibmcgdaaaGreatDb
set_option linter.unusedVariables false
set_option linter.unusedSimpArgs false
namespace Go.Proofs.YtaoijbibmcgdaaaGreat
open Go.Proofs.PF
def GSend.In (x:GSend):Prop:=I64 x.From∧I64 x.To∧I64 x.Delay∧SL x.Bytes
theorem GSend.dec :Dec [.i .i64,.i .i64,.i .i64,.s] true GSend.av GSend.In:=by
 intro cs h
 obtain⟨x0,_,rfl,p0,h⟩:=Dec.i64.cons h
 obtain⟨x1,_,rfl,p1,h⟩:=Dec.i64.cons h
 obtain⟨x2,_,rfl,p2,h⟩:=Dec.i64.cons h
 obtain⟨x3,_,rfl,p3,h⟩:=Dec.str.cons h
 obtain rfl:=wfcs_nil h
 exact⟨⟨x0,x1,x2,x3⟩,rfl,p0,p1,p2,p3⟩
def GBurst.In (x:GBurst):Prop:=I64 x.Node∧SL x.Image
theorem GBurst.dec :Dec [.i .i64,.s] true GBurst.av GBurst.In:=by
 intro cs h
 obtain⟨x0,_,rfl,p0,h⟩:=Dec.i64.cons h
 obtain⟨x1,_,rfl,p1,h⟩:=Dec.str.cons h
 obtain rfl:=wfcs_nil h
 exact⟨⟨x0,x1⟩,rfl,p0,p1⟩
def GWrite.In (x:GWrite):Prop:=I64 x.Node∧SL x.Text
theorem GWrite.dec :Dec [.i .i64,.s] true GWrite.av GWrite.In:=by
 intro cs h
 obtain⟨x0,_,rfl,p0,h⟩:=Dec.i64.cons h
 obtain⟨x1,_,rfl,p1,h⟩:=Dec.str.cons h
 obtain rfl:=wfcs_nil h
 exact⟨⟨x0,x1⟩,rfl,p0,p1⟩
def GTick.In (x:GTick):Prop:=(SL x.Units∧∀z0∈x.Units,I64 z0)∧(SL x.Delays∧∀z0∈x.Delays,I64 z0)∧(SL x.Sends∧∀z0∈x.Sends,GSend.In z0)∧(SL x.Bursts∧∀z0∈x.Bursts,GBurst.In z0)∧(SL x.Strays∧∀z0∈x.Strays,GSend.In z0)∧(SL x.Writes∧∀z0∈x.Writes,GWrite.In z0)
theorem GTick.dec :Dec [.l [.i .i64] false,.l [.i .i64] false,.l [.i .i64,.i .i64,.i .i64,.s] true,.l [.i .i64,.s] true,.l [.i .i64,.i .i64,.i .i64,.s] true,.l [.i .i64,.s] true] true GTick.av GTick.In:=by
 intro cs h
 obtain⟨x0,_,rfl,p0,h⟩:=(Dec.list Dec.i64).cons h
 obtain⟨x1,_,rfl,p1,h⟩:=(Dec.list Dec.i64).cons h
 obtain⟨x2,_,rfl,p2,h⟩:=(Dec.list GSend.dec).cons h
 obtain⟨x3,_,rfl,p3,h⟩:=(Dec.list GBurst.dec).cons h
 obtain⟨x4,_,rfl,p4,h⟩:=(Dec.list GSend.dec).cons h
 obtain⟨x5,_,rfl,p5,h⟩:=(Dec.list GWrite.dec).cons h
 obtain rfl:=wfcs_nil h
 exact⟨⟨x0,x1,x2,x3,x4,x5⟩,rfl,p0,p1,p2,p3,p4,p5⟩
def GScript.In (x:GScript):Prop:=I64 x.Conf.N∧I64 x.Conf.F∧I64 x.Conf.D∧I64 x.Conf.Period∧I64 x.Conf.Rate∧I64 x.Conf.Drift∧I64 x.Conf.Offset∧I64 x.Conf.Slot∧I64 x.Conf.Mod∧I64 x.Conf.Fresh∧(SL x.Conf.Table∧∀z0∈x.Conf.Table,I64 z0)∧(SL x.Faulty∧∀z0∈x.Faulty,I64 z0)∧(SL x.Images∧∀z0∈x.Images,SL z0)∧(SL x.Ticks∧∀z0∈x.Ticks,GTick.In z0)
theorem GScript.dec :Dec [.i .i64,.i .i64,.i .i64,.i .i64,.i .i64,.i .i64,.i .i64,.i .i64,.i .i64,.i .i64,.l [.i .i64] false,.l [.i .i64] false,.l [.s] false,.l [.l [.i .i64] false,.l [.i .i64] false,.l [.i .i64,.i .i64,.i .i64,.s] true,.l [.i .i64,.s] true,.l [.i .i64,.i .i64,.i .i64,.s] true,.l [.i .i64,.s] true] true] true GScript.av GScript.In:=by
 intro cs h
 obtain⟨x0,_,rfl,p0,h⟩:=Dec.i64.cons h
 obtain⟨x1,_,rfl,p1,h⟩:=Dec.i64.cons h
 obtain⟨x2,_,rfl,p2,h⟩:=Dec.i64.cons h
 obtain⟨x3,_,rfl,p3,h⟩:=Dec.i64.cons h
 obtain⟨x4,_,rfl,p4,h⟩:=Dec.i64.cons h
 obtain⟨x5,_,rfl,p5,h⟩:=Dec.i64.cons h
 obtain⟨x6,_,rfl,p6,h⟩:=Dec.i64.cons h
 obtain⟨x7,_,rfl,p7,h⟩:=Dec.i64.cons h
 obtain⟨x8,_,rfl,p8,h⟩:=Dec.i64.cons h
 obtain⟨x9,_,rfl,p9,h⟩:=Dec.i64.cons h
 obtain⟨x10,_,rfl,p10,h⟩:=(Dec.list Dec.i64).cons h
 obtain⟨x11,_,rfl,p11,h⟩:=(Dec.list Dec.i64).cons h
 obtain⟨x12,_,rfl,p12,h⟩:=(Dec.list Dec.str).cons h
 obtain⟨x13,_,rfl,p13,h⟩:=(Dec.list GTick.dec).cons h
 obtain rfl:=wfcs_nil h
 exact⟨⟨⟨x0,x1,x2,x3,x4,x5,x6,x7,x8,x9,x10⟩,x11,x12,x13⟩,rfl,p0,p1,p2,p3,p4,p5,p6,p7,p8,p9,p10,p11,p12,p13⟩
def GDeliver.In (x:GDeliver):Prop:=I64 x.From∧I64 x.Slot∧I64 x.Cycle∧SL x.Text
theorem GDeliver.dec :Dec [.i .i64,.i .i64,.i .i64,.s] true GDeliver.av GDeliver.In:=by
 intro cs h
 obtain⟨x0,_,rfl,p0,h⟩:=Dec.i64.cons h
 obtain⟨x1,_,rfl,p1,h⟩:=Dec.i64.cons h
 obtain⟨x2,_,rfl,p2,h⟩:=Dec.i64.cons h
 obtain⟨x3,_,rfl,p3,h⟩:=Dec.str.cons h
 obtain rfl:=wfcs_nil h
 exact⟨⟨x0,x1,x2,x3⟩,rfl,p0,p1,p2,p3⟩
def GReport.In (x:GReport):Prop:=True∧True∧I64 x.Number∧I64 x.Slot∧SL x.Members∧I64 x.Sent∧(SL x.Got∧∀z0∈x.Got,GDeliver.In z0)
theorem GReport.dec :Dec [.b,.b,.i .i64,.i .i64,.s,.i .i64,.l [.i .i64,.i .i64,.i .i64,.s] true] true GReport.av GReport.In:=by
 intro cs h
 obtain⟨x0,_,rfl,p0,h⟩:=Dec.bool.cons h
 obtain⟨x1,_,rfl,p1,h⟩:=Dec.bool.cons h
 obtain⟨x2,_,rfl,p2,h⟩:=Dec.i64.cons h
 obtain⟨x3,_,rfl,p3,h⟩:=Dec.i64.cons h
 obtain⟨x4,_,rfl,p4,h⟩:=Dec.str.cons h
 obtain⟨x5,_,rfl,p5,h⟩:=Dec.i64.cons h
 obtain⟨x6,_,rfl,p6,h⟩:=(Dec.list GDeliver.dec).cons h
 obtain rfl:=wfcs_nil h
 exact⟨⟨x0,x1,x2,x3,x4,x5,x6⟩,rfl,p0,p1,p2,p3,p4,p5,p6⟩
end Go.Proofs.YtaoijbibmcgdaaaGreat
namespace Go.Proofs.PF
open Classical in
theorem loopO_all {f:Int→Option (Int⊕(Bool⊕Unit))}(n:Nat)(p:Nat→Prop)
 (h: ∀k:Nat,k<n→f (k:Int)=some (if p k then .inl ((k:Int)+1)else .inr (.inl false))) (he:f (n:Int)=some (.inr (.inr ()))):
 loopO f 0=some (if∀k,k<n→p k then .inr ()else .inl false):=by
 have: ∀m k:Nat,k+m=n→loopO f (k:Int)=some (if∀j,k≤j→j<n→p j then .inr ()else .inl false):=by
  intro m
  induction m with
  |zero=>
   intro k hk
   have:k=n:=by omega
   subst this
   rw[loopO_inr he,if_pos (fun j h1 h2=>absurd h1 (by omega))]
  |succ m ih=>
   intro k hk
   have h1:=h k (by omega)
   by_cases hp:p k
   ·rw[if_pos hp]at h1
    rw[loopO_inl h1]
    have:=ih (k+1) (by omega)
    rw[show((k:Int)+1)=((k+1:Nat):Int) by omega,this]
    by_cases ha: ∀j,k+1≤j→j<n→p j
    ·rw[if_pos ha,if_pos]
     intro j h1 h2
     by_cases e:j=k
     ·subst e;exact hp
     ·exact ha j (by omega) h2
    ·rw[if_neg ha,if_neg]
     intro hh
     exact ha fun j h1 h2=>hh j (by omega) h2
   ·rw[if_neg hp]at h1
    rw[loopO_inr h1,if_neg]
    intro hh
    exact hp (hh k (Nat.le_refl _) (by omega))
 have:=this n 0 (by omega)
 simpa using this
open Classical in
theorem loopO_any {β:Type}{f:Int→Option (Int⊕(β⊕Unit))}(n:Nat)(p:Nat→Prop)(b:β)
 (h: ∀k:Nat,k<n→f (k:Int)=some (if p k then .inr (.inl b)else .inl ((k:Int)+1))) (he:f (n:Int)=some (.inr (.inr ()))):
 loopO f 0=some (if∃k,k<n∧p k then .inl b else .inr ()):=by
 have: ∀m k:Nat,k+m=n→loopO f (k:Int)=some (if∃j,k≤j∧j<n∧p j then .inl b else .inr ()):=by
  intro m
  induction m with
  |zero=>
   intro k hk
   have:k=n:=by omega
   subst this
   rw[loopO_inr he,if_neg (fun⟨j,h1,h2,_⟩=>absurd h1 (by omega))]
  |succ m ih=>
   intro k hk
   have h1:=h k (by omega)
   by_cases hp:p k
   ·rw[if_pos hp]at h1
    rw[loopO_inr h1,if_pos ⟨k,Nat.le_refl _,by omega,hp⟩]
   ·rw[if_neg hp]at h1
    rw[loopO_inl h1]
    have:=ih (k+1) (by omega)
    rw[show((k:Int)+1)=((k+1:Nat):Int) by omega,this]
    by_cases ha: ∃j,k+1≤j∧j<n∧p j
    ·obtain⟨j,h1,h2,h3⟩:=ha
     rw[if_pos ⟨j,h1,h2,h3⟩,if_pos ⟨j,by omega,h2,h3⟩]
    ·rw[if_neg ha,if_neg]
     rintro⟨j,h1,h2,h3⟩
     by_cases e:j=k
     ·subst e;exact hp h3
     ·exact ha ⟨j,by omega,h2,h3⟩
 have:=this n 0 (by omega)
 simpa using this
theorem loopO_grow {α:Type}{f:List α×Int→Option ((List α×Int)⊕List α)}(n:Nat)(g:Nat→List α)
 (h: ∀k:Nat,k<n→f ((List.range k).flatMap g,(k:Int))=some (.inl ((List.range k).flatMap g++g k,(k:Int)+1)))
 (he:f ((List.range n).flatMap g,(n:Int))=some (.inr ((List.range n).flatMap g))):
 loopO f ([],0)=some ((List.range n).flatMap g):=by
 refine loopO_for (inv:=fun k=>((List.range k).flatMap g,(k:Int))) n (fun k hk=> ?_) he
 rw[h k hk]
 simp[List.range_succ]
theorem grow_len {α:Type}(g:Nat→List α)(m:Nat)(hg: ∀k,(g k).length≤m): ∀k,((List.range k).flatMap g).length≤k*m
 |0=>by simp
 |k+1=>by
  have:=grow_len g m hg k
  have:=hg k
  simp only[List.range_succ,List.flatMap_append,List.flatMap_cons,List.flatMap_nil,List.append_nil,List.length_append,Nat.add_mul,Nat.one_mul]
  omega
theorem loopO_turn {α:Type}{f:Int×List α→Option ((Int×List α)⊕List α)}(l:List α)(g:Nat→α)
 (h: ∀(k:Nat) (pre post:List α) (x:α),k<l.length→pre.length=k→l[k]? =some x→f ((k:Int),pre++x::post)=some (.inl ((k:Int)+1,pre++g k::post)))
 (he: ∀l',f ((l.length:Int),l')=some (.inr l')):
 loopO f (0,l)=some ((List.range l.length).map g):=by
 have: ∀m k:Nat,k+m=l.length→loopO f ((k:Int),(List.range k).map g++l.drop k)=some ((List.range l.length).map g):=by
  intro m
  induction m with
  |zero=>
   intro k hk
   have hk:k=l.length:=by omega
   subst hk
   rw[loopO_inr (he _)]
   simp
  |succ m ih=>
   intro k hk
   have hlt:k<l.length:=by omega
   rw[List.drop_eq_getElem_cons hlt,loopO_inl (h k _ _ _ hlt (by simp) (zge hlt))]
   have:=ih (k+1) (by omega)
   rw[List.range_succ,List.map_append]at this
   simpa using this
 have:=this l.length 0 (by omega)
 simpa using this
theorem mod_mid {α:Type}(pre post:List α)(x:α)(k:Nat)(u:α→α)(hk:pre.length=k):mod? (pre++x::post) k u=some (pre++u x::post):=by
 subst hk
 rw[mod_some _ _ _ (by simp)]
 simp
theorem idx_get {α:Type}{l:List α}{k:Nat}{x:α}(h:l[k]? =some x):idx? l (k:Int)=some x:=by
 obtain⟨hk,e⟩:=List.getElem?_eq_some_iff.1 h
 rw[idx_nat _ _ hk,e]
open Classical in
theorem loopO_alls {α:Type}{f:Int→Option (Int⊕(Bool⊕Unit))}(l:List α)(p:α→Prop)
 (h: ∀(k:Nat) (x:α),k<l.length→l[k]? =some x→f (k:Int)=some (if p x then .inl ((k:Int)+1)else .inr (.inl false)))
 (he:f (l.length:Int)=some (.inr (.inr ()))):loopO f 0=some (if∀x∈l,p x then .inr ()else .inl false):=by
 rw[loopO_all l.length (fun k=> ∀x,l[k]? =some x→p x) (fun k hk=> ?_) he]
 ·have:(∀k,k<l.length→∀x,l[k]? =some x→p x)↔∀x∈l,p x:=by
   constructor
   ·intro h x hx
    obtain⟨k,hk,e⟩:=List.getElem_of_mem hx
    exact h k hk x (List.getElem?_eq_some_iff.2 ⟨hk,e⟩)
   ·intro h k hk x hx
    exact h x (List.mem_of_getElem? hx)
  by_cases hp: ∀x∈l,p x
  ·rw[if_pos hp,if_pos (this.2 hp)]
  ·rw[if_neg hp,if_neg fun hh=>hp (this.1 hh)]
 ·have e:=zge hk
  rw[h k _ hk e]
  by_cases hp:p l[k]
  ·rw[if_pos hp,if_pos (fun x hx=>by rw[e]at hx;cases hx;exact hp)]
  ·rw[if_neg hp,if_neg (fun hh=>hp (hh _ e))]
open Classical in
theorem loopO_anys {α β:Type}{f:Int→Option (Int⊕(β⊕Unit))}(l:List α)(p:α→Prop)(b:β)
 (h: ∀(k:Nat) (x:α),k<l.length→l[k]? =some x→f (k:Int)=some (if p x then .inr (.inl b)else .inl ((k:Int)+1)))
 (he:f (l.length:Int)=some (.inr (.inr ()))):loopO f 0=some (if∃x∈l,p x then .inl b else .inr ()):=by
 rw[loopO_any l.length (fun k=> ∃x,l[k]? =some x∧p x) b (fun k hk=> ?_) he]
 ·have:(∃k,k<l.length∧∃x,l[k]? =some x∧p x)↔∃x∈l,p x:=by
   constructor
   ·rintro⟨k,hk,x,hx,hp⟩
    exact⟨x,List.mem_of_getElem? hx,hp⟩
   ·rintro⟨x,hx,hp⟩
    obtain⟨k,hk,e⟩:=List.getElem_of_mem hx
    exact⟨k,hk,x,List.getElem?_eq_some_iff.2 ⟨hk,e⟩,hp⟩
  by_cases hp: ∃x∈l,p x
  ·rw[if_pos hp,if_pos (this.2 hp)]
  ·rw[if_neg hp,if_neg fun hh=>hp (this.1 hh)]
 ·have e:=zge hk
  rw[h k _ hk e]
  by_cases hp:p l[k]
  ·rw[if_pos hp,if_pos ⟨_,e,hp⟩]
  ·rw[if_neg hp,if_neg]
   rintro⟨x,hx,hh⟩
   rw[e]at hx;cases hx;exact hp hh
theorem loopO_growl {α β:Type}{f:List β×Int→Option ((List β×Int)⊕List β)}(l:List α)(g:α→List β)(hg: ∀x,(g x).length≤1)
 (h: ∀(k:Nat) (x:α) (out:List β),k<l.length→l[k]? =some x→out.length≤k→f (out,(k:Int))=some (.inl (out++g x,(k:Int)+1)))
 (he: ∀out,f (out,(l.length:Int))=some (.inr out)):
 ∀(m k:Nat) (out:List β),k+m=l.length→out.length≤k→loopO f (out,(k:Int))=some (out++(l.drop k).flatMap g)
 |0,k,out,hk,ho=>by
  have hk:k=l.length:=by omega
  subst hk
  rw[loopO_inr (he _)];simp
 |m+1,k,out,hk,ho=>by
  have hlt:k<l.length:=by omega
  rw[loopO_inl (h k _ _ hlt (zge hlt) ho),List.drop_eq_getElem_cons hlt,List.flatMap_cons]
  have:=loopO_growl l g hg h he m (k+1) (out++g l[k]) (by omega) (by have:=hg l[k];simp only[List.length_append];omega)
  rw[show((k:Int)+1)=((k+1:Nat):Int) by omega,this,List.append_assoc]
end Go.Proofs.PF
namespace Go.Proofs.YtaoijbibmcgdaaaGreat
open Go.Proofs.PF
def I (n:Int):Prop:= -9223372036854775808≤n∧n≤9223372036854775807
structure CIn (c:GConf):Prop where
 n:I c.N
 f:I c.F
 d:I c.D
 period:I c.Period
 rate:I c.Rate
 drift:I c.Drift
 table:(c.Table.length:Int)≤9223372036854775807
 own: ∀x∈c.Table,I x
def Nodes (c:GConf):Prop:=4≤c.N∧c.N≤13∧0≤c.F∧c.F≤4∧3*c.F<c.N
instance (c :GConf):Decidable (Nodes c):=by unfold Nodes;infer_instance
def Links (c:GConf):Prop:=1≤c.D∧c.D≤4
instance (c :GConf):Decidable (Links c):=by unfold Links;infer_instance
def Nums (c:GConf):Prop:=6*(c.F+1)*c.D+1≤c.Period∧c.Period≤400∧1≤c.Rate∧c.Rate≤64∧0≤c.Drift∧c.Drift≤c.Rate-1∧0≤c.Offset∧c.Offset≤30000∧1≤c.Slot∧c.Slot≤30000∧2≤c.Mod∧c.Mod≤250∧1≤c.Fresh∧c.Fresh≤100
instance (c :GConf):Decidable (Nums c):=by unfold Nums;infer_instance
def Owned (c:GConf):Prop:=1≤c.Table.length∧c.Table.length≤32∧(∀x∈c.Table,0≤x∧x<c.N)∧∀k:Nat,(k:Int)<c.N→(k:Int)∈c.Table
open Classical in
noncomputable def plainV (c:GConf):Int:=if¬Nodes c then 7 else if¬Links c then 10 else if¬Nums c then 8 else if¬Owned c then 11 else 0
theorem has_eq (s:Gconf_span)(n:Int):conf_span_has s n=some (decide (s.f_low≤n∧n≤s.f_high)):=by
 unfold conf_span_has
 split<;>simp[*]
theorem within_eq (n a b:Int):r03_within n a b=some (decide (a≤n∧n≤b)):=by
 unfold r03_within
 split<;>simp[*]
theorem some_dec {b:Bool}{p:Prop} [Decidable p](h:b=true↔p):some b=some (decide p):=by
 by_cases hp:p
 ·rw[h.2 hp,decide_eq_true hp]
 ·rw[decide_eq_false hp]
  cases b
  ·rfl
  ·exact absurd (h.1 rfl) hp
theorem nodes_eq (c:GConf):conf_nodes c=some (decide (Nodes c)):=by
 unfold conf_nodes
 simp only[has_eq,zbs,decide_eq_true_eq]
 split
 ·rename_i h1
  split
  ·rename_i h2
   rw[wr_eq (show-9223372036854775808≤3*c.F∧3*c.F≤9223372036854775807 by omega)]
   refine some_dec ?_
   simp only[decide_eq_true_eq]
   unfold Nodes;omega
  ·rename_i h2
   refine some_dec ?_
   unfold Nodes;simp;omega
 ·rename_i h1
  refine some_dec ?_
  unfold Nodes;simp;omega
theorem wrM {n:Int}(h: -9223372036854775808≤n)(h':n≤9223372036854775807):wr n=n:=wr_eq ⟨h,h'⟩
theorem low_eq (c:GConf)(hn:Nodes c)(hl:Links c):wr (wr (wr (6*wr (c.F+1))*c.D)+1)=6*(c.F+1)*c.D+1:=by
 obtain⟨_,_,f0,f4,_⟩:=hn
 obtain⟨d0,d4⟩:=hl
 rw[wrM (n:=c.F+1) (by omega) (by omega),wrM (n:=6*(c.F+1)) (by omega) (by omega)]
 have h1:6*(c.F+1)*c.D≤30*4:=Int.mul_le_mul (by omega) d4 (by omega) (by omega)
 have h2:0≤6*(c.F+1)*c.D:=Int.mul_nonneg (by omega) (by omega)
 rw[wrM (n:=6*(c.F+1)*c.D) (by omega) (by omega),wrM (by omega) (by omega)]
theorem numbers_eq (c:GConf)(hc:CIn c)(hn:Nodes c)(hl:Links c):conf_numbers c=some (decide (Nums c)):=by
 unfold conf_numbers
 simp only[low_eq c hn hl]
 have hr:1≤c.Rate∧c.Rate≤64∨¬(1≤c.Rate∧c.Rate≤64):=by omega
 have hw:wr (c.Rate-1)=c.Rate-1∨¬(1≤c.Rate∧c.Rate≤64):=by
  rcases hr with h|h
  ·exact .inl (wrM (by omega) (by omega))
  ·exact .inr h
 generalize wr (c.Rate-1)=w at hw
 have hiff:(∀z∈[Gs_nI_spanG.mk c.Period ⟨6*(c.F+1)*c.D+1,400⟩,⟨c.Rate,⟨1,64⟩⟩,⟨c.Drift,⟨0,w⟩⟩,⟨c.Offset,⟨0,30000⟩⟩,⟨c.Slot,⟨1,30000⟩⟩,⟨c.Mod,⟨2,250⟩⟩,⟨c.Fresh,⟨1,100⟩⟩],z.f_span.f_low≤z.f_n∧z.f_n≤z.f_span.f_high)↔Nums c:=by
  simp only[List.mem_cons,List.not_mem_nil,or_false,forall_eq_or_imp,forall_eq,Nums]
  omega
 have hlen:[Gs_nI_spanG.mk c.Period ⟨6*(c.F+1)*c.D+1,400⟩,⟨c.Rate,⟨1,64⟩⟩,⟨c.Drift,⟨0,w⟩⟩,⟨c.Offset,⟨0,30000⟩⟩,⟨c.Slot,⟨1,30000⟩⟩,⟨c.Mod,⟨2,250⟩⟩,⟨c.Fresh,⟨1,100⟩⟩].length=7:=rfl
 generalize [Gs_nI_spanG.mk c.Period ⟨6*(c.F+1)*c.D+1,400⟩,⟨c.Rate,⟨1,64⟩⟩,⟨c.Drift,⟨0,w⟩⟩,⟨c.Offset,⟨0,30000⟩⟩,⟨c.Slot,⟨1,30000⟩⟩,⟨c.Mod,⟨2,250⟩⟩,⟨c.Fresh,⟨1,100⟩⟩]=l at hiff hlen
 unfold conf_numbers_0
 rw[loopO_alls (f:=fun s:Int=>conf_numbers_0_step l l.length s) l (fun z=>z.f_span.f_low≤z.f_n∧z.f_n≤z.f_span.f_high)
  (fun k z hk hz=>by
    unfold conf_numbers_0_step
    rw[if_pos (by omega),idx_get hz,zbs,has_eq,zbs,wrM (by omega) (by omega)]
    by_cases h:z.f_span.f_low≤z.f_n∧z.f_n≤z.f_span.f_high
    ·rw[decide_eq_true h,if_neg (by decide),if_pos h]
    ·rw[decide_eq_false h,if_pos (by decide),if_neg h])
  (by unfold conf_numbers_0_step;rw[if_neg (by omega)]),zbs]
 by_cases h:Nums c
 ·rw[if_pos (hiff.2 h)];simp[h]
 ·rw[if_neg (fun hh=>h (hiff.1 hh))];simp[h]
def at13 (x:Ar13 Int)(k:Nat):Int:=(x.get? k).getD 0
theorem lt13 {k:Nat}(h:k<13):k=0∨k=1∨k=2∨k=3∨k=4∨k=5∨k=6∨k=7∨k=8∨k=9∨k=10∨k=11∨k=12:=by omega
theorem get13 (x:Ar13 Int)(k:Nat)(h:k<13):x.get? k=some (at13 x k):=by
 rcases lt13 h with e|e|e|e|e|e|e|e|e|e|e|e|e<;>subst e<;>rfl
theorem set13 (x:Ar13 Int)(k:Nat)(v:Int)(h:k<13): ∃y,x.set? k v=some y∧∀j,j<13→at13 y j=if j=k then v else at13 x j:=by
 rcases lt13 h with e|e|e|e|e|e|e|e|e|e|e|e|e<;>subst e<;>
  exact⟨_,rfl,fun j hj=>by rcases lt13 hj with e|e|e|e|e|e|e|e|e|e|e|e|e<;>subst e<;>rfl⟩
theorem eta13 (x:Ar13 Int):Ar13.mk x.a0 x.a1 x.a2 x.a3 x.a4 x.a5 x.a6 x.a7 x.a8 x.a9 x.a10 x.a11 x.a12=x:=rfl
theorem table0 (c:GConf)(sl:Gconf_span)(hn:c.N≤13)(ht:c.Table.length≤32): ∀(m k:Nat) (o:Ar13 Int),k+m=c.Table.length→
 (∀j,j<13→at13 o j=((c.Table.take k).countP (fun x=>x==(j:Int)):Nat))→
 ∃r,loopO (fun s:Int×(Ar13 Int)=>conf_table_0_step c c.Table c.Table.length sl s.1 s.2) ((k:Int),o)=some r∧
  ((∃x∈c.Table.drop k,¬(0≤x∧x<c.N))→∃o',r= .inl (false,o'))∧
  ((∀x∈c.Table.drop k,0≤x∧x<c.N)→∃o',r= .inr o'∧∀j,j<13→at13 o' j=(c.Table.countP (fun x=>x==(j:Int)):Nat))
 |0,k,o,hk,ho=>by
  have hk:k=c.Table.length:=by omega
  subst hk
  refine⟨.inr o,loopO_inr ?_,fun h=> ?_,fun _=>⟨o,rfl,fun j hj=> ?_⟩⟩
  ·simp only[conf_table_0_step];rw[if_neg (by omega)]
  ·simp at h
  ·rw[ho j hj,List.take_length]
 |m+1,k,o,hk,ho=>by
  have hlt:k<c.Table.length:=by omega
  have hg:=zge hlt
  have hd:=List.drop_eq_getElem_cons hlt
  generalize hx:c.Table[k]=x at hg hd
  have hstep:conf_table_0_step c c.Table c.Table.length sl (k:Int) o=if x<0 then some (.inr (.inl (false,o)))else if c.N≤x then some (.inr (.inl (false,o)))else
   if 0≤x∧x<(13:Nat)then(Ar13.get? o (Int.toNat x)).bind fun z2=>if 0≤x∧x<(13:Nat)then(Ar13.set? o (Int.toNat x) (wr (z2+1))).bind fun y0=>some (.inl ((wr ((k:Int)+1)),y0))else none else none:=by
   unfold conf_table_0_step
   rw[if_pos (by omega),idx_get hg,zbs,eta13]
  by_cases hok:0≤x∧x<c.N
  ·rw[if_neg (by omega),if_neg (by omega),if_pos (by omega),get13 _ _ (by omega),zbs,if_pos (by omega),wrM (n:=(k:Int)+1) (by omega) (by omega)]at hstep
   have hw:wr (at13 o x.toNat+1)=at13 o x.toNat+1:=by
    rw[ho _ (by omega)]
    have:=List.countP_le_length (p:=fun y=>y==((x.toNat:Nat):Int)) (l:=c.Table.take k)
    simp only[List.length_take]at this
    exact wrM (by omega) (by omega)
   rw[hw]at hstep
   obtain⟨y,hy,hyj⟩:=set13 o x.toNat (at13 o x.toNat+1) (by omega)
   rw[hy,zbs]at hstep
   have ih:=table0 c sl hn ht m (k+1) y (by omega) (fun j hj=>by
    rw[hyj j hj,List.take_add_one,hg,List.countP_append,ho j hj]
    have hx':((x.toNat:Nat):Int)=x:=Int.toNat_of_nonneg hok.1
    by_cases e:j=x.toNat
    ·subst e
     rw[if_pos rfl,ho _ hj]
     simp[hx']
    ·rw[if_neg e]
     have: ¬x=(j:Int):=by omega
     simp[this])
   rw[loopO_inl (t:=(((k+1:Nat):Int),y)) (by simpa using hstep)]
   obtain⟨r,h1,h2,h3⟩:=ih
   refine⟨r,h1,fun⟨z,hz,hzz⟩=>h2 ⟨z,?_,hzz⟩,fun h=>h3 fun z hz=>h z ?_⟩
   ·rw[hd]at hz
    rcases List.mem_cons.1 hz with e|e
    ·subst e;exact absurd hok hzz
    ·exact e
   ·rw[hd];exact List.mem_cons_of_mem _ hz
  ·refine⟨.inl (false,o),loopO_inr ?_,fun _=>⟨o,rfl⟩,fun h=>absurd (h x (by rw[hd];simp)) hok⟩
   show conf_table_0_step c c.Table c.Table.length sl (k:Int) o=_
   rw[hstep]
   by_cases h0:x<0
   ·rw[if_pos h0]
   ·rw[if_neg h0,if_pos (by omega)]
theorem table_eq (c:GConf)(hn:Nodes c):conf_table c=some (@decide (Owned c) (Classical.propDecidable _)):=by
 classical
 have hb:(Classical.propDecidable (Owned c))=(Classical.propDecidable (Owned c)):=rfl
 unfold conf_table
 rw[has_eq,zbs]
 by_cases hl:(1:Int)≤c.Table.length∧(c.Table.length:Int)≤32
 ·rw[decide_eq_true (show _ from hl),if_neg (by decide)]
  have h13:c.N≤13:=hn.2.1
  have h4:4≤c.N:=hn.1
  obtain⟨r,h1,h2,h3⟩:=table0 c ⟨1,32⟩ h13 (by omega) c.Table.length 0 (Ar13.mk 0 0 0 0 0 0 0 0 0 0 0 0 0) (by omega) (fun j hj=>by
   rcases lt13 hj with e|e|e|e|e|e|e|e|e|e|e|e|e<;>subst e<;>rfl)
  have e0:conf_table_0 c c.Table (c.Table.length:Int) ⟨1,32⟩ 0 (Ar13.mk 0 0 0 0 0 0 0 0 0 0 0 0 0)=some r:=h1
  rw[e0,zbs]
  by_cases ha: ∀x∈c.Table,0≤x∧x<c.N
  ·obtain⟨o,ho,hj⟩:=h3 (by simpa using ha)
   subst ho
   simp only[Sum.elim_inr]
   rw[if_pos (by omega)]
   have e1:=loopO_all (f:=fun s=>conf_table_1_step (c.N.toNat-0) ((c.N.toNat-0:Nat):Int) o ⟨1,32⟩ s) c.N.toNat (fun k=>(k:Int)∈c.Table) (fun k hk=> ?_) ?_
   rotate_left
   ·simp only[conf_table_1_step]
    rw[if_pos (by omega),if_pos (by omega),eta13,Int.toNat_natCast,get13 _ _ (by omega),zbs,wrM (by omega) (by omega),hj k (by omega)]
    have:(((c.Table.countP (fun x=>x==(k:Int)):Nat):Int)=0)↔¬(k:Int)∈c.Table:=by
     rw[←List.count_eq_countP,Int.natCast_eq_zero,List.count_eq_zero]
    by_cases hm:(k:Int)∈c.Table
    ·rw[if_neg (fun h=>this.1 h hm),if_pos hm]
    ·rw[if_pos (this.2 hm),if_neg hm]
   ·simp only[conf_table_1_step]
    rw[if_neg (by omega)]
   unfold conf_table_1
   rw[e1,zbs]
   by_cases hk: ∀k,k<c.N.toNat→(k:Int)∈c.Table
   ·rw[if_pos hk]
    refine some_dec ⟨fun _=>⟨by omega,by omega,ha,fun k h=>hk k (by omega)⟩,fun _=>rfl⟩
   ·rw[if_neg hk]
    refine some_dec ⟨fun h=>Bool.noConfusion h,fun h=>absurd (fun k hk'=>h.2.2.2 k (by omega)) hk⟩
  ·obtain⟨o,ho⟩:=h2 (by
    simp only[List.drop_zero]
    exact Classical.not_forall.1 ha |>.elim fun x hx=>⟨x,(Classical.not_imp.1 hx).1,(Classical.not_imp.1 hx).2⟩)
   subst ho
   exact some_dec ⟨fun h=>Bool.noConfusion h,fun h=>absurd h.2.2.1 ha⟩
 ·rw[decide_eq_false (show¬_ from hl),if_pos (by decide)]
  exact some_dec ⟨fun h=>Bool.noConfusion h,fun h=>absurd ⟨by have:=h.1;omega,by have:=h.2.1;omega⟩ hl⟩
theorem conf_plain (c:GConf)(hc:CIn c):conf_Plain c=some (plainV c):=by
 classical
 unfold conf_Plain plainV
 rw[nodes_eq,zbs]
 by_cases hn:Nodes c
 ·rw[decide_eq_true hn,if_neg (by decide),if_neg (fun h=>h hn),has_eq,zbs]
  by_cases hl:Links c
  ·rw[show decide (1≤c.D∧c.D≤4)=true from decide_eq_true hl,if_neg (by decide),if_neg (fun h=>h hl),numbers_eq c hc hn hl,zbs]
   by_cases hu:Nums c
   ·rw[decide_eq_true hu,if_neg (by decide),if_neg (fun h=>h hu),table_eq c hn,zbs]
    by_cases ho:Owned c
    ·rw[@decide_eq_true _ (Classical.propDecidable _) ho,if_neg (by decide),if_neg (fun h=>h ho)]
    ·rw[@decide_eq_false _ (Classical.propDecidable _) ho,if_pos (by decide),if_pos ho]
   ·rw[decide_eq_false hu,if_pos (by decide),if_pos hu]
  ·rw[show decide (1≤c.D∧c.D≤4)=false from decide_eq_false hl,if_pos (by decide),if_pos hl]
 ·rw[decide_eq_false hn,if_pos (by decide),if_pos hn]
theorem owned1 (n:Int)(c:GConf)(hl:c.Table.length≤32):r03_owned_1 c n false 0=some (decide (n∈c.Table)):=by
 have h:=loopO_for (f:=fun s:Bool×Int=>r03_owned_1_step c n s.1 s.2) (inv:=fun k=>(decide (n∈c.Table.take k),(k:Int))) c.Table.length (r:=decide (n∈c.Table)) (fun k hk=> ?_) ?_
 ·exact h
 ·have hg:=zge hk
  simp only[r03_owned_1_step]
  have ht:n∈c.Table.take (k+1)↔n∈c.Table.take k∨c.Table[k]=n:=by
   rw[List.take_add_one,hg,List.mem_append]
   simp only[Option.toList_some,List.mem_singleton,eq_comm]
  rw[if_pos (by omega),wrM (by omega) (by omega),idx_get hg,zbs]
  by_cases hm:n∈c.Table.take k
  ·simp only[hm,ht,decide_true,if_true,true_or,Int.natCast_add,Int.cast_ofNat_Int]
  ·simp only[hm,ht,decide_false,false_or,Int.natCast_add,Int.cast_ofNat_Int];rw[if_neg (by decide)]
 ·simp only[r03_owned_1_step]
  rw[if_neg (by omega),List.take_length]
theorem owned_eq (c:GConf)(hn:Nodes c)(hl:(1:Int)≤c.Table.length∧(c.Table.length:Int)≤32):r03_owned c=some (@decide (Owned c) (Classical.propDecidable _)):=by
 classical
 have h13:c.N≤13:=hn.2.1
 have h4:4≤c.N:=hn.1
 have e0:=loopO_alls (f:=fun s=>r03_owned_0_step c s) c.Table (fun x=>0≤x∧x<c.N) (fun k x hk hx=> ?_) ?_
 rotate_left
 ·simp only[r03_owned_0_step]
  rw[if_pos (by omega),idx_get hx,zbs,within_eq,zbs,wrM (n:=c.N-1) (by omega) (by omega),wrM (by omega) (by omega)]
  by_cases h:0≤x∧x<c.N
  ·rw[decide_eq_true (by omega),if_neg (by decide),if_pos h]
  ·rw[decide_eq_false (by omega),if_pos (by decide),if_neg h]
 ·simp only[r03_owned_0_step]
  rw[if_neg (by omega)]
 have e1:=loopO_all (f:=fun s=>r03_owned_2_step c s) c.N.toNat (fun k=>(k:Int)∈c.Table) (fun k hk=> ?_) ?_
 rotate_left
 ·simp only[r03_owned_2_step]
  rw[if_pos (by omega),owned1 _ _ (by omega),zbs,wrM (by omega) (by omega)]
  by_cases h:(k:Int)∈c.Table
  ·rw[decide_eq_true h,if_neg (by decide),if_pos h]
  ·rw[decide_eq_false h,if_pos (by decide),if_neg h]
 ·simp only[r03_owned_2_step]
  rw[if_neg (by omega)]
 unfold r03_owned r03_owned_0 r03_owned_2
 rw[e0,zbs]
 by_cases ha: ∀x∈c.Table,0≤x∧x<c.N
 ·rw[if_pos ha]
  simp only[Sum.elim_inr]
  rw[e1,zbs]
  by_cases hk: ∀k,k<c.N.toNat→(k:Int)∈c.Table
  ·rw[if_pos hk]
   exact some_dec ⟨fun _=>⟨by omega,by omega,ha,fun k h=>hk k (by omega)⟩,fun _=>rfl⟩
  ·rw[if_neg hk]
   exact some_dec ⟨fun h=>Bool.noConfusion h,fun h=>absurd (fun k hk'=>h.2.2.2 k (by omega)) hk⟩
 ·rw[if_neg ha]
  exact some_dec ⟨fun h=>Bool.noConfusion h,fun h=>absurd h.2.2.1 ha⟩
theorem r03_plain (c:GConf)(hc:CIn c):r03_Plain c=some (plainV c):=by
 classical
 unfold r03_Plain plainV
 simp only[within_eq,zbs]
 have ite_not {p:Prop} [Decidable p] {α:Type} (x y:α):(if(!decide p)=true then x else y)=if p then y else x:=by
  by_cases h:p<;>simp[h]
 simp only[ite_not]
 by_cases hn:Nodes c
 ·have hw:wr (3*c.F)=3*c.F:=wrM (by have:=hn.2.2.1;omega) (by have:=hn.2.2.2.1;omega)
  rw[if_pos (show 4≤c.N∧c.N≤13 from⟨hn.1,hn.2.1⟩),if_pos (show 0≤c.F∧c.F≤4 from⟨hn.2.2.1,hn.2.2.2.1⟩),hw,if_neg (by have:=hn.2.2.2.2;omega),if_neg (show¬¬Nodes c from fun h=>h hn)]
  by_cases hl:Links c
  ·rw[if_pos (show 1≤c.D∧c.D≤4 from hl),if_neg (show¬¬Links c from fun h=>h hl),low_eq c hn hl]
   by_cases hu:Nums c
   ·have hu':=hu
    obtain⟨a1,a2,b1,b2,c1,c2,d1,d2,e1,e2,f1,f2,g1,g2⟩:=hu'
    rw[if_pos ⟨a1,a2⟩,if_pos ⟨b1,b2⟩,wrM (n:=c.Rate-1) (by omega) (by omega),if_pos ⟨c1,c2⟩,if_pos ⟨d1,d2⟩,if_pos ⟨e1,e2⟩,if_pos ⟨f1,f2⟩,if_pos ⟨g1,g2⟩,if_neg (show¬¬Nums c from fun h=>h hu)]
    by_cases ht:(1:Int)≤c.Table.length∧(c.Table.length:Int)≤32
    ·rw[if_pos ht,owned_eq c hn ht,zbs]
     by_cases ho:Owned c
     ·rw[@decide_eq_true _ (Classical.propDecidable _) ho,if_neg (by decide),if_neg (show¬¬Owned c from fun h=>h ho)]
     ·rw[@decide_eq_false _ (Classical.propDecidable _) ho,if_pos (by decide),if_pos (show¬Owned c from ho)]
    ·rw[if_neg ht,if_pos]
     intro h;exact ht ⟨by have:=h.1;omega,by have:=h.2.1;omega⟩
   ·rw[if_pos (show¬Nums c from hu)]
    by_cases h1:6*(c.F+1)*c.D+1≤c.Period∧c.Period≤400
    ·rw[if_pos h1]
     by_cases h2:1≤c.Rate∧c.Rate≤64
     ·rw[if_pos h2,wrM (n:=c.Rate-1) (by omega) (by omega)]
      by_cases h3:0≤c.Drift∧c.Drift≤c.Rate-1
      ·rw[if_pos h3]
       by_cases h4:0≤c.Offset∧c.Offset≤30000
       ·rw[if_pos h4]
        by_cases h5:1≤c.Slot∧c.Slot≤30000
        ·rw[if_pos h5]
         by_cases h6:2≤c.Mod∧c.Mod≤250
         ·rw[if_pos h6]
          by_cases h7:1≤c.Fresh∧c.Fresh≤100
          ·exact absurd ⟨h1.1,h1.2,h2.1,h2.2,h3.1,h3.2,h4.1,h4.2,h5.1,h5.2,h6.1,h6.2,h7.1,h7.2⟩ hu
          ·rw[if_neg h7]
         ·rw[if_neg h6]
        ·rw[if_neg h5]
       ·rw[if_neg h4]
      ·rw[if_neg h3]
     ·rw[if_neg h2]
    ·rw[if_neg h1]
  ·rw[if_neg (show¬(1≤c.D∧c.D≤4)from hl),if_pos (show¬Links c from hl)]
 ·rw[if_pos (show¬Nodes c from hn)]
  by_cases h1:4≤c.N∧c.N≤13
  ·rw[if_pos h1]
   by_cases h2:0≤c.F∧c.F≤4
   ·rw[if_pos h2,wrM (n:=3*c.F) (by omega) (by omega),if_pos]
    have: ¬3*c.F<c.N:=fun h=>hn ⟨h1.1,h1.2,h2.1,h2.2,h⟩
    omega
   ·rw[if_neg h2]
  ·rw[if_neg h1]
def Pl (c:GConf):Prop:=Nodes c∧Links c∧Nums c∧Owned c
theorem plain_zero (c:GConf):plainV c=0↔Pl c:=by
 classical
 unfold plainV Pl
 by_cases h1:Nodes c<;>by_cases h2:Links c<;>by_cases h3:Nums c<;>by_cases h4:Owned c<;>simp[h1,h2,h3,h4]
theorem lenMax_eq :lenMax=4294967296:=rfl
theorem wrI {n m:Int}(h:n=m)(h1: -9223372036854775808≤m∧m≤9223372036854775807):wr n=m:=by subst h;exact wr_eq h1
def rows {α β:Type}(t:Nat→α→List β):Nat→List α→List β
 |_,[]=>[]
 |k,x::r=>t k x++rows t (k+1) r
theorem rows_flat {α β:Type}(g:α→List β): ∀(l:List α) (k:Nat),rows (fun _ x=>g x) k l=l.flatMap g
 | [],_=>rfl
 |x::r,k=>by rw[rows,rows_flat g r,List.flatMap_cons]
theorem loopO_rows {α β σ ρ:Type}{f:σ→Option (σ⊕ρ)}(st:List β→Int→σ)(re:List β→ρ)(l:List α)(t:Nat→α→List β)(B:Nat)
 (h: ∀(k:Nat) x s,k<l.length→l[k]? =some x→s.length+(t k x).length≤B→f (st s (k:Int))=some (.inl (st (s++t k x) ((k:Int)+1))))
 (he: ∀s,f (st s (l.length:Int))=some (.inr (re s))) (s0:List β) (hB:s0.length+(rows t 0 l).length≤B):loopO f (st s0 0)=some (re (s0++rows t 0 l)):=by
 have: ∀(j k:Nat) (s:List β),k+j=l.length→s.length+(rows t k (l.drop k)).length≤B→loopO f (st s (k:Int))=some (re (s++rows t k (l.drop k))):=by
  intro j
  induction j with
  |zero=>
   intro k s hk _
   have:k=l.length:=by omega
   subst this
   rw[loopO_inr (he s)]
   simp[rows]
  |succ j ih=>
   intro k s hk hs
   have hlt:k<l.length:=by omega
   rw[List.drop_eq_getElem_cons hlt,rows]at hs ⊢
   rw[List.length_append]at hs
   rw[loopO_inl (h k _ s hlt (zge hlt) (by omega)),show((k:Int)+1)=((k+1:Nat):Int) by omega,ih (k+1) _ (by omega) (by rw[List.length_append];omega),List.append_assoc]
 have:=this l.length 0 s0 (by omega) (by simpa using hB)
 simpa using this
theorem mulB {a b A B:Int}(h1:0≤a)(h2:a≤A)(h3:0≤b)(h4:b≤B):0≤a*b∧a*b≤A*B:=
 ⟨Int.mul_nonneg h1 h3,Int.le_trans (Int.mul_le_mul_of_nonneg_right h2 h3) (Int.mul_le_mul_of_nonneg_left h4 (Int.le_trans h1 h2))⟩
def midV (c:GConf):Int:=c.Offset+((c.Table.length:Int)-1)*c.Slot+c.Slot/2
def apV (c:GConf):Int:=2*c.Drift*midV c
def gdV (c:GConf):Int:=(apV c+(c.Rate-c.Drift)-1)/(c.Rate-c.Drift)+c.Rate+(c.D+1)*c.Drift
open Classical in
noncomputable def rightV (c:GConf):Int:=if plainV c≠0 then plainV c else
 if c.Slot≤2*gdV c∨(c.Period-1)*(c.Rate-c.Drift)<midV c+c.D*c.Rate+gdV c∨32768≤c.Period*(c.Rate+c.Drift)then 8 else 0
theorem ceil_eq {a s:Int}(ha:0≤a)(hs:1≤s):(a+s-1)/s=if 0<a%s then a/s+1 else a/s:=by
 have h1:=Int.emod_add_mul_ediv a s
 have h2:=Int.emod_nonneg a (show s≠0 by omega)
 have h3:=Int.emod_lt_of_pos a (show 0<s by omega)
 have e:a+s-1=(a%s+s-1)+s*(a/s):=by omega
 rw[e,Int.add_mul_ediv_left _ _ (by omega)]
 split
 ·have:(a%s+s-1)/s=1:=by
   rw[show a%s+s-1=(a%s-1)+s*1 by omega,Int.add_mul_ediv_left _ _ (by omega),Int.ediv_eq_zero_of_lt (by omega) (by omega)];rfl
  omega
 ·have:(a%s+s-1)/s=0:=Int.ediv_eq_zero_of_lt (by omega) (by omega)
  omega
structure CB (c:GConf):Prop where
 len:1≤(c.Table.length:Int)∧(c.Table.length:Int)≤32
 sl:0≤((c.Table.length:Int)-1)*c.Slot∧((c.Table.length:Int)-1)*c.Slot≤930000
 mid:0≤midV c∧midV c≤975000
 ap:0≤apV c∧apV c≤122850000
 q:0≤apV c/(c.Rate-c.Drift)∧apV c/(c.Rate-c.Drift)≤122850000
 g:0≤gdV c∧gdV c≤123000000
 dd:0≤(c.D+1)*c.Drift∧(c.D+1)*c.Drift≤315
 dr:0≤c.D*c.Rate∧c.D*c.Rate≤256
 pr:0≤(c.Period-1)*(c.Rate-c.Drift)∧(c.Period-1)*(c.Rate-c.Drift)≤25536
 per:7≤c.Period
 pf:0≤c.Period*(c.Rate+c.Drift)∧c.Period*(c.Rate+c.Drift)≤50800
theorem cb {c:GConf}(h:Pl c):CB c:=by
 obtain⟨⟨n1,n2,n3,n4,n5⟩,⟨l1,l2⟩,⟨p1,p2,r1,r2,d1,d2,o1,o2,s1,s2,m1,m2,f1,f2⟩,⟨t1,t2,t3,t4⟩⟩:=h
 have h0:=mulB (a:=c.F+1) (b:=c.D) (A:=5) (B:=4) (by omega) (by omega) (by omega) (by omega)
 have e0:6*(c.F+1)*c.D=6*((c.F+1)*c.D):=by rw[Int.mul_assoc]
 have hs:=mulB (a:=(c.Table.length:Int)-1) (b:=c.Slot) (A:=31) (B:=30000) (by omega) (by omega) (by omega) (by omega)
 have hm:0≤midV c∧midV c≤975000:=by unfold midV;omega
 have ha:=mulB (a:=2*c.Drift) (b:=midV c) (A:=126) (B:=975000) (by omega) (by omega) hm.1 hm.2
 have ha':0≤apV c∧apV c≤122850000:=by unfold apV;omega
 have hd:=mulB (a:=c.D+1) (b:=c.Drift) (A:=5) (B:=63) (by omega) (by omega) (by omega) (by omega)
 have hq1:0≤apV c/(c.Rate-c.Drift):=Int.ediv_nonneg ha'.1 (by omega)
 have hq2:apV c/(c.Rate-c.Drift)≤apV c:=Int.ediv_le_self _ ha'.1
 have hn:1≤(c.F+1)*c.D:=by have:=mulB (a:=1) (b:=1) (A:=c.F+1) (B:=c.D) (by omega) (by omega) (by omega) (by omega);omega
 refine⟨by omega,by omega,hm,ha',⟨hq1,by omega⟩,?_,by omega,?_,?_,by omega,?_⟩
 ·unfold gdV
  rw[ceil_eq ha'.1 (by omega)]
  split<;>omega
 ·have:=mulB (a:=c.D) (b:=c.Rate) (A:=4) (B:=64) (by omega) (by omega) (by omega) (by omega);omega
 ·have:=mulB (a:=c.Period-1) (b:=c.Rate-c.Drift) (A:=399) (B:=64) (by omega) (by omega) (by omega) (by omega);omega
 ·have:=mulB (a:=c.Period) (b:=c.Rate+c.Drift) (A:=400) (B:=127) (by omega) (by omega) (by omega) (by omega);omega
theorem begin_eq {c:GConf}(h:Pl c):wr (c.Offset+wr (wr ((c.Table.length:Int)-1)*c.Slot))=c.Offset+((c.Table.length:Int)-1)*c.Slot:=by
 have b:=cb h
 obtain⟨l1,l2⟩:=b.len
 obtain⟨s1,s2⟩:=b.sl
 obtain⟨-,-,⟨p1,p2,r1,r2,d1,d2,o1,o2,s1,s2,m1,m2,f1,f2⟩,-⟩:=h
 rw[wrI (n:=(c.Table.length:Int)-1) rfl (by omega),wrI (n:=((c.Table.length:Int)-1)*c.Slot) rfl (by omega),wrI rfl (by omega)]
theorem mid_eq {c:GConf}(h:Pl c):wr (wr (c.Offset+wr (wr ((c.Table.length:Int)-1)*c.Slot))+wr (Int.tdiv c.Slot 2))=midV c:=by
 have b:=cb h
 obtain⟨s1,s2⟩:=b.sl
 rw[begin_eq h]
 obtain⟨-,-,⟨p1,p2,r1,r2,d1,d2,o1,o2,s1,s2,m1,m2,f1,f2⟩,-⟩:=h
 rw[Int.tdiv_eq_ediv_of_nonneg (by omega),wrI (n:=c.Slot/2) rfl (by omega),wrI rfl (by omega)]
 rfl
theorem pl_of {c:GConf}(h:plainV c=0):Pl c:=(plain_zero c).1 h
theorem bound_right (c:GConf)(hc:CIn c):bound_Right c=some (rightV c):=by
 unfold bound_Right bound_of rightV
 rw[conf_plain c hc,zbs,zbs]
 by_cases h0:plainV c=0
 ·have hp:=pl_of h0
  have b:=cb hp
  obtain⟨a1,a2⟩:=b.ap
  obtain⟨g1,g2⟩:=b.g
  obtain⟨q1,q2⟩:=b.q
  obtain⟨k1,k2⟩:=b.dd
  obtain⟨u1,u2⟩:=b.dr
  obtain⟨v1,v2⟩:=b.pr
  obtain⟨w1,w2⟩:=b.pf
  obtain⟨m1,m2⟩:=b.mid
  have pp:=b.per
  have hm:=mid_eq hp
  obtain⟨⟨n1,n2,n3,n4,n5⟩,⟨l1,l2⟩,⟨p1,p2,r1,r2,d1,d2,o1,o2,s1,s2,-,-,f1,f2⟩,-⟩:=hp
  have hg:bound_plain_guard (Gbound_plain.mk c)=some (gdV c):=by
   unfold bound_plain_guard bound_plain_last bound_plain_middle bound_plain_begin bound_plain_slowest
   simp only[zbs]
   rw[hm,wrI (n:=c.Rate-c.Drift) rfl (by omega),if_neg (by omega),wrI (n:=2*c.Drift) rfl (by omega),show 2*c.Drift*midV c=apV c from rfl,wrI (n:=apV c) rfl (by omega),wrI (n:=apV c+(c.Rate-c.Drift)) rfl (by omega),
    wrI (n:=apV c+(c.Rate-c.Drift)-1) rfl (by omega),Int.tdiv_eq_ediv_of_nonneg (by omega),wrI (n:=c.D+1) rfl (by omega),wrI (n:=(c.D+1)*c.Drift) rfl (by omega)]
   have e:=ceil_eq (a:=apV c) (s:=c.Rate-c.Drift) a1 (by omega)
   have e2:0≤(apV c+(c.Rate-c.Drift)-1)/(c.Rate-c.Drift)∧(apV c+(c.Rate-c.Drift)-1)/(c.Rate-c.Drift)≤122850001:=by rw[e];split<;>omega
   rw[wrI (n:=(apV c+(c.Rate-c.Drift)-1)/(c.Rate-c.Drift)) rfl (by omega),wrI (n:=(apV c+(c.Rate-c.Drift)-1)/(c.Rate-c.Drift)+c.Rate) rfl (by omega),wrI rfl (by omega)]
   rfl
  rw[if_neg (by simp[h0]),if_neg (by simp[h0])]
  simp only
  rw[hg,zbs]
  unfold bound_sound_parts bound_sound_ends bound_sound_turns bound_plain_fastest bound_plain_last bound_plain_middle bound_plain_begin bound_plain_slowest
  simp only[zbs]
  rw[hm,wrI (n:=2*gdV c) rfl (by omega),wrI (n:=c.D*c.Rate) rfl (by omega),wrI (n:=midV c+c.D*c.Rate) rfl (by omega),wrI (n:=midV c+c.D*c.Rate+gdV c) rfl (by omega),wrI (n:=c.Period-1) rfl (by omega),wrI (n:=c.Rate-c.Drift) rfl (by omega),
   wrI (n:=(c.Period-1)*(c.Rate-c.Drift)) rfl (by omega),wrI (n:=c.Rate+c.Drift) rfl (by omega),wrI (n:=c.Period*(c.Rate+c.Drift)) rfl (by omega)]
  by_cases e1:c.Slot≤2*gdV c
  ·rw[show decide (2*gdV c<c.Slot)=false from decide_eq_false (by omega),if_pos (show(!false)=true from rfl),if_pos (.inl e1)]
  ·rw[show decide (2*gdV c<c.Slot)=true from decide_eq_true (by omega),if_neg (by decide)]
   by_cases e2:(c.Period-1)*(c.Rate-c.Drift)<midV c+c.D*c.Rate+gdV c
   ·rw[show decide (midV c+c.D*c.Rate+gdV c≤(c.Period-1)*(c.Rate-c.Drift))=false from decide_eq_false (by omega),if_pos (show(!false)=true from rfl),if_pos (.inr (.inl e2))]
   ·rw[show decide (midV c+c.D*c.Rate+gdV c≤(c.Period-1)*(c.Rate-c.Drift))=true from decide_eq_true (by omega),if_neg (by decide)]
    by_cases e3:32768≤c.Period*(c.Rate+c.Drift)
    ·rw[show decide (c.Period*(c.Rate+c.Drift)<32768)=false from decide_eq_false (by omega),if_pos (show(!false)=true from rfl),if_pos (.inr (.inr e3))]
    ·rw[show decide (c.Period*(c.Rate+c.Drift)<32768)=true from decide_eq_true (by omega),if_neg (by decide),if_neg (by omega)]
 ·rw[if_pos h0,decide_eq_false h0]
  rfl
theorem r04_right (c:GConf)(hc:CIn c):r04_Right c=some (rightV c):=by
 unfold r04_Right rightV
 rw[r03_plain c hc,zbs]
 by_cases h0:plainV c=0
 ·have hp:=pl_of h0
  have b:=cb hp
  obtain⟨t1,t2⟩:=b.len
  obtain⟨a1,a2⟩:=b.ap
  obtain⟨g1,g2⟩:=b.g
  obtain⟨q1,q2⟩:=b.q
  obtain⟨k1,k2⟩:=b.dd
  obtain⟨u1,u2⟩:=b.dr
  obtain⟨v1,v2⟩:=b.pr
  obtain⟨w1,w2⟩:=b.pf
  obtain⟨m1,m2⟩:=b.mid
  have pp:=b.per
  have hm:=mid_eq hp
  have hb:=begin_eq hp
  obtain⟨⟨n1,n2,n3,n4,n5⟩,⟨l1,l2⟩,⟨p1,p2,r1,r2,d1,d2,o1,o2,s1,s2,-,-,f1,f2⟩,-⟩:=hp
  have hw:wr ((c.Table.length:Int)-1)=(c.Table.length:Int)-1:=wrI rfl (by omega)
  have hbg:r04_Begin c (wr ((c.Table.length:Int)-1))=some (wr (c.Offset+wr (wr ((c.Table.length:Int)-1)*c.Slot))):=by
   unfold r04_Begin
   rw[r03_plain c hc,zbs,if_neg (by simp[h0]),if_neg (by rw[hw];omega),if_neg (by rw[hw];omega)]
  have hmd:r04_Middle c (wr ((c.Table.length:Int)-1))=some (midV c):=by
   unfold r04_Middle
   rw[r03_plain c hc,zbs,if_neg (by simp[h0]),if_neg (by rw[hw];omega),if_neg (by rw[hw];omega),hbg,zbs,hm]
  have hg:r04_Guard c=some (gdV c):=by
   unfold r04_Guard
   rw[r03_plain c hc,zbs,if_neg (by simp[h0]),hmd,zbs,wrI (n:=c.Rate-c.Drift) rfl (by omega),if_neg (by omega),wrI (n:=2*c.Drift) rfl (by omega),show 2*c.Drift*midV c=apV c from rfl,wrI (n:=apV c) rfl (by omega),
    Int.tdiv_eq_ediv_of_nonneg a1,Int.tmod_eq_emod_of_nonneg a1,wrI (n:=apV c/(c.Rate-c.Drift)) rfl (by omega),wrI (n:=c.D+1) rfl (by omega),wrI (n:=(c.D+1)*c.Drift) rfl (by omega)]
   unfold gdV
   rw[ceil_eq a1 (by omega)]
   split
   ·rw[wrI (n:=apV c/(c.Rate-c.Drift)+1) rfl (by omega),wrI (n:=apV c/(c.Rate-c.Drift)+1+c.Rate) rfl (by omega),wrI rfl (by omega)]
   ·rw[wrI (n:=apV c/(c.Rate-c.Drift)+c.Rate) rfl (by omega),wrI rfl (by omega)]
  have hz: ¬plainV c≠0:=by simp[h0]
  rw[if_neg hz,if_neg hz,hg,zbs,hmd,zbs,wrI (n:=2*gdV c) rfl (by omega),wrI (n:=c.D*c.Rate) rfl (by omega),wrI (n:=midV c+c.D*c.Rate) rfl (by omega),wrI (n:=midV c+c.D*c.Rate+gdV c) rfl (by omega),wrI (n:=c.Period-1) rfl (by omega),wrI (n:=c.Rate-c.Drift) rfl (by omega),
   wrI (n:=(c.Period-1)*(c.Rate-c.Drift)) rfl (by omega),wrI (n:=c.Rate+c.Drift) rfl (by omega),wrI (n:=c.Period*(c.Rate+c.Drift)) rfl (by omega)]
  by_cases e1:c.Slot≤2*gdV c
  ·rw[if_pos e1,if_pos (.inl e1)]
  ·rw[if_neg e1]
   by_cases e2:(c.Period-1)*(c.Rate-c.Drift)<midV c+c.D*c.Rate+gdV c
   ·rw[if_pos e2,if_pos (.inr (.inl e2))]
   ·rw[if_neg e2]
    by_cases e3:32768≤c.Period*(c.Rate+c.Drift)
    ·rw[if_pos e3,if_pos (.inr (.inr e3))]
    ·rw[if_neg e3,if_neg (by omega)]
 ·rw[if_pos h0,if_pos h0]
  rfl
theorem notd {β:Type}{p:Prop} [Decidable p]{a b:β}:(if(!decide p)=true then some a else some b)=some (if p then b else a):=by by_cases h:p<;>simp[h]
theorem dec_and {p q:Prop} [Decidable p] [Decidable q]:(if p then some (decide q)else some false)=some (decide (p∧q)):=by by_cases h:p<;>simp[h]
theorem every_eq {α:Type}(f:Int→Option (Int⊕(Bool⊕Unit)))(l:List α)(p:α→Prop) [DecidablePred p]
 (h: ∀(k:Nat) x,k<l.length→l[k]? =some x→f (k:Int)=some (if p x then .inl ((k:Int)+1)else .inr (.inl false))) (he:f (l.length:Int)=some (.inr (.inr ()))):
 ((loopO f 0).bind fun r2=>Sum.elim (fun r3=>some r3) (fun _=>some true) r2)=some (decide (∀x∈l,p x)):=by
 rw[loopO_alls l p (fun k x hk hx=>by rw[h k x hk hx];by_cases hp:p x<;>simp[hp]) he]
 by_cases hp: ∀x∈l,p x
 ·rw[if_pos hp,decide_eq_true hp];rfl
 ·rw[if_neg hp,decide_eq_false hp];rfl
theorem every_fix {α γ:Type}(f:Int×γ→Option ((Int×γ)⊕((Bool×γ)⊕γ)))(c:γ)(l:List α)(p:α→Prop) [DecidablePred p]
 (h: ∀(k:Nat) x,k<l.length→l[k]? =some x→f ((k:Int),c)=some (if p x then .inl ((k:Int)+1,c)else .inr (.inl (false,c)))) (he:f ((l.length:Int),c)=some (.inr (.inr c))):
 ((loopO f (0,c)).bind fun r2=>Sum.elim (fun r3=>some (r3.1,r3.2)) (fun r4=>some (true,r4)) r2)=some (decide (∀x∈l,p x),c):=by
 have: ∀m k:Nat,k+m=l.length→loopO f ((k:Int),c)=some (if∀x∈l.drop k,p x then .inr c else .inl (false,c)):=by
  intro m
  induction m with
  |zero=>
   intro k hk
   obtain rfl:k=l.length:=by omega
   rw[loopO_inr he,List.drop_length,if_pos (by simp)]
  |succ m ih=>
   intro k hk
   have hlt:k<l.length:=by omega
   have h1:=h k l[k] hlt (zge hlt)
   rw[List.drop_eq_getElem_cons hlt]
   by_cases hp:p l[k]
   ·rw[if_pos hp]at h1
    rw[loopO_inl h1,show((k:Int)+1)=((k+1:Nat):Int) by omega,ih (k+1) (by omega)]
    simp only[List.mem_cons,forall_eq_or_imp,hp,true_and]
   ·rw[if_neg hp]at h1
    have hn: ¬∀x∈l[k]::l.drop (k+1),p x:=fun hh=>hp (hh _ (List.mem_cons_self ..))
    rw[loopO_inr h1,if_neg hn]
 have:=this l.length 0 (by omega)
 rw[show((0:Nat):Int)=0 from rfl,List.drop_zero]at this
 rw[this]
 by_cases hp: ∀x∈l,p x
 ·rw[if_pos hp,decide_eq_true hp];rfl
 ·rw[if_neg hp,decide_eq_false hp];rfl
def firstE :List Int→Int
 | []=>0
 |e::r=>if e≠0 then e else firstE r
theorem first_eq {α:Type}(f:Int→Option (Int⊕(Int⊕Unit)))(l:List α)(e:α→Int)
 (h: ∀(k:Nat) x,k<l.length→l[k]? =some x→f (k:Int)=some (if e x≠0 then .inr (.inl (e x))else .inl ((k:Int)+1))) (he:f (l.length:Int)=some (.inr (.inr ()))):
 loopO f 0=some (if firstE (l.map e)≠0 then .inl (firstE (l.map e))else .inr ()):=by
 have: ∀m k:Nat,k+m=l.length→loopO f (k:Int)=some (if firstE ((l.drop k).map e)≠0 then .inl (firstE ((l.drop k).map e))else .inr ()):=by
  intro m
  induction m with
  |zero=>
   intro k hk
   obtain rfl:k=l.length:=by omega
   rw[loopO_inr he,List.drop_length]
   rfl
  |succ m ih=>
   intro k hk
   have hlt:k<l.length:=by omega
   have h1:=h k l[k] hlt (zge hlt)
   rw[List.drop_eq_getElem_cons hlt,List.map_cons,firstE]
   by_cases hp:e l[k]≠0
   ·rw[if_pos hp]at h1 ⊢
    rw[loopO_inr h1,if_pos hp]
   ·rw[if_neg hp]at h1 ⊢
    rw[loopO_inl h1,show((k:Int)+1)=((k+1:Nat):Int) by omega,ih (k+1) (by omega)]
 simpa using this l.length 0 (by omega)
theorem find_eq (f:Int→Option (Int⊕(Int⊕Unit)))(l:List Int)(v:Int)
 (h: ∀(k:Nat) x,k<l.length→l[k]? =some x→f (k:Int)=some (if v=x then .inr (.inl (k:Int))else .inl ((k:Int)+1))) (he:f (l.length:Int)=some (.inr (.inr ()))):
 ∃r,((loopO f 0).bind fun r2=>Sum.elim (fun r3=>some r3) (fun _=>some (-1)) r2)=some r∧decide (0≤r)=decide (v∈l):=by
 have: ∀m k:Nat,k+m=l.length→∃r,loopO f (k:Int)=some r∧((v∈l.drop k∧∃j:Nat,r= .inl (j:Int))∨(v∉l.drop k∧r= .inr ())):=by
  intro m
  induction m with
  |zero=>
   intro k hk
   obtain rfl:k=l.length:=by omega
   exact⟨_,loopO_inr he,.inr ⟨by simp,rfl⟩⟩
  |succ m ih=>
   intro k hk
   have hlt:k<l.length:=by omega
   have h1:=h k l[k] hlt (zge hlt)
   rw[List.drop_eq_getElem_cons hlt]
   by_cases hp:v=l[k]
   ·rw[if_pos hp]at h1
    exact⟨_,loopO_inr h1,.inl ⟨List.mem_cons.2 (.inl hp),k,rfl⟩⟩
   ·rw[if_neg hp]at h1
    obtain⟨r,e,hr⟩:=ih (k+1) (by omega)
    refine⟨r,by rw[loopO_inl h1];exact e,?_⟩
    simpa only[List.mem_cons,hp,false_or]using hr
 obtain⟨r,e,hr⟩:=this l.length 0 (by omega)
 rw[show((0:Nat):Int)=0 from rfl]at e
 rw[e]
 rw[List.drop_zero]at hr
 rcases hr with⟨h1,j,rfl⟩|⟨h1,rfl⟩
 ·exact⟨_,rfl,by simp[h1]⟩
 ·exact⟨_,rfl,by simp[h1]⟩
def clV (n:Int):Int:=if n<0 then 0 else if 13<n then 13 else n
def IsN (c:GConf)(n:Int):Prop:=0≤n∧n<clV c.N
instance (c :GConf)(n:Int):Decidable (IsN c n):=by unfold IsN;infer_instance
def Ns (l:List Int)(m:Int):Prop:=(l.length:Int)≤m∧∀x∈l,0≤x∧x≤65535
instance (l :List Int)(m:Int):Decidable (Ns l m):=by unfold Ns;infer_instance
def Nm (c:GConf)(t:GTick):Prop:=(∀s∈t.Sends,IsN c s.From∧IsN c s.To)∧(∀s∈t.Strays,IsN c s.From∧IsN c s.To)∧(∀b∈t.Bursts,IsN c b.Node)∧∀w∈t.Writes,IsN c w.Node
instance (c :GConf)(t:GTick):Decidable (Nm c t):=by unfold Nm;infer_instance
def Sh (t:GTick):Prop:=(∀s∈t.Sends,(s.Bytes.length:Int)≤40)∧(∀s∈t.Strays,(s.Bytes.length:Int)≤40)∧∀b∈t.Bursts,(b.Image.length:Int)≤8000
instance (t :GTick):Decidable (Sh t):=by unfold Sh;infer_instance
def Fl (t:GTick):Prop:=40<(t.Sends.length:Int)∨40<(t.Bursts.length:Int)∨40<(t.Strays.length:Int)∨40<(t.Writes.length:Int)
instance (t :GTick):Decidable (Fl t):=by unfold Fl;infer_instance
def tickV (c:GConf)(t:GTick):Int:=
 if¬Ns t.Units c.N then 2 else if¬Ns t.Delays (wr (c.N*c.N))then 2 else if¬(∀s∈t.Sends,0≤s.Delay∧s.Delay≤65535)then 2 else if¬(∀s∈t.Strays,0≤s.Delay∧s.Delay≤65535)then 2
 else if Fl t then 9 else if¬Nm c t then 7 else if¬Sh t then 6 else if¬(∀w∈t.Writes,(w.Text.length:Int)≤16)then 15 else 0
def Fc (c:GConf)(l:List Int):Prop:= ∀k x,l[k]? =some x→IsN c x∧x∉l.take k
open Classical in
noncomputable def scriptV (s:GScript):Int:=if rightV s.Conf≠0 then rightV s.Conf else if¬Fc s.Conf s.Faulty then 7 else if s.Conf.N<(s.Images.length:Int)then 6 else if 2000<(s.Ticks.length:Int)then 6
 else if¬(∀i∈s.Images,(i.length:Int)≤8000)then 6 else firstE (s.Ticks.map (tickV s.Conf))
structure TIn (t:GTick):Prop where
 u:t.Units.length≤100000000
 d:t.Delays.length≤100000000
 s:t.Sends.length≤100000000
 b:t.Bursts.length≤100000000
 y:t.Strays.length≤100000000
 w:t.Writes.length≤100000000
structure SIn (s:GScript):Prop where
 conf:CIn s.Conf
 f:s.Faulty.length≤100000000
 i:s.Images.length≤100000000
 t:s.Ticks.length≤100000000
 tt: ∀t∈s.Ticks,TIn t
theorem is_eq (c:GConf)(n:Int):script_is c n=some (decide (IsN c n)):=by
 have e:script_nodes c=some (clV c.N):=by
  unfold script_nodes num_Clamp clV
  split
  ·rfl
  ·rw[if_neg (by omega)]
   split<;>rfl
 unfold script_is
 rw[e,zbs]
 exact dec_and
theorem node_eq (c:GConf)(n:Int):r33_node c n=some (decide (IsN c n)):=by
 have e:r01_Clamp c.N 0 13=some (clV c.N):=by
  unfold r01_Clamp clV
  split
  ·rfl
  ·rw[if_neg (by omega)]
   congr 1
   rw[Int.min_def]
   split<;>split<;>omega
 unfold r33_node
 rw[e,zbs]
 exact dec_and
theorem contains_eq (l:List Int)(v:Int)(hl:l.length≤1000000000):slices_Contains_int_int l v=some (decide (v∈l)):=by
 obtain⟨r,h1,h2⟩:=find_eq (fun s=>slices_Index_int_int_0_step l v (l.length:Int) s) l v (fun k x hk hx=>by
  simp only[slices_Index_int_int_0_step]
  rw[if_pos (by omega),idx_get hx,zbs,wrI rfl (by omega)]
  by_cases h:v=x<;>simp[h]) (by simp only[slices_Index_int_int_0_step];rw[if_neg (by omega)])
 have:slices_Index_int_int l v=some r:=h1
 unfold slices_Contains_int_int
 rw[this,zbs,h2]
theorem in_eq (l:List Int)(v:Int)(hl:l.length≤1000000000):r14_In l v=some (decide (v∈l)):=by
 have L:=loopO_anys (f:=fun s=>r14_In_0_step l v s) l (fun x=>x=v) true (fun k x hk hx=>by
  simp only[r14_In_0_step]
  rw[if_pos (by omega),idx_get hx,zbs,wrI rfl (by omega)]
  by_cases h:x=v<;>simp[h]) (by simp only[r14_In_0_step];rw[if_neg (by omega)])
 unfold r14_In r14_In_0
 rw[L]
 by_cases h:v∈l
 ·rw[if_pos ⟨v,h,rfl⟩,decide_eq_true h];rfl
 ·rw[if_neg (by rintro⟨x,hx,rfl⟩;exact h hx),decide_eq_false h];rfl
theorem num1_eq (n:Int):script_numbers_1 n=some (decide (0≤n∧n≤65535)):=dec_and
theorem wait1_eq (s:GSend):script_tick_1 s=some (decide (0≤s.Delay∧s.Delay≤65535)):=dec_and
theorem ints_eq (l:List Int)(hl:l.length≤100000000):script_every_int l=some (decide (∀x∈l,0≤x∧x≤65535)):=
 every_eq (fun s=>script_every_int_0_step l (l.length:Int) s) l (fun x=>0≤x∧x≤65535) (fun k x hk hx=>by
  simp only[script_every_int_0_step]
  rw[if_pos (by omega),idx_get hx,zbs,num1_eq,zbs,wrI rfl (by omega),notd]) (by simp only[script_every_int_0_step];rw[if_neg (by omega)])
theorem nums_eq (l:List Int)(m:Int)(hl:l.length≤100000000):script_numbers l m=some (decide (Ns l m)):=by
 unfold script_numbers
 rw[ints_eq l hl,zbs]
 exact dec_and
theorem waits_eq (l:List GSend)(hl:l.length≤100000000):script_every_api_Send_v2 l=some (decide (∀s∈l,0≤s.Delay∧s.Delay≤65535)):=
 every_eq (fun s=>script_every_api_Send_v2_0_step l (l.length:Int) s) l (fun s=>0≤s.Delay∧s.Delay≤65535) (fun k x hk hx=>by
  simp only[script_every_api_Send_v2_0_step]
  rw[if_pos (by omega),idx_get hx,zbs,wait1_eq,zbs,wrI rfl (by omega),notd]) (by simp only[script_every_api_Send_v2_0_step];rw[if_neg (by omega)])
theorem shorts_eq (l:List GSend)(hl:l.length≤100000000):script_every_api_Send_v1 l=some (decide (∀s∈l,(s.Bytes.length:Int)≤40)):=
 every_eq (fun s=>script_every_api_Send_v1_0_step l (l.length:Int) s) l (fun s=>(s.Bytes.length:Int)≤40) (fun k x hk hx=>by
  simp only[script_every_api_Send_v1_0_step,script_short_1]
  rw[if_pos (by omega),idx_get hx,zbs,zbs,wrI rfl (by omega),notd]) (by simp only[script_every_api_Send_v1_0_step];rw[if_neg (by omega)])
theorem shortb_eq (l:List GBurst)(hl:l.length≤100000000):script_every_api_Burst_v1 l=some (decide (∀s∈l,(s.Image.length:Int)≤8000)):=
 every_eq (fun s=>script_every_api_Burst_v1_0_step l (l.length:Int) s) l (fun s=>(s.Image.length:Int)≤8000) (fun k x hk hx=>by
  simp only[script_every_api_Burst_v1_0_step,script_short_2]
  rw[if_pos (by omega),idx_get hx,zbs,zbs,wrI rfl (by omega),notd]) (by simp only[script_every_api_Burst_v1_0_step];rw[if_neg (by omega)])
theorem texts_eq (l:List GWrite)(hl:l.length≤100000000):script_every_api_Write_v1 l=some (decide (∀s∈l,(s.Text.length:Int)≤16)):=
 every_eq (fun s=>script_every_api_Write_v1_0_step l (l.length:Int) s) l (fun s=>(s.Text.length:Int)≤16) (fun k x hk hx=>by
  simp only[script_every_api_Write_v1_0_step,script_tick_2]
  rw[if_pos (by omega),idx_get hx,zbs,zbs,wrI rfl (by omega),notd]) (by simp only[script_every_api_Write_v1_0_step];rw[if_neg (by omega)])
theorem images_eq (l:List (List UInt8))(hl:l.length≤100000000):script_every_string l=some (decide (∀s∈l,(s.length:Int)≤8000)):=
 every_eq (fun s=>script_every_string_0_step l (l.length:Int) s) l (fun s=>(s.length:Int)≤8000) (fun k x hk hx=>by
  simp only[script_every_string_0_step,script_Right_1]
  rw[if_pos (by omega),idx_get hx,zbs,zbs,wrI rfl (by omega),notd]) (by simp only[script_every_string_0_step];rw[if_neg (by omega)])
theorem named1_eq (c:GConf)(s:GSend):script_named_1 s c=some (decide (IsN c s.From∧IsN c s.To),c):=by
 unfold script_named_1
 rw[is_eq,is_eq,zbs,zbs]
 by_cases h:IsN c s.From<;>simp[h]
theorem ends_eq (c:GConf)(l:List GSend)(hl:l.length≤100000000):script_every_api_Send l c=some (decide (∀s∈l,IsN c s.From∧IsN c s.To),c):=
 every_fix (fun s=>script_every_api_Send_0_step l (l.length:Int) s.1 s.2) c l (fun s=>IsN c s.From∧IsN c s.To) (fun k x hk hx=>by
  simp only[script_every_api_Send_0_step]
  rw[if_pos (by omega),idx_get hx,zbs,named1_eq,zbs,wrI rfl (by omega),notd]) (by simp only[script_every_api_Send_0_step];rw[if_neg (by omega)])
theorem endb_eq (c:GConf)(l:List GBurst)(hl:l.length≤100000000):script_every_api_Burst l c=some (decide (∀s∈l,IsN c s.Node),c):=
 every_fix (fun s=>script_every_api_Burst_0_step l (l.length:Int) s.1 s.2) c l (fun s=>IsN c s.Node) (fun k x hk hx=>by
  simp only[script_every_api_Burst_0_step,script_named_2]
  rw[if_pos (by omega),idx_get hx,zbs,is_eq,zbs,zbs,wrI rfl (by omega),notd]) (by simp only[script_every_api_Burst_0_step];rw[if_neg (by omega)])
theorem endw_eq (c:GConf)(l:List GWrite)(hl:l.length≤100000000):script_every_api_Write l c=some (decide (∀s∈l,IsN c s.Node),c):=
 every_fix (fun s=>script_every_api_Write_0_step l (l.length:Int) s.1 s.2) c l (fun s=>IsN c s.Node) (fun k x hk hx=>by
  simp only[script_every_api_Write_0_step,script_named_3]
  rw[if_pos (by omega),idx_get hx,zbs,is_eq,zbs,zbs,wrI rfl (by omega),notd]) (by simp only[script_every_api_Write_0_step];rw[if_neg (by omega)])
theorem named_eq (c:GConf)(t:GTick)(ht:TIn t):script_named c t=some (decide (Nm c t)):=by
 unfold script_named
 simp only[ends_eq c _ ht.s,ends_eq c _ ht.y,endb_eq c _ ht.b,endw_eq c _ ht.w,zbs,decide_eq_true_eq]
 by_cases h1: ∀s∈t.Sends,IsN c s.From∧IsN c s.To
 ·rw[if_pos h1]
  by_cases h2: ∀s∈t.Strays,IsN c s.From∧IsN c s.To
  ·rw[if_pos h2]
   by_cases h3: ∀s∈t.Bursts,IsN c s.Node
   ·rw[if_pos h3]
    congr 1
    exact Bool.eq_iff_iff.2 (by simp only[decide_eq_true_eq];exact⟨fun h=>⟨h1,h2,h3,h⟩,fun h=>h.2.2.2⟩)
   ·rw[if_neg h3,decide_eq_false fun h=>h3 h.2.2.1]
  ·rw[if_neg h2,decide_eq_false fun h=>h2 h.2.1]
 ·rw[if_neg h1,decide_eq_false fun h=>h1 h.1]
theorem short_eq (t:GTick)(ht:TIn t):script_short t=some (decide (Sh t)):=by
 unfold script_short
 simp only[shorts_eq _ ht.s,shorts_eq _ ht.y,shortb_eq _ ht.b,zbs,decide_eq_true_eq]
 by_cases h1: ∀s∈t.Sends,(s.Bytes.length:Int)≤40
 ·rw[if_pos h1]
  by_cases h2: ∀s∈t.Strays,(s.Bytes.length:Int)≤40
  ·rw[if_pos h2]
   congr 1
   exact Bool.eq_iff_iff.2 (by simp only[decide_eq_true_eq];exact⟨fun h=>⟨h1,h2,h⟩,fun h=>h.2.2⟩)
  ·rw[if_neg h2,decide_eq_false fun h=>h2 h.2.1]
 ·rw[if_neg h1,decide_eq_false fun h=>h1 h.1]
theorem full_eq (t:GTick):script_full t=some (decide (Fl t)):=by
 unfold script_full
 rw[mmL_max]
 congr 1
 refine Bool.eq_iff_iff.2 (decide_eq_true_iff.trans (Iff.trans ?_ decide_eq_true_iff.symm))
 simp only[List.foldl_cons,List.foldl_nil]
 unfold Fl
 omega
theorem tick_eq (c:GConf)(t:GTick)(ht:TIn t):script_tick c t=some (tickV c t):=by
 unfold script_tick tickV
 simp only[nums_eq _ _ ht.u,nums_eq _ _ ht.d,waits_eq _ ht.s,waits_eq _ ht.y,full_eq,named_eq c t ht,short_eq t ht,texts_eq _ ht.w,zbs,Bool.not_eq_true',decide_eq_false_iff_not,decide_eq_true_eq]
 repeat(split;first|rfl|skip)
 all_goals first|rfl|skip
theorem within33_eq (l:List Int)(m:Int)(hl:l.length≤1000000000):r33_within l m=some (decide (Ns l m)):=by
 have e:((loopO (fun s=>r33_within_0_step l s) 0).bind fun r2=>Sum.elim (fun r3=>some r3) (fun _=>some true) r2)=some (decide (∀x∈l,0≤x∧x≤65535)):=
  every_eq (fun s=>r33_within_0_step l s) l (fun x=>0≤x∧x≤65535) (fun k x hk hx=>by
   simp only[r33_within_0_step]
   rw[if_pos (by omega),idx_get hx,zbs,zbs,wrI rfl (by omega)]
   by_cases h1:x<0
   ·rw[if_pos h1,if_neg (by omega)]
   ·rw[if_neg h1]
    by_cases h2:65535<x
    ·rw[if_pos h2,if_neg (by omega)]
    ·rw[if_neg h2,if_pos (by omega)]) (by simp only[r33_within_0_step];rw[if_neg (by omega)])
 unfold r33_within
 by_cases h:m<(l.length:Int)
 ·rw[if_pos h,decide_eq_false (fun hh:Ns l m=>absurd hh.1 (by omega))]
 ·rw[if_neg h]
  refine Eq.trans e ?_
  congr 1
  exact Bool.eq_iff_iff.2 (by simp only[decide_eq_true_eq];exact⟨fun hh=>⟨by omega,hh⟩,fun hh=>hh.2⟩)
theorem waits33_eq (t:GTick)(ht:TIn t):r33_waits t=some (t.Sends.map GSend.Delay++t.Strays.map GSend.Delay):=by
 have h1:=ht.s
 have h2:=ht.y
 have e: ∀(l:List GSend),l.flatMap (fun s=>[s.Delay])=l.map GSend.Delay:=by
  intro l
  induction l with
  |nil=>rfl
  |cons x l ih=>rw[List.flatMap_cons,ih];rfl
 have L1:=loopO_rows (f:=fun s:List Int×Int=>r33_waits_0_step t t.Sends (t.Sends.length:Int) s.1 s.2) (fun o i=>(o,i)) id t.Sends (fun _ s=>[s.Delay]) 4294967296 (fun k x o hk hx hl=>by
  show r33_waits_0_step _ _ _ _ _=_
  unfold r33_waits_0_step
  rw[if_pos (by omega),idx_get hx,zbs,if_pos (by rw[lenMax_eq];exact hl),wrI rfl (by omega)]) (fun o=>by
  show r33_waits_0_step _ _ _ _ _=_
  unfold r33_waits_0_step
  rw[if_neg (by omega)];rfl) [] (by rw[rows_flat,e];simp;omega)
 have L2:=loopO_rows (f:=fun s:List Int×Int=>r33_waits_1_step t.Strays (t.Strays.length:Int) s.1 s.2) (fun o i=>(o,i)) id t.Strays (fun _ s=>[s.Delay]) 4294967296 (fun k x o hk hx hl=>by
  show r33_waits_1_step _ _ _ _=_
  unfold r33_waits_1_step
  rw[if_pos (by omega),idx_get hx,zbs,if_pos (by rw[lenMax_eq];exact hl),wrI rfl (by omega)]) (fun o=>by
  show r33_waits_1_step _ _ _ _=_
  unfold r33_waits_1_step
  rw[if_neg (by omega)];rfl) (t.Sends.map GSend.Delay) (by rw[rows_flat,e];simp;omega)
 rw[rows_flat,e]at L1 L2
 unfold r33_waits r33_waits_0
 rw[L1,zbs]
 unfold r33_waits_1
 rw[id,List.nil_append,L2]
 rfl
theorem nodes33_eq (c:GConf)(t:GTick)(ht:TIn t):r33_nodes c t=some (decide (Nm c t)):=by
 have h1:=ht.s
 have h2:=ht.y
 have h3:=ht.b
 have h4:=ht.w
 have L0:=loopO_alls (f:=fun s=>r33_nodes_0_step c t t.Sends (t.Sends.length:Int) s) t.Sends (fun s=>IsN c s.From∧IsN c s.To) (fun k x hk hx=>by
  simp only[r33_nodes_0_step]
  rw[if_pos (by omega),idx_get hx,zbs,node_eq,zbs,node_eq,zbs,wrI rfl (by omega)]
  by_cases a:IsN c x.From<;>by_cases b:IsN c x.To<;>simp[a,b]) (by simp only[r33_nodes_0_step];rw[if_neg (by omega)])
 have L1:=loopO_alls (f:=fun s=>r33_nodes_1_step c t t.Strays (t.Strays.length:Int) s) t.Strays (fun s=>IsN c s.From∧IsN c s.To) (fun k x hk hx=>by
  simp only[r33_nodes_1_step]
  rw[if_pos (by omega),idx_get hx,zbs,node_eq,zbs,node_eq,zbs,wrI rfl (by omega)]
  by_cases a:IsN c x.From<;>by_cases b:IsN c x.To<;>simp[a,b]) (by simp only[r33_nodes_1_step];rw[if_neg (by omega)])
 have L2:=loopO_alls (f:=fun s=>r33_nodes_2_step c t t.Bursts (t.Bursts.length:Int) s) t.Bursts (fun s=>IsN c s.Node) (fun k x hk hx=>by
  simp only[r33_nodes_2_step]
  rw[if_pos (by omega),idx_get hx,zbs,node_eq,zbs,wrI rfl (by omega)]
  by_cases a:IsN c x.Node<;>simp[a]) (by simp only[r33_nodes_2_step];rw[if_neg (by omega)])
 have L3:=loopO_alls (f:=fun s=>r33_nodes_3_step c t.Writes (t.Writes.length:Int) s) t.Writes (fun s=>IsN c s.Node) (fun k x hk hx=>by
  simp only[r33_nodes_3_step]
  rw[if_pos (by omega),idx_get hx,zbs,node_eq,zbs,wrI rfl (by omega)]
  by_cases a:IsN c x.Node<;>simp[a]) (by simp only[r33_nodes_3_step];rw[if_neg (by omega)])
 unfold r33_nodes r33_nodes_0 r33_nodes_1 r33_nodes_2 r33_nodes_3
 rw[L0,zbs,L1,L2,L3]
 by_cases a0: ∀s∈t.Sends,IsN c s.From∧IsN c s.To
 ·rw[if_pos a0]
  by_cases a1: ∀s∈t.Strays,IsN c s.From∧IsN c s.To
  ·rw[if_pos a1]
   by_cases a2: ∀s∈t.Bursts,IsN c s.Node
   ·rw[if_pos a2]
    by_cases a3: ∀s∈t.Writes,IsN c s.Node
    ·rw[if_pos a3,decide_eq_true ⟨a0,a1,a2,a3⟩];rfl
    ·rw[if_neg a3,decide_eq_false fun h=>a3 h.2.2.2];rfl
   ·rw[if_neg a2,decide_eq_false fun h=>a2 h.2.2.1];rfl
  ·rw[if_neg a1,decide_eq_false fun h=>a1 h.2.1];rfl
 ·rw[if_neg a0,decide_eq_false fun h=>a0 h.1];rfl
theorem long33_eq (t:GTick)(ht:TIn t):r33_long t=some (decide (¬Sh t)):=by
 have h1:=ht.s
 have h2:=ht.y
 have h3:=ht.b
 have L0:=loopO_anys (f:=fun s=>r33_long_0_step t t.Sends (t.Sends.length:Int) s) t.Sends (fun s=>40<(s.Bytes.length:Int)) true (fun k x hk hx=>by
  simp only[r33_long_0_step]
  rw[if_pos (by omega),idx_get hx,zbs,wrI rfl (by omega)]
  by_cases a:40<(x.Bytes.length:Int)<;>simp[a]) (by simp only[r33_long_0_step];rw[if_neg (by omega)])
 have L1:=loopO_anys (f:=fun s=>r33_long_1_step t t.Strays (t.Strays.length:Int) s) t.Strays (fun s=>40<(s.Bytes.length:Int)) true (fun k x hk hx=>by
  simp only[r33_long_1_step]
  rw[if_pos (by omega),idx_get hx,zbs,wrI rfl (by omega)]
  by_cases a:40<(x.Bytes.length:Int)<;>simp[a]) (by simp only[r33_long_1_step];rw[if_neg (by omega)])
 have L2:=loopO_anys (f:=fun s=>r33_long_2_step t.Bursts (t.Bursts.length:Int) s) t.Bursts (fun s=>8000<(s.Image.length:Int)) true (fun k x hk hx=>by
  simp only[r33_long_2_step]
  rw[if_pos (by omega),idx_get hx,zbs,wrI rfl (by omega)]
  by_cases a:8000<(x.Image.length:Int)<;>simp[a]) (by simp only[r33_long_2_step];rw[if_neg (by omega)])
 unfold r33_long r33_long_0 r33_long_1 r33_long_2
 rw[L0,zbs,L1,L2]
 by_cases a0: ∃s∈t.Sends,40<(s.Bytes.length:Int)
 ·rw[if_pos a0,decide_eq_true (by obtain⟨s,h5,h6⟩:=a0;exact fun h=>absurd (h.1 s h5) (by omega))];rfl
 ·rw[if_neg a0]
  by_cases a1: ∃s∈t.Strays,40<(s.Bytes.length:Int)
  ·rw[if_pos a1,decide_eq_true (by obtain⟨s,h5,h6⟩:=a1;exact fun h=>absurd (h.2.1 s h5) (by omega))];rfl
  ·rw[if_neg a1]
   by_cases a2: ∃s∈t.Bursts,8000<(s.Image.length:Int)
   ·rw[if_pos a2,decide_eq_true (by obtain⟨s,h5,h6⟩:=a2;exact fun h=>absurd (h.2.2 s h5) (by omega))];rfl
   ·rw[if_neg a2,decide_eq_false (fun h=>h ⟨fun s hs=>Int.not_lt.1 fun hh=>a0 ⟨s,hs,hh⟩,fun s hs=>Int.not_lt.1 fun hh=>a1 ⟨s,hs,hh⟩,fun s hs=>Int.not_lt.1 fun hh=>a2 ⟨s,hs,hh⟩⟩)];rfl
theorem tick33_eq (c:GConf)(t:GTick)(ht:TIn t):r33_tick c t=some (tickV c t):=by
 have h1:=ht.s
 have h2:=ht.y
 have h4:=ht.w
 have L:=loopO_anys (f:=fun s=>r33_tick_0_step t.Writes (t.Writes.length:Int) s) t.Writes (fun s=>16<(s.Text.length:Int)) (15:Int) (fun k x hk hx=>by
  simp only[r33_tick_0_step]
  rw[if_pos (by omega),idx_get hx,zbs,wrI rfl (by omega)]
  by_cases a:16<(x.Text.length:Int)<;>simp[a]) (by simp only[r33_tick_0_step];rw[if_neg (by omega)])
 have hw:Ns (t.Sends.map GSend.Delay++t.Strays.map GSend.Delay) ((t.Sends.length:Int)+(t.Strays.length:Int))↔(∀s∈t.Sends,0≤s.Delay∧s.Delay≤65535)∧(∀s∈t.Strays,0≤s.Delay∧s.Delay≤65535):=by
  unfold Ns
  simp only[List.length_append,List.length_map,List.mem_append,List.mem_map]
  constructor
  ·rintro⟨-,h⟩
   exact⟨fun s hs=>h _ (.inl ⟨s,hs,rfl⟩),fun s hs=>h _ (.inr ⟨s,hs,rfl⟩)⟩
  ·rintro⟨ha,hb⟩
   refine⟨by omega,?_⟩
   rintro x (⟨s,hs,rfl⟩|⟨s,hs,rfl⟩)
   ·exact ha s hs
   ·exact hb s hs
 unfold r33_tick tickV r33_tick_0
 rw[within33_eq _ _ (by have:=ht.u;omega),within33_eq _ _ (by have:=ht.d;omega),waits33_eq t ht,wrI (n:=(t.Sends.length:Int)+(t.Strays.length:Int)) rfl (by omega)]
 simp only[zbs]
 rw[within33_eq _ _ (by simp;omega),nodes33_eq c t ht,long33_eq t ht,L]
 simp only[zbs,Bool.not_eq_true',decide_eq_false_iff_not,decide_eq_true_eq]
 by_cases a1:Ns t.Units c.N
 ·rw[if_neg (not_not_intro a1),if_neg (not_not_intro a1)]
  by_cases a2:Ns t.Delays (wr (c.N*c.N))
  ·rw[if_neg (not_not_intro a2),if_neg (not_not_intro a2)]
   by_cases a3: ∀s∈t.Sends,0≤s.Delay∧s.Delay≤65535
   ·by_cases a4: ∀s∈t.Strays,0≤s.Delay∧s.Delay≤65535
    ·rw[if_neg (not_not_intro (hw.2 ⟨a3,a4⟩)),if_neg (not_not_intro a3),if_neg (not_not_intro a4)]
     by_cases a5:Fl t
     ·rw[if_pos a5]
      unfold Fl at a5
      iterate 4 (split;· rfl)
      exfalso;omega
     ·rw[if_neg a5]
      unfold Fl at a5
      iterate 4 (split;· exfalso;omega)
      by_cases a6:Nm c t
      ·rw[if_neg (not_not_intro a6),if_neg (not_not_intro a6)]
       by_cases a7:Sh t
       ·rw[if_neg (not_not_intro a7),if_neg (not_not_intro a7)]
        by_cases a8: ∃s∈t.Writes,16<(s.Text.length:Int)
        ·rw[if_pos a8,if_pos (show¬∀w∈t.Writes,(w.Text.length:Int)≤16 from by obtain⟨s,h5,h6⟩:=a8;exact fun h=>absurd (h s h5) (by omega))];rfl
        ·have a9: ∀w∈t.Writes,(w.Text.length:Int)≤16:=fun s hs=>Int.not_lt.1 fun hh=>a8 ⟨s,hs,hh⟩
         rw[if_neg a8,if_neg (not_not_intro a9)];rfl
       ·rw[if_pos a7,if_pos a7]
      ·rw[if_pos a6,if_pos a6]
    ·have n: ¬Ns (t.Sends.map GSend.Delay++t.Strays.map GSend.Delay) ((t.Sends.length:Int)+(t.Strays.length:Int)):=fun h=>a4 (hw.1 h).2
     rw[if_pos n,if_neg (not_not_intro a3),if_pos a4]
   ·have n: ¬Ns (t.Sends.map GSend.Delay++t.Strays.map GSend.Delay) ((t.Sends.length:Int)+(t.Strays.length:Int)):=fun h=>a3 (hw.1 h).1
    rw[if_pos n,if_pos a3]
  ·rw[if_pos a2,if_pos a2]
 ·rw[if_pos a1,if_pos a1]
theorem faulty_p (c:GConf)(l:List Int):(∃k,k<l.length∧∃x,l[k]? =some x∧¬(IsN c x∧x∉l.take k))↔¬Fc c l:=by
 unfold Fc
 constructor
 ·rintro⟨k,hk,x,hx,h⟩ hh
  exact h (hh k x hx)
 ·intro h
  obtain⟨k,h⟩:=Classical.not_forall.1 h
  obtain⟨x,h⟩:=Classical.not_forall.1 h
  obtain⟨hx,h⟩:=Classical.not_imp.1 h
  exact⟨k,(List.getElem?_eq_some_iff.1 hx).1,x,hx,h⟩
theorem script_right (s:GScript)(h:SIn s):script_Right s=some (scriptV s):=by
 classical
 have f1:=h.f
 have f2:=h.t
 have LF:=loopO_any (f:=fun i=>script_faulty_0_step s s.Faulty (s.Faulty.length:Int) i) s.Faulty.length (fun k=> ∃x,s.Faulty[k]? =some x∧¬(IsN s.Conf x∧x∉s.Faulty.take k)) false (fun k hk=>by
  simp only[script_faulty_0_step]
  have hx:=zge hk
  rw[if_pos (by omega),idx_get hx,zbs,is_eq,zbs,if_pos (show 0≤(k:Int)∧(k:Int)≤(s.Faulty.length:Nat) by omega),Int.toNat_natCast,contains_eq _ _ (by simp;omega),zbs,wrI rfl (by omega),hx]
  simp only[zsi,exists_eq_left']
  by_cases a:IsN s.Conf s.Faulty[k]<;>by_cases b:s.Faulty[k]∈s.Faulty.take k<;>simp[a,b]) (by simp only[script_faulty_0_step];rw[if_neg (by omega)])
 have LT:=first_eq (fun i=>script_Right_0_step s s.Ticks (s.Ticks.length:Int) i) s.Ticks (tickV s.Conf) (fun k x hk hx=>by
  simp only[script_Right_0_step]
  rw[if_pos (by omega),idx_get hx,zbs,tick_eq _ _ (h.tt x (List.mem_of_getElem? hx)),zbs,wrI rfl (by omega)]
  split<;>rfl) (by simp only[script_Right_0_step];rw[if_neg (by omega)])
 unfold script_Right scriptV
 rw[bound_right _ h.conf,zbs]
 by_cases h0:rightV s.Conf≠0
 ·rw[if_pos h0,if_pos h0]
 ·rw[if_neg h0,if_neg h0]
  unfold script_faulty script_faulty_0
  rw[LF,images_eq _ h.i]
  by_cases h1:Fc s.Conf s.Faulty
  ·rw[if_neg (fun hh=>(faulty_p _ _).1 hh h1),if_neg (not_not_intro h1)]
   rw[zbs,Sum.elim_inr,zbs,if_neg (show¬(!true)=true by decide)]
   split
   ·rfl
   ·split
    ·rfl
    ·rw[zbs]
     by_cases h2: ∀i∈s.Images,(i.length:Int)≤8000
     ·rw[decide_eq_true h2,if_neg (by decide),if_neg (fun hh=>hh h2)]
      unfold script_Right_0
      rw[LT]
      by_cases h3:firstE (s.Ticks.map (tickV s.Conf))=0
      ·rw[if_neg (fun hh=>hh h3),h3];rfl
      ·rw[if_pos h3];rfl
     ·rw[decide_eq_false h2,if_pos (show(!false)=true from rfl),if_pos h2]
  ·rw[if_pos ((faulty_p _ _).2 h1),if_pos h1]
   rfl
theorem r33_right (s:GScript)(h:SIn s):r33_Right s=some (scriptV s):=by
 classical
 have f1:=h.f
 have f2:=h.t
 have f3:=h.i
 have LF:=loopO_any (f:=fun i=>r33_Right_0_step s i) s.Faulty.length (fun k=> ∃x,s.Faulty[k]? =some x∧¬(IsN s.Conf x∧x∉s.Faulty.take k)) (7:Int) (fun k hk=>by
  simp only[r33_Right_0_step]
  have hx:=zge hk
  rw[if_pos (by omega),idx_get hx,zbs,node_eq,zbs,if_pos (show 0≤(k:Int)∧(k:Int)≤(s.Faulty.length:Nat) by omega),zbs,Int.toNat_natCast,in_eq _ _ (by simp;omega),zbs,wrI rfl (by omega),hx]
  simp only[zsi,exists_eq_left']
  by_cases a:IsN s.Conf s.Faulty[k]<;>by_cases b:s.Faulty[k]∈s.Faulty.take k<;>simp[a,b]) (by simp only[r33_Right_0_step];rw[if_neg (by omega)])
 have LI:=loopO_anys (f:=fun i=>r33_Right_1_step s i) s.Images (fun i=>8000<(i.length:Int)) (6:Int) (fun k x hk hx=>by
  simp only[r33_Right_1_step]
  rw[if_pos (by omega),idx_get hx,zbs,wrI rfl (by omega)]
  by_cases a:8000<(x.length:Int)<;>simp[a]) (by simp only[r33_Right_1_step];rw[if_neg (by omega)])
 have LT:=first_eq (fun i=>r33_Right_2_step s i) s.Ticks (tickV s.Conf) (fun k x hk hx=>by
  simp only[r33_Right_2_step]
  rw[if_pos (by omega),idx_get hx,zbs,tick33_eq _ _ (h.tt x (List.mem_of_getElem? hx)),zbs,wrI rfl (by omega)]
  split<;>rfl) (by simp only[r33_Right_2_step];rw[if_neg (by omega)])
 unfold r33_Right scriptV
 rw[r04_right _ h.conf,zbs]
 by_cases h0:rightV s.Conf≠0
 ·rw[if_pos h0,if_pos h0];rfl
 ·rw[if_neg h0,if_neg h0]
  unfold r33_Right_0 r33_Right_1 r33_Right_2
  rw[LF,LI,LT]
  by_cases h1:Fc s.Conf s.Faulty
  ·rw[if_neg (fun hh=>(faulty_p _ _).1 hh h1),if_neg (not_not_intro h1)]
   rw[zbs,Sum.elim_inr]
   split
   ·rfl
   ·split
    ·rfl
    ·rw[zbs]
     by_cases h2: ∃i∈s.Images,8000<(i.length:Int)
     ·have h5: ¬∀i∈s.Images,(i.length:Int)≤8000:=by obtain⟨x,h5,h6⟩:=h2;exact fun hh=>absurd (hh x h5) (by omega)
      rw[if_pos h2,if_pos h5];rfl
     ·have h5: ∀i∈s.Images,(i.length:Int)≤8000:=fun x hx=>Int.not_lt.1 fun h9=>h2 ⟨x,hx,h9⟩
      rw[if_neg h2,if_neg (not_not_intro h5),Sum.elim_inr,zbs]
      by_cases h3:firstE (s.Ticks.map (tickV s.Conf))=0
      ·rw[if_neg (not_not_intro h3),h3];rfl
      ·rw[if_pos h3];rfl
  ·rw[if_pos ((faulty_p _ _).2 h1),if_pos h1]
   rfl
def lenV (c:GConf):Int:=3*(c.F+1)*c.D
theorem lenV_in (c:GConf)(hp:Pl c):3≤lenV c∧lenV c≤60:=by
 obtain⟨⟨_,_,f0,f4,_⟩,⟨d0,d4⟩,_⟩:=hp
 unfold lenV
 have h1:3*(c.F+1)*c.D≤15*4:=Int.mul_le_mul (by omega) d4 (by omega) (by omega)
 have h2:3*1≤3*(c.F+1)*c.D:=Int.mul_le_mul (by omega) d0 (by omega) (by omega)
 omega
theorem length_eq (c:GConf)(hc:CIn c)(hp:Pl c):conf_Length c=some (lenV c):=by
 have hl:=lenV_in c hp
 have h0:=(plain_zero c).2 hp
 obtain⟨⟨_,_,f0,f4,_⟩,⟨d0,d4⟩,_⟩:=hp
 unfold conf_Length conf_Rounds
 rw[conf_plain c hc,zbs,h0,if_neg (by decide),wrM (n:=c.F+1) (by omega) (by omega),wrM (n:=3*(c.F+1)) (by omega) (by omega),zbs]
 rw[show max c.D 0=c.D by omega]
 unfold lenV at hl ⊢
 rw[wrM (by omega) (by omega)]
theorem length_eq' (c:GConf)(hc:CIn c)(hp:Pl c):r03_Length c=some (lenV c):=by
 have hl:=lenV_in c hp
 have h0:=(plain_zero c).2 hp
 obtain⟨⟨_,_,f0,f4,_⟩,⟨d0,d4⟩,_⟩:=hp
 unfold r03_Length
 rw[r03_plain c hc,zbs,h0,if_neg (by decide),wrM (n:=c.F+1) (by omega) (by omega),wrM (n:=3*(c.F+1)) (by omega) (by omega)]
 unfold lenV at hl ⊢
 rw[wrM (by omega) (by omega)]
theorem bits_eq (c:GConf)(hc:CIn c)(hp:Pl c):conf_Bits c=some (8+c.N):=by
 have h0:=(plain_zero c).2 hp
 obtain⟨⟨_,_,f0,f4,_⟩,⟨d0,d4⟩,_⟩:=hp
 unfold conf_Bits
 rw[conf_plain c hc,zbs,h0,if_neg (by decide),wrM (by omega) (by omega)]
theorem mod_eq (n b:Int)(hb:1≤b)(hb':b≤9223372036854775807):num_Mod n b=some (n%b):=by
 unfold num_Mod
 rw[if_neg (by omega),if_neg (by omega)]
 have h1:Int.tmod n b=n%b∨(Int.tmod n b<0∧Int.tmod n b+b=n%b):=by
  have:=Int.tmod_eq_emod (a:=n) (b:=b)
  have h2:=Int.emod_nonneg n (show b≠0 by omega)
  have h3:=Int.emod_lt_of_pos n (show 0<b by omega)
  split at this
  ·exact .inl (by simpa using this)
  ·exact .inr ⟨by omega,by omega⟩
 have h2:=Int.emod_nonneg n (show b≠0 by omega)
 have h3:=Int.emod_lt_of_pos n (show 0<b by omega)
 rcases h1 with h|⟨h,h'⟩
 ·rw[if_neg (by omega),h]
 ·rw[if_pos h,wrM (by omega) (by omega),h']
theorem put_eq (n:Int):ring_Put n=some (n%65536):=by
 unfold ring_Put ring_put
 rw[mod_eq _ _ (by omega) (by omega)];rfl
def clampV (n a b:Int):Int:=if n<a then a else if b<a then a else min n b
theorem clamp_eq (n a b:Int):num_Clamp n a b=some (clampV n a b):=by
 unfold num_Clamp clampV
 split
 ·rfl
 ·split
  ·rfl
  ·split
   ·rw[Int.min_def];split<;>first|rfl|(congr 1;omega)
   ·rw[Int.min_def];split<;>first|rfl|(congr 1;omega)
theorem clamp_id (n a b:Int)(h:a≤n)(h':n≤b):clampV n a b=n:=by unfold clampV;omega
def diagV (d:Ar6 Int):Ar6 Int:=⟨clampV d.a0 0 65535,clampV d.a1 0 65535,clampV d.a2 0 65535,clampV d.a3 0 65535,clampV d.a4 0 65535,clampV d.a5 0 65535⟩
theorem diag_eq (d:Ar6 Int):diag_Clean d=some (diagV d):=by
 unfold diag_Clean diag_counters_clean diag_counters_clean_0
 have st: ∀(k:Nat) (x e e':Ar6 Int) (z:Int),k<6→d.get? k=some z→e.set? k (clampV z 0 65535)=some e'→
  diag_counters_clean_0_step d x (k:Int) e=some (.inl (((k+1:Nat):Int),e')):=by
  intro k x e e' z hk h1 h2
  simp only[diag_counters_clean_0_step]
  rw[if_pos (by omega),if_pos (by omega),Int.toNat_natCast,show(Ar6.mk d.a0 d.a1 d.a2 d.a3 d.a4 d.a5)=d from rfl,h1,zbs,clamp_eq,zbs,if_pos (by omega),h2,zbs,wrM (by omega) (by omega)]
  rfl
 rw[loopO_inl (st 0 _ _ _ _ (by decide) rfl rfl),loopO_inl (st 1 _ _ _ _ (by decide) rfl rfl),loopO_inl (st 2 _ _ _ _ (by decide) rfl rfl),loopO_inl (st 3 _ _ _ _ (by decide) rfl rfl),
  loopO_inl (st 4 _ _ _ _ (by decide) rfl rfl),loopO_inl (st 5 _ _ _ _ (by decide) rfl rfl),loopO_inr (by simp only[diag_counters_clean_0_step];rw[if_neg (by omega)])]
 rfl
theorem cut_eq (s:List UInt8)(n:Int)(hn:0≤n):mem_cut s n=some (s.take n.toNat):=by
 unfold mem_cut
 rw[if_pos (by omega)]
 congr 1
 by_cases h:(s.length:Int)≤n
 ·rw[show min (s.length:Int) n=s.length by omega,Int.toNat_natCast,List.take_length,List.take_of_length_le (by omega)]
 ·rw[show min (s.length:Int) n=n by omega]
def dg (last:Int)(b:UInt8):UInt8:=if(b.toNat:Int)<48 then 48 else if last<(b.toNat:Int)then 48 else b
theorem digits_eq (s:List UInt8)(last:Int)(hs:s.length≤lenMax):mem_digits s last=some (s.map (dg last)):=by
 unfold mem_digits
 have hs':s.length≤4294967296:=hs
 have hlen:(intsOf s).length=s.length:=by simp[intsOf]
 have e:=loopO_turn (f:=fun p:Int×List Int=>mem_digits_0_step last s.length s.length (s.length:Nat) p.1 p.2) (intsOf s) (fun k=>match s[k]? with|some b=>((dg last b).toNat:Int)|none=>0) (fun k pre post x hk hpre hx=> ?_) (fun l'=> ?_)
 rotate_left
 ·rw[hlen]at hk
  have hg:=zge hk
  have hx':x=(s[k].toNat:Int):=by
   simp only[intsOf,List.getElem?_map,hg,Option.map_some,zsi]at hx
   exact hx.symm
  simp only[mem_digits_0_step]
  rw[if_pos (by omega),if_pos (by omega),Int.toNat_natCast]
  have h1:(pre++x::post)[k]? =some x:=by rw[←hpre];simp
  rw[h1,zbs,mod_mid _ _ _ _ _ hpre,hg,hx',wrM (n:=(k:Int)+1) (by omega) (by omega)]
  by_cases c1:(s[k].toNat:Int)<48
  ·rw[if_pos c1,if_pos (by omega),zbs]
   simp only[dg,c1,if_true];rfl
  ·rw[if_neg c1]
   by_cases c2:last<(s[k].toNat:Int)
   ·rw[if_pos c2,if_pos (by omega),zbs]
    simp only[dg,c1,c2,if_true,if_false];rfl
   ·rw[if_neg c2]
    simp only[dg,c1,c2,if_false]
 ·rw[hlen]
  simp only[mem_digits_0_step]
  rw[if_neg (by omega)]
 have e':mem_digits_0 last s.length s.length ((s.length:Nat):Int) 0 (intsOf s)=some ((List.range s.length).map (fun k=>match s[k]? with|some b=>((dg last b).toNat:Int)|none=>0)):=by
  rw[←hlen]
  rw[hlen]
  rw[hlen]at e
  exact e
 rw[if_pos hs,e',zbs,sub_all _ _ (by simp),zbs]
 congr 1
 unfold bytesOf
 apply List.ext_getElem
 ·simp
 ·intro k h1 h2
  have hk:k<s.length:=by simpa using h2
  simp[zge hk]
def dgAt (s:List UInt8)(last:Int)(k:Nat):UInt8:=match s[k]? with|some b=>dg last b|none=>48
def rowV (s:List UInt8)(n last:Int):List UInt8:=if(s.length:Int)≠n then []else s.map (dg last)
theorem row_eq (s:List UInt8)(n last:Int)(hn:n≤4294967296):mem_row s n last=some (rowV s n last):=by
 unfold mem_row rowV
 split
 ·rfl
 ·rw[digits_eq s last (by show s.length≤4294967296;omega)];rfl
theorem rep_eq (L:Nat):Lib.repeatL ([48]:List UInt8) L=List.replicate L 48:=by
 induction L with
 |zero=>rfl
 |succ n ih=>rw[Lib.repeatL,ih];rfl
theorem blank_eq (c:GConf)(hc:CIn c)(hp:Pl c):pipe_Blank c=some (List.replicate (lenV c).toNat 48):=by
 have hl:=lenV_in c hp
 unfold pipe_Blank
 rw[length_eq c hc hp,zbs]
 unfold strings_Repeat
 rw[if_pos ⟨by omega,by omega,by simp only[List.length_cons,List.length_nil];omega⟩,rep_eq];rfl
def pipeV (c:GConf)(s:List UInt8):List UInt8:=(List.range (lenV c).toNat).map (dgAt s 53)
theorem pipe_eq (s:List UInt8)(L:Nat):((s++List.replicate L 48).take L).map (dg 53)=(List.range L).map (dgAt s 53):=by
 apply List.ext_getElem
 ·simp
 ·intro k h1 h2
  have hk:k<L:=by simpa using h2
  simp only[List.getElem_map,List.getElem_take,List.getElem_range,dgAt]
  by_cases h:k<s.length
  ·rw[List.getElem_append_left h,zge h]
  ·rw[List.getElem_append_right (by omega),List.getElem?_eq_none (by omega),List.getElem_replicate]
   decide
def markAt (s:List UInt8)(k:Nat):UInt8:=if s[k]? =some 49 then 49 else 48
def markV (s:List UInt8)(n:Int):List UInt8:=(List.range n.toNat).map (markAt s)
theorem contains_nil (v:Int):slices_Contains_int_int [] v=some false:=by
 unfold slices_Contains_int_int slices_Index_int_int slices_Index_int_int_0
 rw[loopO_inr (r:=.inr ()) (by simp only[slices_Index_int_int_0_step];rw[if_neg (by simp)])]
 rfl
theorem mark_eq (s:List UInt8)(n:Int)(hn:0≤n)(hn':n≤64):gate_Mark s n []=some (markV s n):=by
 unfold gate_Mark markV
 rw[clamp_eq,clamp_id n 0 64 hn hn',zbs,if_pos ⟨hn,by show n≤4294967296;omega⟩]
 have e:=loopO_turn (f:=fun p:Int×List Int=>gate_Mark_0_step s [] n.toNat (n.toNat:Nat) p.1 p.2) (List.replicate n.toNat 0) (fun k=>((markAt s k).toNat:Int)) (fun k pre post x hk hpre hx=> ?_) (fun l'=> ?_)
 rotate_left
 ·rw[List.length_replicate]at hk
  simp only[gate_Mark_0_step]
  rw[if_pos (by omega),if_pos (by omega),Int.toNat_natCast,mod_mid _ _ _ _ _ hpre,zbs,wrM (n:=(k:Int)+1) (by omega) (by omega),contains_nil,mod_mid _ _ _ _ _ hpre]
  by_cases h1:(k:Int)<s.length
  ·have hk':k<s.length:=by omega
   have hg:=zge hk'
   rw[if_pos h1,idx_get hg,zbs]
   by_cases h2:(s[k].toNat:Int)=49
   ·rw[if_pos h2,if_pos (by omega)]
    have:s[k]=49:=UInt8.toNat_inj.1 (by simpa using Int.ofNat_inj.1 h2)
    simp only[markAt,hg,this,if_true];rfl
   ·rw[if_neg h2]
    have: ¬s[k]=49:=fun e=>h2 (by rw[e];rfl)
    simp only[markAt,hg,zsi,this,if_false];rfl
  ·rw[if_neg h1]
   simp only[markAt]
   rw[List.getElem?_eq_none (by omega)]
   rfl
 ·rw[List.length_replicate]
  simp only[gate_Mark_0_step]
  rw[if_neg (by omega)]
 rw[List.length_replicate]at e
 have e':gate_Mark_0 s [] n.toNat ((n.toNat:Nat):Int) 0 (List.replicate n.toNat 0)=some ((List.range n.toNat).map (fun k=>((markAt s k).toNat:Int))):=e
 rw[e',zbs,sub_all _ _ (by simp),zbs]
 congr 1
 unfold bytesOf
 rw[List.map_map]
 apply List.map_congr_left
 intro k _
 simp
def portV (c:GConf)(p:GPort):GPort:=⟨p.Text.take 16,p.Cycle%c.Mod,clampV p.Age 0 c.Fresh⟩
def portsV (c:GConf)(l:List GPort):List GPort:=if(l.length:Int)≠c.N then List.replicate c.N.toNat ⟨[],0,c.Fresh⟩else l.map (portV c)
def holdV (c:GConf)(l:List (List UInt8)):List (List UInt8):=if(l.length:Int)≠c.N*c.D then List.replicate (c.N*c.D).toNat []else l.map (List.take 40)
def noteV (c:GConf)(e:GEntry):List GEntry:=if 0≤e.From∧e.From<c.N then [⟨e.From,e.At%65536⟩]else []
def notesV (c:GConf)(l:List GEntry):List GEntry:=(l.drop (l.length-64)).flatMap (noteV c)
theorem note_len (c:GConf)(e:GEntry):(noteV c e).length≤1:=by unfold noteV;split<;>simp
theorem pl_in (c:GConf)(hp:Pl c):4≤c.N∧c.N≤13∧1≤c.D∧c.D≤4∧2≤c.Mod∧c.Mod≤250∧1≤c.Fresh∧c.Fresh≤100∧4≤c.N*c.D∧c.N*c.D≤52∧1≤c.Period∧c.Period≤400∧1≤c.Table.length∧c.Table.length≤32:=by
 have hl:=lenV_in c hp
 obtain⟨⟨n0,n1,f0,f4,_⟩,⟨d0,d4⟩,⟨p1,p2,_,_,_,_,_,_,_,_,m0,m1,r0,r1⟩,⟨t0,t1,_⟩⟩:=hp
 have h1:c.N*c.D≤13*4:=Int.mul_le_mul n1 d4 (by omega) (by omega)
 have h2:4*1≤c.N*c.D:=Int.mul_le_mul n0 d0 (by omega) (by omega)
 unfold lenV at hl
 have h3:6*(c.F+1)*c.D=2*(3*(c.F+1)*c.D):=by
  rw[show(6:Int)=2*3 by decide,Int.mul_assoc,Int.mul_assoc,Int.mul_assoc]
 refine⟨n0,n1,d0,d4,m0,m1,r0,r1,by omega,by omega,by omega,p2,t0,t1⟩
theorem map_rep {α:Type}(n:Nat)(x:α):(List.range n).map (fun _=>x)=List.replicate n x:=by
 induction n with
 |zero=>rfl
 |succ n ih=>rw[List.range_succ,List.map_append,ih,List.replicate_succ'];rfl
theorem pblank_eq (c:GConf)(hc:CIn c)(hp:Pl c):port_Blank c=some (List.replicate c.N.toNat ⟨[],0,c.Fresh⟩):=by
 have h0:=(plain_zero c).2 hp
 obtain⟨n0,n1,_⟩:=pl_in c hp
 unfold port_Blank
 rw[conf_plain c hc,zbs,h0,if_neg (by decide),if_pos ⟨by omega,by show c.N≤4294967296;omega⟩]
 have e:=loopO_turn (f:=fun p:Int×List GPort=>port_Blank_0_step c c.N.toNat (c.N.toNat:Nat) p.1 p.2) (List.replicate c.N.toNat ⟨[],0,0⟩) (fun k=>⟨[],0,c.Fresh⟩) (fun k pre post x hk hpre hx=> ?_) (fun l'=> ?_)
 rotate_left
 ·rw[List.length_replicate]at hk
  rw[List.getElem?_replicate,if_pos hk]at hx
  cases hx
  simp only[port_Blank_0_step]
  rw[if_pos (by omega),if_pos (by omega),Int.toNat_natCast,mod_mid _ _ _ _ _ hpre,zbs,wrM (n:=(k:Int)+1) (by omega) (by omega)]
 ·rw[List.length_replicate]
  simp only[port_Blank_0_step]
  rw[if_neg (by omega)]
 rw[List.length_replicate,map_rep]at e
 have e':port_Blank_0 c c.N.toNat ((c.N.toNat:Nat):Int) 0 (List.replicate c.N.toNat ⟨[],0,0⟩)=_:=e
 rw[e',zbs,sub_all _ _ (by simp)];rfl
theorem ports_eq (c:GConf)(l:List GPort)(hc:CIn c)(hp:Pl c):mem_each_api_Port l c.N (List.replicate c.N.toNat ⟨[],0,c.Fresh⟩) c=some (portsV c l,c):=by
 obtain⟨n0,n1,_,_,m0,m1,f0,f1,_⟩:=pl_in c hp
 unfold mem_each_api_Port portsV
 split
 ·rfl
 ·rename_i hn
  have hn:(l.length:Int)=c.N:=Classical.not_not.1 hn
  unfold slices_Clone_api_Port_api_Port
  rw[if_pos (by show _≤4294967296;omega),zbs]
  have: ∀m k:Nat,k+m=l.length→loopO (fun s:Int×GConf×(List GPort)=>mem_each_api_Port_0_step l.length l l.length s.1 s.2.1 s.2.2) ((k:Int),c,(l.take k).map (portV c)++l.drop k)=some (c,l.map (portV c)):=by
   intro m
   induction m with
   |zero=>
    intro k hk
    have hk:k=l.length:=by omega
    subst hk
    rw[loopO_inr (r:=(c,(l.take l.length).map (portV c)++l.drop l.length)) (by simp only[mem_each_api_Port_0_step];rw[if_neg (by omega)])]
    simp
   |succ m ih=>
    intro k hk
    have hlt:k<l.length:=by omega
    have hg:=zge hlt
    rw[List.drop_eq_getElem_cons hlt]
    rw[loopO_inl (t:=(((k+1:Nat):Int),c,(l.take (k+1)).map (portV c)++l.drop (k+1))) ?_,ih (k+1) (by omega)]
    simp only[mem_each_api_Port_0_step]
    rw[if_pos (by omega),idx_get hg,zbs]
    unfold mem_lists_1
    rw[cut_eq _ _ (by omega),zbs,mod_eq _ _ (by omega) (by omega),zbs,clamp_eq,zbs,zbs,if_pos (by omega),Int.toNat_natCast,mod_mid _ _ _ _ _ (by simp;omega),zbs,wrM (by omega) (by omega)]
    rw[List.take_add_one,hg,List.map_append]
    simp[portV]
  have e:=this l.length 0 (by omega)
  have e':mem_each_api_Port_0 l.length l l.length 0 c l=some (c,l.map (portV c)):=by
   have e2:=e
   simp only[List.take_zero,List.map_nil,List.nil_append,List.drop_zero]at e2
   exact e2
  rw[e',zbs,sub_all _ _ (by simp)];rfl
theorem hempty_eq (c:GConf)(hc:CIn c)(hp:Pl c):hold_Empty c=some (List.replicate (c.N*c.D).toNat []):=by
 have h0:=(plain_zero c).2 hp
 obtain⟨n0,n1,_,_,m0,m1,f0,f1,a,b,_⟩:=pl_in c hp
 unfold hold_Empty hold_places
 rw[conf_plain c hc,zbs,h0,if_neg (by decide),zbs,wrM (by omega) (by omega),if_pos ⟨by omega,by show _≤(4294967296:Int);omega⟩,sub_all _ _ (by simp)];rfl
theorem hold_eq (c:GConf)(l:List (List UInt8))(hc:CIn c)(hp:Pl c):mem_each_string l (c.N*c.D) (List.replicate (c.N*c.D).toNat [])=some (holdV c l):=by
 obtain⟨n0,n1,_,_,m0,m1,f0,f1,a,b,_⟩:=pl_in c hp
 unfold mem_each_string holdV
 split
 ·rfl
 ·rename_i hn
  have hn:(l.length:Int)=c.N*c.D:=Classical.not_not.1 hn
  unfold slices_Clone_string_string
  rw[if_pos (by show _≤4294967296;omega),zbs]
  have e:=loopO_turn (f:=fun p:Int×List (List UInt8)=>mem_each_string_0_step l.length l l.length p.1 p.2) l (fun k=>(l[k]?.getD []).take 40) (fun k pre post x hk hpre hx=> ?_) (fun l'=> ?_)
  rotate_left
  ·simp only[mem_each_string_0_step]
   rw[if_pos (by omega),idx_get hx,zbs]
   unfold mem_lists_2
   rw[cut_eq _ _ (by omega),zbs,zbs,if_pos (by omega),Int.toNat_natCast,mod_mid _ _ _ _ _ hpre,zbs,wrM (by omega) (by omega),hx]
   rfl
  ·simp only[mem_each_string_0_step]
   rw[if_neg (by omega)]
  have e':mem_each_string_0 l.length l l.length 0 l=_:=e
  rw[e',zbs,sub_all _ _ (by simp),zbs]
  congr 1
  apply List.ext_getElem
  ·simp
  ·intro k h1 h2
   have hk:k<l.length:=by simpa using h2
   simp[zge hk]
theorem notes_eq (c:GConf)(l:List GEntry)(hl:l.length≤4294967296):mem_notes c l=some (notesV c l):=by
 unfold mem_notes notesV
 have hm:max 0 (wr ((l.length:Int)-64))=((l.length-64:Nat):Int):=by rw[wrM (by omega) (by omega)];omega
 rw[hm,Int.toNat_natCast,if_pos (by omega)]
 generalize hd:l.drop (l.length-64)=d
 have hdl:d.length≤64:=by rw[←hd,List.length_drop];omega
 have e:=loopO_growl (f:=fun p:List GEntry×Int=>mem_notes_0_step c d d.length p.1 p.2) d (noteV c) (note_len c) (fun k x out hk hx ho=> ?_) (fun out=> ?_) d.length 0 [] (by omega) (by simp)
 ·unfold mem_notes_0
  rw[show((0:Nat):Int)=0 from rfl]at e
  rw[e,zbs]
  simp
 ·simp only[mem_notes_0_step,noteV]
  rw[if_pos (by omega),idx_get hx,zbs,wrM (n:=(k:Int)+1) (by omega) (by omega)]
  by_cases h1:x.From<0
  ·rw[if_pos h1,if_neg (by omega),List.append_nil]
  ·rw[if_neg h1]
   by_cases h2:c.N≤x.From
   ·rw[if_pos h2,if_neg (by omega),List.append_nil]
   ·rw[if_neg h2,put_eq,zbs,if_pos (by show _≤4294967296;simp only[List.length_cons,List.length_nil];omega),if_pos (by omega)]
 ·simp only[mem_notes_0_step]
  rw[if_neg (by omega)]
def noMem :GMem:=GMem.mk 0 0 0 ([]:List UInt8) 0 ([]:List UInt8) ([]:List UInt8) 0 0 ([]:List UInt8) ([]:List UInt8) ([]:List UInt8) ([]:List UInt8) ([]:List UInt8) ([]:List UInt8) ([]:List GPort) ([]:List (List UInt8)) ([]:List GEntry) (Ar6.mk 0 0 0 0 0 0)
def mendV (c:GConf)(m:GMem):GMem:=
 ⟨m.Clock%65536,m.Anchor%65536,clampV m.Since 0 c.Period,pipeV c m.Pipe,clampV m.Age 0 (lenV c),rowV m.Vec (8+c.N) 53,rowV m.Agreed (8+c.N) 49,m.Number%c.Mod,clampV m.Regular 0 2,
  markV m.Members c.N,markV m.Seen c.N,markV m.Heard c.Table.length,markV m.Sent c.Table.length,m.Out.take 16,m.Line.take 16,portsV c m.Ports,holdV c m.Hold,notesV c m.Log,diagV m.Diag⟩
structure MIn (m:GMem):Prop where
 pipe:m.Pipe.length≤4294967295
 log:m.Log.length≤4294967295
theorem mend_eq (c:GConf)(m:GMem)(hc:CIn c)(hp:Pl c)(hm:MIn m):mem_Mend c m=some (mendV c m):=by
 have h0:=(plain_zero c).2 hp
 have hl:=lenV_in c hp
 obtain⟨n0,n1,d0,d1,m0,m1,f0,f1,a,b,p0,p1,t0,t1⟩:=pl_in c hp
 have h1:=hm.pipe
 unfold mem_Mend
 rw[conf_plain c hc,zbs,h0,if_neg (by decide)]
 unfold mem_numbers
 rw[put_eq,zbs,put_eq,zbs,clamp_eq,zbs,length_eq c hc hp,zbs,clamp_eq,zbs,mod_eq _ _ (by omega) (by omega),zbs,clamp_eq,zbs,diag_eq,zbs,zbs]
 unfold mem_texts
 simp only[]
 rw[blank_eq c hc hp,zbs,if_pos (by rw[List.length_replicate];omega),length_eq c hc hp,zbs,cut_eq _ _ (by omega),zbs,digits_eq _ _ (by show _≤4294967296;rw[List.length_take];omega),zbs,
  bits_eq c hc hp,zbs,row_eq _ _ _ (by omega),zbs,zbs,row_eq _ _ _ (by omega),zbs]
 unfold roster_Mark
 rw[mark_eq _ _ (by omega) (by omega),zbs,zbs,mark_eq _ _ (by omega) (by omega),zbs,zbs,mark_eq _ _ (by omega) (by omega),zbs,mark_eq _ _ (by omega) (by omega),zbs,
  cut_eq _ _ (by omega),zbs,cut_eq _ _ (by omega),zbs,zbs]
 unfold mem_lists
 simp only[]
 rw[pblank_eq c hc hp,zbs,ports_eq c _ hc hp,zbs]
 simp only[]
 rw[hempty_eq c hc hp,zbs,wrM (n:=c.N*c.D) (by omega) (by omega),hold_eq c _ hc hp,zbs,notes_eq c _ (by have:=hm.log;omega),zbs,zbs,pipe_eq]
 rfl
structure LIn (m:GMem):Prop where
 ports:m.Ports.length≤4294967295
 hold:m.Hold.length≤4294967295
 log:m.Log.length≤4294967295
structure Lens (m:GMem):Prop where
 ports:(m.Ports.length:Int)≤9223372036854775807
 hold:(m.Hold.length:Int)≤9223372036854775807
structure Fine (c:GConf)(m:GMem):Prop where
 clock:0≤m.Clock∧m.Clock<65536
 anchor:0≤m.Anchor∧m.Anchor<65536
 since:0≤m.Since∧m.Since≤c.Period
 pipe:(m.Pipe.length:Int)=lenV c∧∀b∈m.Pipe,dg 53 b=b
 age:0≤m.Age∧m.Age≤lenV c
 vec:m.Vec=[]∨(m.Vec.length:Int)=8+c.N∧∀b∈m.Vec,dg 53 b=b
 agreed:m.Agreed=[]∨(m.Agreed.length:Int)=8+c.N∧∀b∈m.Agreed,dg 49 b=b
 number:0≤m.Number∧m.Number<c.Mod
 regular:0≤m.Regular∧m.Regular≤2
 members:(m.Members.length:Int)=c.N∧∀b∈m.Members,b=48∨b=49
 seen:(m.Seen.length:Int)=c.N∧∀b∈m.Seen,b=48∨b=49
 heard:m.Heard.length=c.Table.length∧∀b∈m.Heard,b=48∨b=49
 sent:m.Sent.length=c.Table.length∧∀b∈m.Sent,b=48∨b=49
 out:m.Out.length≤16
 line:m.Line.length≤16
 ports:(m.Ports.length:Int)=c.N∧∀p∈m.Ports,p.Text.length≤16∧(0≤p.Cycle∧p.Cycle<c.Mod)∧0≤p.Age∧p.Age≤c.Fresh
 hold:(m.Hold.length:Int)=c.N*c.D∧∀s∈m.Hold,s.length≤40
 log:m.Log.length≤64∧∀e∈m.Log,(0≤e.From∧e.From<c.N)∧0≤e.At∧e.At<65536
 diag:(0≤m.Diag.a0∧m.Diag.a0≤65535)∧(0≤m.Diag.a1∧m.Diag.a1≤65535)∧(0≤m.Diag.a2∧m.Diag.a2≤65535)∧(0≤m.Diag.a3∧m.Diag.a3≤65535)∧(0≤m.Diag.a4∧m.Diag.a4≤65535)∧(0≤m.Diag.a5∧m.Diag.a5≤65535)
structure Sm (m:GMem):Prop where
 pipe:m.Pipe.length<10000
 ports:m.Ports.length<10000
 hold:m.Hold.length<10000
 log:m.Log.length<10000
theorem Sm.m {m:GMem}(h:Sm m):MIn m:=⟨by have:=h.pipe;omega,by have:=h.log;omega⟩
theorem Sm.l {m:GMem}(h:Sm m):LIn m:=⟨by have:=h.ports;omega,by have:=h.hold;omega,by have:=h.log;omega⟩
theorem GPort.dec {cs:List AV}(h:wfcs [.s,.i .i64,.i .i64] cs): ∃p:GPort,mkE true cs=p.av∧True:=by
 obtain⟨_,_,rfl,h0,h⟩:=wfcs_cons h
 obtain⟨_,_,rfl,h1,h⟩:=wfcs_cons h
 obtain⟨_,_,rfl,h2,h⟩:=wfcs_cons h
 obtain rfl:=wfcs_nil h
 obtain⟨x0,rfl,i0⟩:=wfc_s h0
 obtain⟨x1,rfl,i1⟩:=wfc_i64 h1
 obtain⟨x2,rfl,i2⟩:=wfc_i64 h2
 exact⟨⟨x0,x1,x2⟩,rfl,trivial⟩
theorem GEntry.dec {cs:List AV}(h:wfcs [.i .i64,.i .i64] cs): ∃p:GEntry,mkE true cs=p.av∧True:=by
 obtain⟨_,_,rfl,h0,h⟩:=wfcs_cons h
 obtain⟨_,_,rfl,h1,h⟩:=wfcs_cons h
 obtain rfl:=wfcs_nil h
 obtain⟨x0,rfl,i0⟩:=wfc_i64 h0
 obtain⟨x1,rfl,i1⟩:=wfc_i64 h1
 exact⟨⟨x0,x1⟩,rfl,trivial⟩
theorem GConf.dec {cs:List AV}(h:wfcs [.i .i64,.i .i64,.i .i64,.i .i64,.i .i64,.i .i64,.i .i64,.i .i64,.i .i64,.i .i64,.l [.i .i64] false] cs): ∃c:GConf,mkE true cs=c.av∧CIn c:=by
 obtain⟨_,_,rfl,h0,h⟩:=wfcs_cons h
 obtain⟨_,_,rfl,h1,h⟩:=wfcs_cons h
 obtain⟨_,_,rfl,h2,h⟩:=wfcs_cons h
 obtain⟨_,_,rfl,h3,h⟩:=wfcs_cons h
 obtain⟨_,_,rfl,h4,h⟩:=wfcs_cons h
 obtain⟨_,_,rfl,h5,h⟩:=wfcs_cons h
 obtain⟨_,_,rfl,h6,h⟩:=wfcs_cons h
 obtain⟨_,_,rfl,h7,h⟩:=wfcs_cons h
 obtain⟨_,_,rfl,h8,h⟩:=wfcs_cons h
 obtain⟨_,_,rfl,h9,h⟩:=wfcs_cons h
 obtain⟨_,_,rfl,h10,h⟩:=wfcs_cons h
 obtain rfl:=wfcs_nil h
 obtain⟨x0,rfl,i0⟩:=wfc_i64 h0
 obtain⟨x1,rfl,i1⟩:=wfc_i64 h1
 obtain⟨x2,rfl,i2⟩:=wfc_i64 h2
 obtain⟨x3,rfl,i3⟩:=wfc_i64 h3
 obtain⟨x4,rfl,i4⟩:=wfc_i64 h4
 obtain⟨x5,rfl,i5⟩:=wfc_i64 h5
 obtain⟨x6,rfl,i6⟩:=wfc_i64 h6
 obtain⟨x7,rfl,i7⟩:=wfc_i64 h7
 obtain⟨x8,rfl,i8⟩:=wfc_i64 h8
 obtain⟨x9,rfl,i9⟩:=wfc_i64 h9
 obtain⟨x10,rfl,i10,j10⟩:=wfc_list iav I (fun cs h=>by obtain⟨n,e,hn⟩:=wfc_i64 (wfcs_one h);exact⟨n,e,hn⟩) h10
 exact⟨⟨x0,x1,x2,x3,x4,x5,x6,x7,x8,x9,x10⟩,rfl,⟨i0,i1,i2,i3,i4,i5,by show((x10.length:Nat):Int)≤_;omega,i10⟩⟩
theorem GMem.dec {cs:List AV}(h:wfcs [.i .i64,.i .i64,.i .i64,.s,.i .i64,.s,.s,.i .i64,.i .i64,.s,.s,.s,.s,.s,.s,.l [.s,.i .i64,.i .i64] true,.l [.s] false,.l [.i .i64,.i .i64] true,.i .i64,.i .i64,.i .i64,.i .i64,.i .i64,.i .i64] cs): ∃m:GMem,mkE true cs=m.av∧Lens m:=by
 obtain⟨_,_,rfl,h0,h⟩:=wfcs_cons h
 obtain⟨_,_,rfl,h1,h⟩:=wfcs_cons h
 obtain⟨_,_,rfl,h2,h⟩:=wfcs_cons h
 obtain⟨_,_,rfl,h3,h⟩:=wfcs_cons h
 obtain⟨_,_,rfl,h4,h⟩:=wfcs_cons h
 obtain⟨_,_,rfl,h5,h⟩:=wfcs_cons h
 obtain⟨_,_,rfl,h6,h⟩:=wfcs_cons h
 obtain⟨_,_,rfl,h7,h⟩:=wfcs_cons h
 obtain⟨_,_,rfl,h8,h⟩:=wfcs_cons h
 obtain⟨_,_,rfl,h9,h⟩:=wfcs_cons h
 obtain⟨_,_,rfl,h10,h⟩:=wfcs_cons h
 obtain⟨_,_,rfl,h11,h⟩:=wfcs_cons h
 obtain⟨_,_,rfl,h12,h⟩:=wfcs_cons h
 obtain⟨_,_,rfl,h13,h⟩:=wfcs_cons h
 obtain⟨_,_,rfl,h14,h⟩:=wfcs_cons h
 obtain⟨_,_,rfl,h15,h⟩:=wfcs_cons h
 obtain⟨_,_,rfl,h16,h⟩:=wfcs_cons h
 obtain⟨_,_,rfl,h17,h⟩:=wfcs_cons h
 obtain⟨_,_,rfl,h18,h⟩:=wfcs_cons h
 obtain⟨_,_,rfl,h19,h⟩:=wfcs_cons h
 obtain⟨_,_,rfl,h20,h⟩:=wfcs_cons h
 obtain⟨_,_,rfl,h21,h⟩:=wfcs_cons h
 obtain⟨_,_,rfl,h22,h⟩:=wfcs_cons h
 obtain⟨_,_,rfl,h23,h⟩:=wfcs_cons h
 obtain rfl:=wfcs_nil h
 obtain⟨x0,rfl,i0⟩:=wfc_i64 h0
 obtain⟨x1,rfl,i1⟩:=wfc_i64 h1
 obtain⟨x2,rfl,i2⟩:=wfc_i64 h2
 obtain⟨x3,rfl,i3⟩:=wfc_s h3
 obtain⟨x4,rfl,i4⟩:=wfc_i64 h4
 obtain⟨x5,rfl,i5⟩:=wfc_s h5
 obtain⟨x6,rfl,i6⟩:=wfc_s h6
 obtain⟨x7,rfl,i7⟩:=wfc_i64 h7
 obtain⟨x8,rfl,i8⟩:=wfc_i64 h8
 obtain⟨x9,rfl,i9⟩:=wfc_s h9
 obtain⟨x10,rfl,i10⟩:=wfc_s h10
 obtain⟨x11,rfl,i11⟩:=wfc_s h11
 obtain⟨x12,rfl,i12⟩:=wfc_s h12
 obtain⟨x13,rfl,i13⟩:=wfc_s h13
 obtain⟨x14,rfl,i14⟩:=wfc_s h14
 obtain⟨x15,rfl,i15,j15⟩:=wfc_list GPort.av (fun _=>True) (fun cs h=>GPort.dec h) h15
 obtain⟨x16,rfl,i16,j16⟩:=wfc_list sav (fun _=>True) (fun cs h=>by obtain⟨n,e,hn⟩:=wfc_s (wfcs_one h);exact⟨n,e,trivial⟩) h16
 obtain⟨x17,rfl,i17,j17⟩:=wfc_list GEntry.av (fun _=>True) (fun cs h=>GEntry.dec h) h17
 obtain⟨x18,rfl,i18⟩:=wfc_i64 h18
 obtain⟨x19,rfl,i19⟩:=wfc_i64 h19
 obtain⟨x20,rfl,i20⟩:=wfc_i64 h20
 obtain⟨x21,rfl,i21⟩:=wfc_i64 h21
 obtain⟨x22,rfl,i22⟩:=wfc_i64 h22
 obtain⟨x23,rfl,i23⟩:=wfc_i64 h23
 exact⟨⟨x0,x1,x2,x3,x4,x5,x6,x7,x8,x9,x10,x11,x12,x13,x14,x15,x16,x17,⟨x18,x19,x20,x21,x22,x23⟩⟩,rfl,⟨by show((x15.length:Nat):Int)≤_;omega,by show((x16.length:Nat):Int)≤_;omega⟩⟩
def n1 (z:Int):List UInt8:=[UInt8.ofNat z.toNat]
def n2 (z:Int):List UInt8:=[UInt8.ofNat (z%256).toNat,UInt8.ofNat (z/256).toNat]
def tx (s:List UInt8):List UInt8:=n1 s.length++s
def mb (s:List UInt8):List UInt8:=if s=[]then n1 0 else n1 1++s
def pt (p:GPort):List UInt8:=tx p.Text++(n1 p.Cycle++n1 p.Age)
def en (e:GEntry):List UInt8:=n1 e.From++n2 e.At
theorem ints_len (s:List UInt8):(intsOf s).length=s.length:=by simp[intsOf]
theorem ints_app (a b:List UInt8):intsOf (a++b)=intsOf a++intsOf b:=by simp[intsOf]
theorem bytes_ints (s:List UInt8):bytesOf (intsOf s)=s:=by
 simp only[bytesOf,intsOf,List.map_map]
 refine(List.map_congr_left fun b _=> ?_).trans (List.map_id s)
 simp
theorem w8_mod (n:Int):w8 n=n%256:=by
 unfold w8
 simp only[IntKind.wrap,IntKind.bits,IntKind.signed]
 simp
abbrev B1 (z:Int):Prop:=0≤z∧z<256
abbrev B2 (z:Int):Prop:=0≤z∧z<65536
def dgs (d:Ar6 Int):List Int:=[d.a0,d.a1,d.a2,d.a3,d.a4,d.a5]
structure Fit (m:GMem):Prop where
 clock:B2 m.Clock
 anchor:B2 m.Anchor
 since:B2 m.Since
 age:B1 m.Age
 number:B1 m.Number
 regular:B1 m.Regular
 pipe:m.Pipe.length≤60
 vec:m.Vec.length≤21
 agreed:m.Agreed.length≤21
 members:m.Members.length≤13
 seen:m.Seen.length≤13
 heard:m.Heard.length≤32
 sent:m.Sent.length≤32
 out:m.Out.length≤16
 line:m.Line.length≤16
 ports:m.Ports.length≤13∧∀p∈m.Ports,p.Text.length≤16∧B1 p.Cycle∧B1 p.Age
 hold:m.Hold.length≤52∧∀s∈m.Hold,s.length≤40
 log:m.Log.length≤64∧∀e∈m.Log,B1 e.From∧B2 e.At
 diag: ∀z∈dgs m.Diag,B2 z
def pB (t:List UInt8):Int×List UInt8:=(((t.headD 0).toNat:Int),t.tail)
def pW (t:List UInt8):Int×List UInt8:=((pB t).1+256*(pB t.tail).1,t.tail.tail)
def pR (n:Nat)(t:List UInt8):List UInt8×List UInt8:=((t++List.replicate n 0).take n,t.drop n)
def pM (n:Nat)(t:List UInt8):List UInt8×List UInt8:=if(pB t).1%2=0 then([],t.tail)else pR n t.tail
def pT (b:Int)(t:List UInt8):List UInt8×List UInt8:=pR ((pB t).1%b).toNat t.tail
def pN {α:Type}(p:List UInt8→α×List UInt8):Nat→List UInt8→List α×List UInt8
 |0,t=>([],t)
 |n+1,t=>((p t).1::(pN p n (p t).2).1,(pN p n (p t).2).2)
def pP (t:List UInt8):GPort×List UInt8:=(⟨(pT 17 t).1,(pB (pT 17 t).2).1,(pB (pB (pT 17 t).2).2).1⟩,(pB (pB (pT 17 t).2).2).2)
def pE (n:Int)(t:List UInt8):GEntry×List UInt8:=(⟨(pB t).1%n,(pW t.tail).1⟩,(pW t.tail).2)
theorem pB_in (t:List UInt8):0≤(pB t).1∧(pB t).1<256:=by
 have:=(t.headD 0).toNat_lt
 exact⟨by simp only[pB];omega,by simp only[pB];omega⟩
def Step {α:Type}(s:List UInt8)(p:List UInt8→α×List UInt8)(K a b:Nat):Prop:=s.drop b=(p (s.drop a)).2∧b≤a+K
theorem tail_drop (s:List UInt8)(a:Nat):(s.drop a).tail=s.drop (a+1):=by rw[List.tail_drop]
theorem Step.b {s:List UInt8}{a:Nat}:Step s pB 1 a (a+1):=⟨(tail_drop s a).symm,Nat.le_refl _⟩
theorem Step.w {s:List UInt8}{a:Nat}:Step s pW 2 a (a+2):=⟨by simp only[pW,tail_drop],Nat.le_refl _⟩
theorem Step.r {s:List UInt8}{a n:Nat}:Step s (pR n) n a (a+n):=⟨by simp only[pR,List.drop_drop],Nat.le_refl _⟩
theorem pR_snoc (s:List UInt8)(a k:Nat):(pR (k+1) (s.drop a)).1=(pR k (s.drop a)).1++[(s.drop (a+k)).headD 0]:=by
 simp only[pR]
 have e: ∀(l:List UInt8) (n:Nat),(l++List.replicate n 0).take n=(List.range n).map fun i=>(l[i]?).getD 0:=by
  intro l n
  apply List.ext_getElem
  ·simp
  ·intro i h1 h2
   simp only[List.length_take,List.length_append,List.length_replicate,List.length_map,List.length_range]at h1 h2
   rw[List.getElem_take,List.getElem_map,List.getElem_range]
   by_cases hi:i<l.length
   ·rw[List.getElem_append_left hi,zge hi];rfl
   ·rw[List.getElem_append_right (by omega),List.getElem?_eq_none (by omega)];simp
 rw[e,e,List.range_succ,List.map_append]
 congr 1
 simp only[List.map_cons,List.map_nil,List.getElem?_drop]
 congr 1
 rw[List.headD_eq_head?_getD,List.head?_drop]
theorem pR_len (n:Nat)(t:List UInt8):(pR n t).1.length=n:=by simp[pR]
abbrev Rm (s:List UInt8)(a:Nat)(c:GConf):Gimage_recall:=Gimage_recall.mk (Gimage_reader.mk s (a:Int)) c
abbrev Lim :Nat:=1000000000000
theorem or0 (z:Int)(h:0≤z)(h1:z<256):orI .i64 0 z=z:=by
 show IntKind.wrap .i64 _=z
 rw[show BitVec.ofInt IntKind.i64.bits 0 ||| BitVec.ofInt IntKind.i64.bits z=BitVec.ofInt IntKind.i64.bits z from by simp,BitVec.toNat_ofInt,
  show(z%((2^IntKind.i64.bits:Nat):Int))=z from Int.emod_eq_of_lt h (by show z<((2^64:Nat):Int);omega),wrap64 ⟨by omega,by omega⟩]
 omega
theorem shl0 (z:Int)(h:0≤z)(h1:z<256):shlI .i64 z 0=z:=by
 show IntKind.wrap .i64 _=z
 rw[show z*2^min (0:Int).toNat IntKind.i64.bits=z from by simp,wrap64 ⟨by omega,by omega⟩]
theorem byte_eq (s:List UInt8)(a:Nat)(c:GConf)(hs:s.length≤Lim)(ha:a≤Lim):image_reader_byte (Rm s a c)=some ((pB (s.drop a)).1,Rm s (a+1) c):=by
 have hw:wr ((a:Int)+1)=((a+1:Nat):Int):=by rw[wrM (by omega) (by unfold Lim at ha;omega)];omega
 have hg: ∃r,num_Get s (a:Int) 1=some r∧(if r.2≠0 then(0:Int)else r.1)=(pB (s.drop a)).1:=by
  unfold num_Get num_fits
  rw[if_pos (by decide),zbs,if_neg (by decide),if_neg (by omega)]
  by_cases h1:(s.length:Int)<a
  ·rw[if_pos h1]
   exact⟨_,rfl,by rw[List.drop_eq_nil_of_le (by omega)];rfl⟩
  ·rw[if_neg h1,wrM (by omega) (by unfold Lim at hs;omega)]
   by_cases h2:(s.length:Int)-a<1
   ·rw[if_pos h2]
    exact⟨_,rfl,by rw[List.drop_eq_nil_of_le (by omega)];rfl⟩
   ·rw[if_neg h2]
    have hlt:a<s.length:=by omega
    have hb:=(s[a]).toNat_lt
    have e:num_Get_0 s (a:Int) 1 0 0=some (((s[a]).toNat:Nat):Int):=by
     unfold num_Get_0
     rw[loopO_inl (t:=((((s[a]).toNat:Nat):Int),1)),loopO_inr]
     ·simp only[num_Get_0_step];rw[if_neg (by omega)]
     ·simp only[num_Get_0_step]
      rw[if_pos (by omega),show wr ((a:Int)+0)=(a:Int)from by rw[Int.add_zero];exact wrM (by omega) (by unfold Lim at ha;omega),idx_get (zge hlt),zbs,
       show wr (8*0)=0 from wrM (by decide) (by decide),if_neg (by decide),show wr (0+1)=1 from wrM (by decide) (by decide),wrM (n:=(((s[a]).toNat:Nat):Int)) (by omega) (by omega),
       shl0 _ (by omega) (by omega),or0 _ (by omega) (by omega)]
    rw[e,zbs]
    refine⟨_,rfl,?_⟩
    rw[if_neg (by simp),List.drop_eq_getElem_cons hlt]
    rfl
 obtain⟨r,e1,e2⟩:=hg
 unfold image_reader_byte
 rw[e1,zbs]
 simp only[hw]
 by_cases h:r.2≠0
 ·rw[if_pos h]at e2 ⊢;rw[←e2]
 ·rw[if_neg h]at e2 ⊢;rw[←e2]
theorem word_eq (s:List UInt8)(a:Nat)(c:GConf)(hs:s.length≤Lim)(ha:a+2≤Lim):image_reader_word (Rm s a c)=some ((pW (s.drop a)).1,Rm s (a+2) c):=by
 have h1:=pB_in (s.drop a)
 have h2:=pB_in (s.drop (a+1))
 unfold image_reader_word
 rw[byte_eq s a c hs (by omega),zbs,byte_eq s (a+1) c hs (by omega),zbs]
 simp only
 rw[wrM (n:=256*(pB (s.drop (a+1))).1) (by omega) (by omega),wrM (by omega) (by omega)]
 simp only[pW,tail_drop]
theorem raw_loop (s:List UInt8)(c:GConf)(n a:Nat)(hs:s.length≤Lim)(ha:a+n≤Lim): ∀(j k:Nat),k+j=n→
 loopO (fun x:Int×(List Int)×Gimage_recall=>image_reader_raw_0_step n (n:Int) x.1 x.2.1 x.2.2) ((k:Int),intsOf (pR k (s.drop a)).1++List.replicate j 0,Rm s (a+k) c)
  =some (intsOf (pR n (s.drop a)).1,Rm s (a+n) c)
 |0,k,hk=>by
  have:k=n:=by omega
  subst this
  rw[loopO_inr]
  simp only[image_reader_raw_0_step]
  rw[if_neg (by omega)]
  simp
 |j+1,k,hk=>by
  have h1:=pB_in (s.drop (a+k))
  rw[loopO_inl (t:=(((k+1:Nat):Int),intsOf (pR (k+1) (s.drop a)).1++List.replicate j 0,Rm s (a+(k+1)) c)),raw_loop s c n a hs ha j (k+1) (by omega)]
  simp only[image_reader_raw_0_step]
  rw[if_pos (by omega),byte_eq s (a+k) c hs (by omega),zbs,if_pos (by omega),List.replicate_succ,Int.toNat_natCast,mod_mid _ _ _ _ _ (by rw[ints_len,pR_len]),zbs,
   wrM (n:=(k:Int)+1) (by omega) (by unfold Lim at ha;omega),w8_mod,Int.emod_eq_of_lt h1.1 h1.2,pR_snoc,ints_app,List.append_assoc]
  rfl
theorem rraw_eq (s:List UInt8)(a n:Nat)(c:GConf)(hs:s.length≤Lim)(ha:a+n≤Lim)(hn:n≤4000000000):image_reader_raw (n:Int) (Rm s a c)=some ((pR n (s.drop a)).1,Rm s (a+n) c):=by
 unfold image_reader_raw
 have:=raw_loop s c n a hs ha n 0 (by omega)
 have e:image_reader_raw_0 (Int.toNat (n:Int)) (((Int.toNat (n:Int)):Nat):Int) 0 (List.replicate (Int.toNat (n:Int)) 0) (Rm s a c)=some (intsOf (pR n (s.drop a)).1,Rm s (a+n) c):=by
  rw[Int.toNat_natCast]
  unfold image_reader_raw_0
  simpa [pR,intsOf]using this
 rw[if_pos ⟨by omega,by rw[lenMax_eq];omega⟩,e,zbs,Int.toNat_natCast,sub_all _ _ (by rw[ints_len,pR_len]),zbs,bytes_ints]
theorem rmaybe_eq (s:List UInt8)(a n:Nat)(c:GConf)(hs:s.length≤Lim)(ha:a+1+n≤Lim)(hn:n≤4000000000):
 ∃b,image_reader_maybe (n:Int) (Rm s a c)=some ((pM n (s.drop a)).1,Rm s b c)∧Step s (pM n) (n+1) a b:=by
 unfold image_reader_maybe
 rw[byte_eq s a c hs (by omega),zbs]
 have h1:=pB_in (s.drop a)
 simp only[Step,pM,tail_drop]
 rw[Int.tmod_eq_emod_of_nonneg h1.1]
 by_cases h:(pB (s.drop a)).1%2=0
 ·rw[if_pos h,if_pos h]
  exact⟨a+1,rfl,rfl,by omega⟩
 ·rw[if_neg h,if_neg h,rraw_eq s (a+1) n c hs (by omega) hn,zbs]
  exact⟨a+1+n,rfl,by simp only[pR,List.drop_drop],by omega⟩
theorem rtext_eq (s:List UInt8)(a:Nat)(m:Int)(c:GConf)(hs:s.length≤Lim)(ha:a+300≤Lim)(hm:0≤m∧m≤200):
 ∃b,image_reader_text m (Rm s a c)=some ((pT (m+1) (s.drop a)).1,Rm s b c)∧Step s (pT (m+1)) (m.toNat+1) a b:=by
 have hw:wr (m+1)=m+1:=wrM (by omega) (by omega)
 have h1:=pB_in (s.drop a)
 have h2:=Int.emod_nonneg (pB (s.drop a)).1 (show m+1≠0 by omega)
 have h3:=Int.emod_lt_of_pos (pB (s.drop a)).1 (show 0<m+1 by omega)
 unfold image_reader_text
 rw[byte_eq s a c hs (by omega),zbs,hw,if_neg (by omega)]
 simp only[Step,pT,tail_drop]
 rw[Int.tmod_eq_emod_of_nonneg h1.1]
 obtain⟨k,hk⟩:=Int.eq_ofNat_of_zero_le h2
 rw[hk,Int.toNat_natCast]
 have hk2:(k:Int)<m+1:=by rw[←hk];exact h3
 rw[rraw_eq s (a+1) k c hs (by omega) (by omega),zbs]
 exact⟨a+1+k,rfl,by simp only[pR,List.drop_drop],by omega⟩
theorem loopR {α:Type}{f:Int×Gimage_recall×GMem→Option ((Int×Gimage_recall×GMem)⊕(Gimage_recall×GMem))}(s:List UInt8)(c:GConf)(n K:Nat)(p:List UInt8→α×List UInt8)(put:List α→GMem)
 (h: ∀(k a:Nat) (xs:List α),k<n→xs.length=k→a≤1000000→∃b,f ((k:Int),Rm s a c,put xs)=some (.inl ((k:Int)+1,Rm s b c,put (xs++[(p (s.drop a)).1])))∧Step s p K a b)
 (he: ∀o m,f ((n:Int),o,m)=some (.inr (o,m))): ∀(j k a:Nat) (xs:List α),k+j=n→xs.length=k→a+j*K≤1000000→
 ∃b,loopO f ((k:Int),Rm s a c,put xs)=some (Rm s b c,put (xs++(pN p j (s.drop a)).1))∧Step s (pN p j) (j*K) a b
 |0,k,a,xs,hk,hl,ha=>by
  have:k=n:=by omega
  subst this
  exact⟨a,by rw[loopO_inr (he _ _)];simp[pN],rfl,by omega⟩
 |j+1,k,a,xs,hk,hl,ha=>by
  have e:(j+1)*K=j*K+K:=Nat.succ_mul j K
  obtain⟨b,h1,h2,h3⟩:=h k a xs (by omega) hl (by omega)
  obtain⟨d,h4,h5,h6⟩:=loopR s c n K p put h he j (k+1) b (xs++[(p (s.drop a)).1]) (by omega) (by simp;omega) (by omega)
  refine⟨d,?_,?_,by omega⟩
  ·rw[loopO_inl h1,show((k:Int)+1)=((k+1:Nat):Int) by omega,h4]
   simp only[pN,h2,List.append_assoc,List.singleton_append]
  ·rw[h5,h2];rfl
theorem rports (s:List UInt8)(c:GConf)(m:GMem)(a:Nat)(hs:s.length≤Lim)(ha:a≤100000)(hN:0≤c.N∧c.N≤13)(hm:m.Ports=[]):
 ∃b,image_recall_lists_0 c.N 0 (Rm s a c) m=some (Rm s b c,{m with Ports:=(pN pP c.N.toNat (s.drop a)).1})∧Step s (pN pP c.N.toNat) (c.N.toNat*19) a b:=by
 obtain⟨n,hn⟩:=Int.eq_ofNat_of_zero_le hN.1
 rw[hn,Int.toNat_natCast]
 have hn13:n≤13:=by omega
 unfold image_recall_lists_0
 refine Exists.imp (fun b hb=> ?_) (loopR s c n 19 pP (fun xs=>{m with Ports:=xs}) (f:=fun x=>image_recall_lists_0_step (n:Int) x.1 x.2.1 x.2.2) (fun k a xs hk hl ha=> ?_) (fun o m=> ?_) n 0 a [] (by omega) rfl (by omega))
 ·obtain⟨h1,h2⟩:=hb
  refine⟨?_,h2⟩
  have hm':({m with Ports:=[]}:GMem)=m:=by cases m;simp at hm;subst hm;rfl
  rw[hm']at h1
  exact h1
 ·obtain⟨b,e1,e2,e3⟩:=rtext_eq s a 16 c hs (by unfold Lim;omega) (by omega)
  refine⟨b+1+1,?_,?_,by have:(16:Int).toNat=16:=rfl;omega⟩
  ·simp only[image_recall_lists_0_step]
   rw[if_pos (by omega),e1,zbs,byte_eq s b c hs (by have:(16:Int).toNat=16:=rfl;unfold Lim;omega),zbs,byte_eq s (b+1) c hs (by have:(16:Int).toNat=16:=rfl;unfold Lim;omega),zbs,
    if_pos (by rw[lenMax_eq];simp;omega),wrM (by omega) (by omega)]
   simp only[show(16:Int)+1=17 from rfl]at e2 ⊢
   rw[←tail_drop s b]
   simp only[pP,←e2]
   rfl
  ·simp only[show(16:Int)+1=17 from rfl]at e2
   rw[←tail_drop,←tail_drop,e2];rfl
 ·simp only[image_recall_lists_0_step];rw[if_neg (by omega)]
theorem rhold (s:List UInt8)(c:GConf)(m:GMem)(a:Nat)(q:Int)(hs:s.length≤Lim)(ha:a≤100000)(hq:0≤q∧q≤52)(hm:m.Hold=[]):
 ∃b,image_recall_lists_1 q 0 (Rm s a c) m=some (Rm s b c,{m with Hold:=(pN (pT 41) q.toNat (s.drop a)).1})∧Step s (pN (pT 41) q.toNat) (q.toNat*41) a b:=by
 obtain⟨n,hn⟩:=Int.eq_ofNat_of_zero_le hq.1
 rw[hn,Int.toNat_natCast]
 have hn13:n≤52:=by omega
 unfold image_recall_lists_1
 refine Exists.imp (fun b hb=> ?_) (loopR s c n 41 (pT 41) (fun xs=>{m with Hold:=xs}) (f:=fun x=>image_recall_lists_1_step (n:Int) x.1 x.2.1 x.2.2) (fun k a xs hk hl ha=> ?_) (fun o m=> ?_) n 0 a [] (by omega) rfl (by omega))
 ·obtain⟨h1,h2⟩:=hb
  refine⟨?_,h2⟩
  have hm':({m with Hold:=[]}:GMem)=m:=by cases m;simp at hm;subst hm;rfl
  rw[hm']at h1
  exact h1
 ·obtain⟨b,e1,e2,e3⟩:=rtext_eq s a 40 c hs (by unfold Lim;omega) (by omega)
  refine⟨b,?_,e2,by have:(40:Int).toNat=40:=rfl;omega⟩
  simp only[image_recall_lists_1_step]
  rw[if_pos (by omega),e1,zbs,if_pos (by rw[lenMax_eq];simp;omega),wrM (by omega) (by omega)]
  rfl
 ·simp only[image_recall_lists_1_step];rw[if_neg (by omega)]
theorem rlog (s:List UInt8)(c:GConf)(m:GMem)(a:Nat)(q:Int)(hs:s.length≤Lim)(ha:a≤100000)(hq:0≤q∧q≤64)(hN:4≤c.N∧c.N≤13)(hm:m.Log=[]):
 ∃b,image_recall_lists_2 q 0 (Rm s a c) m=some (Rm s b c,{m with Log:=(pN (pE c.N) q.toNat (s.drop a)).1})∧Step s (pN (pE c.N) q.toNat) (q.toNat*3) a b:=by
 obtain⟨n,hn⟩:=Int.eq_ofNat_of_zero_le hq.1
 rw[hn,Int.toNat_natCast]
 have hn13:n≤64:=by omega
 unfold image_recall_lists_2
 refine Exists.imp (fun b hb=> ?_) (loopR s c n 3 (pE c.N) (fun xs=>{m with Log:=xs}) (f:=fun x=>image_recall_lists_2_step (n:Int) x.1 x.2.1 x.2.2) (fun k a xs hk hl ha=> ?_) (fun o m=> ?_) n 0 a [] (by omega) rfl (by omega))
 ·obtain⟨h1,h2⟩:=hb
  refine⟨?_,h2⟩
  have hm':({m with Log:=[]}:GMem)=m:=by cases m;simp at hm;subst hm;rfl
  rw[hm']at h1
  exact h1
 ·refine⟨a+1+2,?_,?_,by omega⟩
  ·simp only[image_recall_lists_2_step]
   rw[if_pos (by omega),byte_eq s a c hs (by unfold Lim;omega),zbs,if_pos rfl,if_neg (by simp only;omega),word_eq s (a+1) c hs (by unfold Lim;omega),zbs,
    if_pos (by rw[lenMax_eq];simp;omega),wrM (by omega) (by omega),Int.tmod_eq_emod_of_nonneg (pB_in _).1,←tail_drop]
   rfl
  ·rw[Nat.add_assoc,←List.drop_drop]
   simp only[pE,pW,List.drop_drop,tail_drop]
 ·simp only[image_recall_lists_2_step];rw[if_neg (by omega)]
def dset (xs:List Int):Ar6 Int:=⟨xs.getD 0 0,xs.getD 1 0,xs.getD 2 0,xs.getD 3 0,xs.getD 4 0,xs.getD 5 0⟩
theorem dset_set (xs:List Int)(k:Nat)(v:Int)(hk:k<6)(hl:xs.length=k):(dset xs).set? k v=some (dset (xs++[v])):=by
 rcases(by omega:k=0∨k=1∨k=2∨k=3∨k=4∨k=5)with rfl|rfl|rfl|rfl|rfl|rfl
 ·obtain rfl:=List.eq_nil_of_length_eq_zero hl;rfl
 ·obtain⟨x,rfl⟩:=List.length_eq_one_iff.1 hl;rfl
 ·rcases xs with _|⟨x,_|⟨y,_|⟨z,r⟩⟩⟩<;>first|rfl|(simp at hl)
 ·rcases xs with _|⟨x,_|⟨y,_|⟨z,_|⟨w,r⟩⟩⟩⟩<;>first|rfl|(simp at hl)
 ·rcases xs with _|⟨x,_|⟨y,_|⟨z,_|⟨w,_|⟨u,r⟩⟩⟩⟩⟩<;>first|rfl|(simp at hl)
 ·rcases xs with _|⟨x,_|⟨y,_|⟨z,_|⟨w,_|⟨u,_|⟨t,r⟩⟩⟩⟩⟩⟩<;>first|rfl|(simp at hl)
theorem rdiag (s:List UInt8)(c:GConf)(m:GMem)(a:Nat)(hs:s.length≤Lim)(ha:a≤100000)(hm:m.Diag=⟨0,0,0,0,0,0⟩):
 ∃b,image_recall_lists_3 0 (Rm s a c) m=some (Rm s b c,{m with Diag:=dset (pN pW 6 (s.drop a)).1}):=by
 unfold image_recall_lists_3
 refine Exists.imp (fun b hb=> ?_) (loopR s c 6 2 pW (fun xs=>{m with Diag:=dset xs}) (f:=fun x=>image_recall_lists_3_step x.1 x.2.1 x.2.2) (fun k a xs hk hl ha=> ?_) (fun o m=> ?_) 6 0 a [] (by omega) rfl (by omega))
 ·obtain⟨h1,h2⟩:=hb
  have hm':({m with Diag:=dset []}:GMem)=m:=by cases m;simp at hm;subst hm;rfl
  rw[hm']at h1
  exact h1
 ·refine⟨a+2,?_,Step.w⟩
  simp only[image_recall_lists_3_step]
  rw[if_pos (by omega),word_eq s a c hs (by unfold Lim;omega),zbs,if_pos (by omega),Int.toNat_natCast,dset_set xs k _ hk hl,zbs,wrM (by omega) (by omega)]
 ·simp only[image_recall_lists_3_step];rw[if_neg (by omega)]
theorem rrawZ (s:List UInt8)(a:Nat)(z:Int)(c:GConf)(hs:s.length≤Lim)(ha:a≤1000000)(hz:0≤z∧z≤1000):image_reader_raw z (Rm s a c)=some ((pR z.toNat (s.drop a)).1,Rm s (a+z.toNat) c):=by
 obtain⟨n,rfl⟩:=Int.eq_ofNat_of_zero_le hz.1
 rw[rraw_eq s a n c hs (by unfold Lim;omega) (by omega),Int.toNat_natCast]
theorem rmaybeZ (s:List UInt8)(a:Nat)(z:Int)(c:GConf)(hs:s.length≤Lim)(ha:a≤1000000)(hz:0≤z∧z≤1000):
 ∃b,image_reader_maybe z (Rm s a c)=some ((pM z.toNat (s.drop a)).1,Rm s b c)∧Step s (pM z.toNat) (z.toNat+1) a b:=by
 obtain⟨n,rfl⟩:=Int.eq_ofNat_of_zero_le hz.1
 rw[Int.toNat_natCast]
 exact rmaybe_eq s a n c hs (by unfold Lim;omega) (by omega)
def qNums (m:GMem)(t:List UInt8):GMem×List UInt8:=
 let clock:=pW t;let anchor:=pW clock.2;let since:=pW anchor.2;let age:=pB since.2;let number:=pB age.2;let regular:=pB number.2
 (⟨clock.1,anchor.1,since.1,m.Pipe,age.1,m.Vec,m.Agreed,number.1,regular.1,m.Members,m.Seen,m.Heard,m.Sent,m.Out,m.Line,m.Ports,m.Hold,m.Log,m.Diag⟩,regular.2)
def qTexts (c:GConf)(m:GMem)(t:List UInt8):GMem×List UInt8:=
 let pipe:=pR (lenV c).toNat t;let vec:=pM (8+c.N).toNat pipe.2;let agreed:=pM (8+c.N).toNat vec.2;let members:=pR c.N.toNat agreed.2;let seen:=pR c.N.toNat members.2
 let heard:=pR c.Table.length seen.2;let sent:=pR c.Table.length heard.2;let out:=pT 17 sent.2;let line:=pT 17 out.2
 (⟨m.Clock,m.Anchor,m.Since,pipe.1,m.Age,vec.1,agreed.1,m.Number,m.Regular,members.1,seen.1,heard.1,sent.1,out.1,line.1,m.Ports,m.Hold,m.Log,m.Diag⟩,line.2)
def qLists (c:GConf)(m:GMem)(t:List UInt8):GMem:=
 let ports:=pN pP c.N.toNat t;let hold:=pN (pT 41) (c.N*c.D).toNat ports.2;let count:=pB hold.2;let log:=pN (pE c.N) (count.1%65).toNat count.2;let diag:=pN pW 6 log.2
 ⟨m.Clock,m.Anchor,m.Since,m.Pipe,m.Age,m.Vec,m.Agreed,m.Number,m.Regular,m.Members,m.Seen,m.Heard,m.Sent,m.Out,m.Line,ports.1,hold.1,log.1,dset diag.1⟩
def pMem (c:GConf)(t:List UInt8):GMem:=qLists c (qTexts c (qNums noMem t).1 (qNums noMem t).2).1 (qTexts c (qNums noMem t).1 (qNums noMem t).2).2
theorem rnumbers (s:List UInt8)(c:GConf)(m:GMem)(hs:s.length≤Lim):image_recall_numbers (Rm s 0 c) m=some (Rm s 9 c,(qNums m (s.drop 0)).1)∧s.drop 9=(qNums m (s.drop 0)).2:=by
 unfold image_recall_numbers
 rw[word_eq s 0 c hs (by unfold Lim;omega),zbs,word_eq s _ c hs (by unfold Lim;omega),zbs,word_eq s _ c hs (by unfold Lim;omega),zbs,
  byte_eq s _ c hs (by unfold Lim;omega),zbs,byte_eq s _ c hs (by unfold Lim;omega),zbs,byte_eq s _ c hs (by unfold Lim;omega),zbs]
 constructor
 ·simp only[qNums,pW,pB,tail_drop]
 ·simp only[qNums,pW,pB,tail_drop]
theorem rtexts (s:List UInt8)(c:GConf)(m:GMem)(a:Nat)(hs:s.length≤Lim)(hc:CIn c)(hp:Pl c)(ha:a≤100):
 ∃b,image_recall_texts (Rm s a c) m=some (Rm s b c,(qTexts c m (s.drop a)).1)∧s.drop b=(qTexts c m (s.drop a)).2∧b≤1000:=by
 have hl:=lenV_in c hp
 obtain⟨n0,n1',d0,d1,m0,m1,f0,f1,x,y,p0,p1,t0,t1⟩:=pl_in c hp
 have ht:c.Table.length≤32:=hp.2.2.2.2.1
 have l1:(lenV c).toNat≤60:=by omega
 have l2:(8+c.N).toNat≤21:=by omega
 have l3:c.N.toNat≤13:=by omega
 obtain⟨b1,e1,s1,k1⟩:=rmaybeZ s (a+(lenV c).toNat) (8+c.N) c hs (by omega) (by omega)
 obtain⟨b2,e2,s2,k2⟩:=rmaybeZ s b1 (8+c.N) c hs (by omega) (by omega)
 have k16:(16:Int).toNat=16:=rfl
 obtain⟨b3,e3,s3,k3⟩:=rtext_eq s (b2+c.N.toNat+c.N.toNat+c.Table.length+c.Table.length) 16 c hs (by unfold Lim;omega) (by omega)
 obtain⟨b4,e4,s4,k4⟩:=rtext_eq s b3 16 c hs (by unfold Lim;omega) (by omega)
 refine⟨b4,?_,?_,by omega⟩
 ·unfold image_recall_texts
  rw[length_eq c hc hp,zbs,rrawZ s a _ c hs (by omega) (by omega),zbs,bits_eq c hc hp,zbs,e1,zbs,bits_eq c hc hp,zbs,e2,zbs,
   rrawZ s b2 _ c hs (by omega) (by simp only;omega),zbs,rrawZ s _ _ c hs (by simp only;omega) (by simp only;omega),zbs,
   rrawZ s _ _ c hs (by simp only;omega) (by simp only;omega),zbs,rrawZ s _ _ c hs (by simp only[Int.toNat_natCast];omega) (by simp only;omega),zbs]
  simp only[Int.toNat_natCast]
  rw[e3,zbs,e4,zbs]
  simp only[show(16:Int)+1=17 from rfl]at s3 s4 ⊢
  simp only[qTexts,←(Step.r (s:=s)).1,←s1,←s2,←s3,←s4]
 ·simp only[show(16:Int)+1=17 from rfl]at s3 s4 ⊢
  simp only[qTexts,←(Step.r (s:=s)).1,←s1,←s2,←s3,←s4]
theorem rlists (s:List UInt8)(c:GConf)(m:GMem)(a:Nat)(hs:s.length≤Lim)(hp:Pl c)(ha:a≤1000)(h1:m.Ports=[])(h2:m.Hold=[])(h3:m.Log=[])(h4:m.Diag=⟨0,0,0,0,0,0⟩):
 ∃b,image_recall_lists (Rm s a c) m=some (Rm s b c,qLists c m (s.drop a)):=by
 obtain⟨n0,n1',d0,d1,m0,m1,f0,f1,x,y,p0,p1,t0,t1⟩:=pl_in c hp
 have l3:c.N.toNat≤13:=by omega
 have l4:(c.N*c.D).toNat≤52:=by omega
 have w1:c.N.toNat*19≤300:=by omega
 have w2:(c.N*c.D).toNat*41≤3000:=by omega
 obtain⟨b1,e1,s1,k1⟩:=rports s c m a hs (by omega) (by omega) h1
 obtain⟨b2,e2,s2,k2⟩:=rhold s c {m with Ports:=(pN pP c.N.toNat (s.drop a)).1} b1 (c.N*c.D) hs (by omega) (by omega) h2
 have hb:=pB_in (s.drop b2)
 have hq1:=Int.emod_nonneg (pB (s.drop b2)).1 (show(65:Int)≠0 by omega)
 have hq2:=Int.emod_lt_of_pos (pB (s.drop b2)).1 (show(0:Int)<65 by omega)
 obtain⟨b3,e3,s3,k3⟩:=rlog s c {m with Ports:=(pN pP c.N.toNat (s.drop a)).1,Hold:=(pN (pT 41) (c.N*c.D).toNat (s.drop b1)).1} (b2+1) ((pB (s.drop b2)).1%65) hs (by omega) ⟨hq1,by omega⟩ ⟨n0,n1'⟩ h3
 have w3:((pB (s.drop b2)).1%65).toNat*3≤300:=by omega
 obtain⟨b4,e4⟩:=rdiag s c {m with Ports:=(pN pP c.N.toNat (s.drop a)).1,Hold:=(pN (pT 41) (c.N*c.D).toNat (s.drop b1)).1,Log:=(pN (pE c.N) ((pB (s.drop b2)).1%65).toNat (s.drop (b2+1))).1} b3 hs (by omega) h4
 refine⟨b4,?_⟩
 unfold image_recall_lists
 rw[e1,zbs,wrM (by simp only;omega) (by simp only;omega),e2,zbs,byte_eq s b2 c hs (by unfold Lim;omega),zbs,Int.tmod_eq_emod_of_nonneg hb.1,e3,zbs,e4,zbs]
 simp only[qLists,←s1,←s2,←(Step.b (s:=s)).1,←s3]
theorem pN_len {α:Type}(p:List UInt8→α×List UInt8): ∀(n:Nat) (t:List UInt8),(pN p n t).1.length=n
 |0,t=>rfl
 |n+1,t=>by simp only[pN,List.length_cons,pN_len p n]
theorem pMem_sm (c:GConf)(t:List UInt8)(hp:Pl c):Sm (pMem c t):=by
 have hl:=lenV_in c hp
 obtain⟨n0,n1',d0,d1,m0,m1,f0,f1,x,y,p0,p1,t0,t1⟩:=pl_in c hp
 have h2: ∀z:Int,(z%65).toNat<65:=fun z=>by have:=Int.emod_nonneg z (show(65:Int)≠0 by omega);have:=Int.emod_lt_of_pos z (show(0:Int)<65 by omega);omega
 refine⟨?_,?_,?_,?_⟩
 ·show(pR (lenV c).toNat _).1.length<10000;rw[pR_len];omega
 ·show(pN pP c.N.toNat _).1.length<10000;rw[pN_len];omega
 ·show(pN (pT 41) (c.N*c.D).toNat _).1.length<10000;rw[pN_len];omega
 ·show(pN (pE c.N) ((pB (pN (pT 41) (c.N*c.D).toNat (pN pP c.N.toNat (qTexts c (qNums noMem t).1 (qNums noMem t).2).2).2).2).1%65).toNat _).1.length<10000;rw[pN_len];have:=h2 (pB (pN (pT 41) (c.N*c.D).toNat (pN pP c.N.toNat (qTexts c (qNums noMem t).1 (qNums noMem t).2).2).2).2).1;omega
theorem read_eq (c:GConf)(s:List UInt8)(hc:CIn c)(hs:s.length≤1000000000):image_Read c s=some (if plainV c=0 then mendV c (pMem c s)else noMem):=by
 have hs':s.length≤Lim:=by unfold Lim;omega
 unfold image_Read
 rw[conf_plain c hc,zbs]
 by_cases h0:plainV c=0
 ·rw[if_neg (by simpa using h0),if_pos h0]
  have hp:=(plain_zero c).1 h0
  obtain⟨a1,a2⟩:=rnumbers s c noMem hs'
  obtain⟨b,b1,b2,b3⟩:=rtexts s c (qNums noMem (s.drop 0)).1 9 hs' hc hp (by omega)
  obtain⟨d,d1⟩:=rlists s c (qTexts c (qNums noMem (s.drop 0)).1 (s.drop 9)).1 b hs' hp b3 rfl rfl rfl rfl
  have e1:image_recall_numbers (Gimage_recall.mk (Gimage_reader.mk s 0) c) noMem=some (Rm s 9 c,(qNums noMem (s.drop 0)).1):=a1
  have e2:qLists c (qTexts c (qNums noMem (s.drop 0)).1 (s.drop 9)).1 (s.drop b)=pMem c s:=by rw[b2,a2];rfl
  rw[e2]at d1
  show((image_recall_numbers _ noMem).bind _)=_
  rw[e1,zbs,b1,zbs,d1,zbs]
  simp only
  rw[mend_eq c _ hc hp (pMem_sm c s hp).m,zbs]
 ·rw[if_pos (by simpa using h0),if_neg h0];rfl
theorem notb {α:Type}{p:Prop} [Decidable p]{a b:α}:(if(!decide p)=true then a else b)=if p then b else a:=by by_cases h:p<;>simp[h]
theorem nodes_cl (c:GConf):script_nodes c=some (clV c.N):=by
 unfold script_nodes num_Clamp clV
 split
 ·rfl
 ·rw[if_neg (by omega)]
  split<;>rfl
theorem clamp_cl (n:Int):r01_Clamp n 0 13=some (clV n):=by
 unfold r01_Clamp clV
 split
 ·rfl
 ·rw[if_neg (by omega)]
  congr 1
  rw[Int.min_def]
  split<;>split<;>omega
theorem cl_le (n:Int):0≤clV n∧clV n≤13:=by
 unfold clV
 split
 ·omega
 ·split<;>omega
theorem idx_in {α:Type}{l:List α}{i:Int}(h0:0≤i)(h:i<(l.length:Int)): ∃x,idx? l i=some x∧l[i.toNat]? =some x∧x∈l:=by
 have hk:i.toNat<l.length:=by omega
 refine⟨l[i.toNat],?_,zge hk,List.getElem_mem hk⟩
 have:=idx_get (zge hk)
 rw[show((i.toNat:Nat):Int)=i by omega]at this
 exact this
theorem sfaulty_eq {s:GScript}(h:SIn s)(n:Int):script_Faulty s n=some (decide (n∈s.Faulty)):=by
 unfold script_Faulty
 rw[contains_eq _ _ (by have:=h.f;omega)];rfl
theorem rfaulty_eq {s:GScript}(h:SIn s)(n:Int):r33_Faulty s n=some (decide (n∈s.Faulty)):=by
 unfold r33_Faulty
 rw[in_eq _ _ (by have:=h.f;omega)];rfl
def honG (s:GScript)(k:Nat):List Int:=if(k:Int)∈s.Faulty then []else [(k:Int)]
def honV (s:GScript):List Int:=(List.range (clV s.Conf.N).toNat).flatMap (honG s)
theorem hon_len (s:GScript)(k:Nat):((List.range k).flatMap (honG s)).length≤k:=by
 have:=grow_len (honG s) 1 (fun k=>by unfold honG;split<;>simp) k
 omega
theorem honV_len (s:GScript):(honV s).length≤13:=by
 have:=hon_len s (clV s.Conf.N).toNat
 have:=cl_le s.Conf.N
 unfold honV
 omega
theorem honV_in {s:GScript}{n:Int}(h:n∈honV s):IsN s.Conf n∧n∉s.Faulty:=by
 unfold honV at h
 obtain⟨k,hk,h⟩:=List.mem_flatMap.1 h
 unfold honG at h
 have:=List.mem_range.1 hk
 split at h
 ·cases h
 ·rename_i hm
  simp only[List.mem_singleton]at h
  subst h
  exact⟨⟨by omega,by omega⟩,hm⟩
theorem honest_eq {s:GScript}(h:SIn s):script_Honest s=some (honV s):=by
 have hc:=cl_le s.Conf.N
 have L:=loopO_grow (f:=fun p:List Int×Int=>script_Honest_0_step s (clV s.Conf.N) p.1 p.2) (clV s.Conf.N).toNat (honG s) (fun k hk=>by
  simp only[script_Honest_0_step]
  have:=hon_len s k
  rw[if_pos (by omega),sfaulty_eq h,zbs,wrI rfl (by omega),notb,show honG s k=if(k:Int)∈s.Faulty then []else [(k:Int)]from rfl]
  by_cases hm:(k:Int)∈s.Faulty
  ·rw[if_pos hm,if_pos hm,List.append_nil]
  ·rw[if_neg hm,if_neg hm,if_pos (by simp only[List.length_cons,List.length_nil,lenMax];omega)]) (by
  simp only[script_Honest_0_step]
  rw[if_neg (by omega)])
 unfold script_Honest
 rw[nodes_cl,zbs]
 unfold script_Honest_0
 rw[L]
 rfl
theorem rhonest_eq {s:GScript}(h:SIn s):r33_Honest s=some (honV s):=by
 have hc:=cl_le s.Conf.N
 have L:=loopO_grow (f:=fun p:List Int×Int=>r33_Honest_0_step s p.1 p.2) (clV s.Conf.N).toNat (honG s) (fun k hk=>by
  simp only[r33_Honest_0_step]
  have:=hon_len s k
  rw[clamp_cl,zbs,if_pos (by omega),rfaulty_eq h,zbs,wrI rfl (by omega),notb,show honG s k=if(k:Int)∈s.Faulty then []else [(k:Int)]from rfl]
  by_cases hm:(k:Int)∈s.Faulty
  ·rw[if_pos hm,if_pos hm,List.append_nil]
  ·rw[if_neg hm,if_neg hm,if_pos (by simp only[List.length_cons,List.length_nil,lenMax];omega)]) (by
  simp only[r33_Honest_0_step]
  rw[clamp_cl,zbs,if_neg (by omega)])
 unfold r33_Honest r33_Honest_0
 rw[L]
 rfl
noncomputable def unV (s:GScript)(t n:Int):Int:=
 if t<0 then 0 else if(s.Ticks.length:Int)≤t then 0 else if¬IsN s.Conf n then 0 else((idx? s.Ticks t).bind fun z=>if n<(z.Units.length:Int)then idx? z.Units n else some s.Conf.Rate).getD 0
noncomputable def dlV (s:GScript)(t a b:Int):Int:=
 if t<0 then 0 else if(s.Ticks.length:Int)≤t then 0 else if¬IsN s.Conf a then 0 else if¬IsN s.Conf b then 0 else
  ((idx? s.Ticks t).bind fun z=>if a*clV s.Conf.N+b<(z.Delays.length:Int)then idx? z.Delays (a*clV s.Conf.N+b)else some s.Conf.D).getD 0
theorem units_eq (s:GScript)(t n:Int):script_Units s t n=some (unV s t n):=by
 unfold script_Units script_at unV
 by_cases h1:t<0
 ·rw[if_pos h1,if_pos h1];rfl
 rw[if_neg h1,if_neg h1]
 by_cases h2:(s.Ticks.length:Int)≤t
 ·rw[if_pos h2,if_pos h2];rfl
 rw[if_neg h2,if_neg h2]
 obtain⟨z,hz,-,-⟩:=idx_in (l:=s.Ticks) (i:=t) (by omega) (by omega)
 rw[hz]
 simp only[zbs,Bool.not_true,Bool.false_eq_true,if_false,is_eq,notd]
 by_cases h3:IsN s.Conf n
 ·rw[decide_eq_true h3]
  simp only[Bool.not_true,Bool.false_eq_true,if_false,h3,not_true]
  unfold script_listed_int
  by_cases h4:n<(z.Units.length:Int)
  ·obtain⟨u,hu,-,-⟩:=idx_in (l:=z.Units) (i:=n) h3.1 h4
   rw[if_pos h4,if_pos h4,hu];rfl
  ·rw[if_neg h4,if_neg h4];rfl
 ·rw[decide_eq_false h3]
  simp[h3]
theorem runits_eq (s:GScript)(t n:Int):r33_Units s t n=some (unV s t n):=by
 unfold r33_Units unV
 by_cases h1:t<0
 ·rw[if_pos h1,if_pos h1]
 rw[if_neg h1,if_neg h1]
 by_cases h2:(s.Ticks.length:Int)≤t
 ·rw[if_pos h2,if_pos h2]
 rw[if_neg h2,if_neg h2]
 obtain⟨z,hz,-,-⟩:=idx_in (l:=s.Ticks) (i:=t) (by omega) (by omega)
 rw[hz]
 simp only[zbs,node_eq]
 by_cases h3:IsN s.Conf n
 ·rw[decide_eq_true h3]
  simp only[Bool.not_true,Bool.false_eq_true,if_false,h3,not_true]
  by_cases h4:n<(z.Units.length:Int)
  ·obtain⟨u,hu,-,-⟩:=idx_in (l:=z.Units) (i:=n) h3.1 h4
   rw[if_pos h4,if_pos h4,hu];rfl
  ·rw[if_neg h4,if_neg h4];rfl
 ·rw[decide_eq_false h3]
  simp[h3]
theorem place_eq {c:GConf}{a b:Int}(ha:IsN c a)(hb:IsN c b):wr (wr (a*clV c.N)+b)=a*clV c.N+b∧0≤a*clV c.N+b:=by
 have hc:=cl_le c.N
 obtain⟨a0,a1⟩:=ha
 obtain⟨b0,b1⟩:=hb
 have h:=mulB (A:=13) (B:=13) a0 (by omega) hc.1 hc.2
 rw[wrI (n:=a*clV c.N) rfl (by omega),wrI rfl (by omega)]
 exact⟨rfl,by omega⟩
theorem delay_eq (s:GScript)(t a b:Int):script_Delay s t a b=some (dlV s t a b):=by
 unfold script_Delay script_at dlV
 by_cases h1:t<0
 ·rw[if_pos h1,if_pos h1];rfl
 rw[if_neg h1,if_neg h1]
 by_cases h2:(s.Ticks.length:Int)≤t
 ·rw[if_pos h2,if_pos h2];rfl
 rw[if_neg h2,if_neg h2]
 obtain⟨z,hz,-,-⟩:=idx_in (l:=s.Ticks) (i:=t) (by omega) (by omega)
 rw[hz]
 simp only[zbs,Bool.not_true,Bool.false_eq_true,if_false,is_eq]
 by_cases h3:IsN s.Conf a
 ·rw[decide_eq_true h3]
  by_cases h4:IsN s.Conf b
  ·rw[decide_eq_true h4]
   simp only[Bool.not_true,Bool.false_eq_true,if_false,h3,h4,not_true,nodes_cl,zbs]
   obtain⟨e,h0⟩:=place_eq h3 h4
   rw[e]
   unfold script_listed_int
   by_cases h5:a*clV s.Conf.N+b<(z.Delays.length:Int)
   ·obtain⟨u,hu,-,-⟩:=idx_in (l:=z.Delays) h0 h5
    rw[if_pos h5,if_pos h5,hu];rfl
   ·rw[if_neg h5,if_neg h5];rfl
  ·rw[decide_eq_false h4]
   simp[h3,h4]
 ·rw[decide_eq_false h3]
  simp[h3]
theorem rdelay_eq (s:GScript)(t a b:Int):r33_Delay s t a b=some (dlV s t a b):=by
 unfold r33_Delay dlV
 by_cases h1:t<0
 ·rw[if_pos h1,if_pos h1]
 rw[if_neg h1,if_neg h1]
 by_cases h2:(s.Ticks.length:Int)≤t
 ·rw[if_pos h2,if_pos h2]
 rw[if_neg h2,if_neg h2]
 obtain⟨z,hz,-,-⟩:=idx_in (l:=s.Ticks) (i:=t) (by omega) (by omega)
 rw[hz]
 simp only[zbs,node_eq]
 by_cases h3:IsN s.Conf a
 ·rw[decide_eq_true h3]
  by_cases h4:IsN s.Conf b
  ·rw[decide_eq_true h4]
   simp only[Bool.not_true,Bool.false_eq_true,if_false,h3,h4,not_true,clamp_cl,zbs]
   obtain⟨e,h0⟩:=place_eq h3 h4
   rw[e]
   by_cases h5:a*clV s.Conf.N+b<(z.Delays.length:Int)
   ·obtain⟨u,hu,-,-⟩:=idx_in (l:=z.Delays) h0 h5
    rw[if_pos h5,if_pos h5,hu];rfl
   ·rw[if_neg h5,if_neg h5];rfl
  ·rw[decide_eq_false h4]
   simp[h3,h4]
 ·rw[decide_eq_false h3]
  simp[h3]
def Swift (s:GScript)(t a:Int):Prop:= ∀b∈honV s,1≤dlV s t a b∧dlV s t a b≤s.Conf.D
def Steady (s:GScript)(t a:Int):Prop:=wr (s.Conf.Rate-s.Conf.Drift)≤unV s t a∧unV s t a≤wr (s.Conf.Rate+s.Conf.Drift)
noncomputable instance (s :GScript)(t a:Int):Decidable (Swift s t a):=by unfold Swift;infer_instance
noncomputable instance (s :GScript)(t a:Int):Decidable (Steady s t a):=by unfold Steady;infer_instance
def CalmZ (s:GScript)(t:Int)(z:GTick):Prop:=z.Bursts.length=0∧z.Strays.length=0∧∀a∈honV s,Steady s t a∧Swift s t a
noncomputable instance (s :GScript)(t:Int)(z:GTick):Decidable (CalmZ s t z):=by unfold CalmZ;infer_instance
theorem swift_eq (s:GScript)(t a:Int):premise_run_swift (Gpremise_run.mk s) t a (honV s)=some (decide (Swift s t a)):=by
 have hl:=honV_len s
 refine every_eq (fun p=>premise_run_swift_0_step t a (Gpremise_run.mk s) (honV s) ((honV s).length:Int) p) (honV s) (fun b=>1≤dlV s t a b∧dlV s t a b≤s.Conf.D) (fun k x hk hx=> ?_) ?_
 ·simp only[premise_run_swift_0_step]
  rw[if_pos (by omega),idx_get hx,zbs,delay_eq,zbs,wrI rfl (by omega)]
  by_cases h1:dlV s t a x<1
  ·rw[if_pos h1,if_neg (by omega)]
  ·rw[if_neg h1]
   by_cases h2:s.Conf.D<dlV s t a x
   ·rw[if_pos h2,if_neg (by omega)]
   ·rw[if_neg h2,if_pos (by omega)]
 ·simp only[premise_run_swift_0_step];rw[if_neg (by omega)]
theorem steady_eq (s:GScript)(t a:Int):premise_run_steady (Gpremise_run.mk s) t a=some (decide (Steady s t a)):=by
 unfold premise_run_steady
 rw[units_eq,zbs]
 exact dec_and
theorem calm_eq {s:GScript}(h:SIn s){t:Int}{z:GTick}(hz:idx? s.Ticks t=some z):premise_run_calm (Gpremise_run.mk s) t=some (decide (CalmZ s t z)):=by
 have hl:=honV_len s
 unfold premise_run_calm premise_run_quiet
 rw[hz,zbs]
 by_cases h1:z.Bursts.length=0
 ·rw[if_pos (by omega),zbs,zbs]
  by_cases h2:z.Strays.length=0
  ·rw[decide_eq_true (by omega),if_neg (by simp),honest_eq h,zbs]
   rw[show(premise_run_calm_0 t (Gpremise_run.mk s) (honV s) (honV s) ((honV s).length:Int) 0)=loopO (fun p=>premise_run_calm_0_step t (Gpremise_run.mk s) (honV s) (honV s) ((honV s).length:Int) p) 0 from rfl]
   refine(every_eq (fun p=>premise_run_calm_0_step t (Gpremise_run.mk s) (honV s) (honV s) ((honV s).length:Int) p) (honV s) (fun a=>Steady s t a∧Swift s t a) (fun k x hk hx=> ?_) ?_).trans ?_
   ·simp only[premise_run_calm_0_step]
    rw[if_pos (by omega),idx_get hx,zbs,steady_eq,zbs,swift_eq,zbs,wrI rfl (by omega),notb,notb]
    by_cases h3:Steady s t x
    ·by_cases h4:Swift s t x<;>simp[h3,h4]
    ·simp[h3]
   ·simp only[premise_run_calm_0_step];rw[if_neg (by omega)]
   ·congr 1
    exact Bool.eq_iff_iff.2 (by simp only[decide_eq_true_eq];exact⟨fun h=>⟨h1,h2,h⟩,fun h=>h.2.2⟩)
  ·rw[decide_eq_false (by omega),if_pos (by simp),decide_eq_false fun h=>h2 h.2.1]
 ·rw[if_neg (by omega),zbs,if_pos (by simp),decide_eq_false fun h=>h1 h.1]
theorem rcalm0_eq (s:GScript)(t a:Int)(x4:List Int)(x5 x6:Int):r34_Calm_0 t s (honV s) a x4 x5 x6 (honV s) ((honV s).length:Int) s.Conf 0=some (if Swift s t a then .inr ()else .inl false):=by
 have hl:=honV_len s
 refine loopO_alls (f:=fun p=>r34_Calm_0_step t s (honV s) a x4 x5 x6 (honV s) ((honV s).length:Int) s.Conf p) (honV s) (fun b=>1≤dlV s t a b∧dlV s t a b≤s.Conf.D) (fun k x hk hx=> ?_) ?_ |>.trans ?_
 ·simp only[r34_Calm_0_step]
  rw[if_pos (by omega),idx_get hx,zbs,rdelay_eq,zbs,wrI rfl (by omega)]
  by_cases h1:dlV s t a x<1
  ·rw[if_pos h1,if_neg (by omega)]
  ·rw[if_neg h1]
   by_cases h2:s.Conf.D<dlV s t a x
   ·rw[if_pos h2,if_neg (by omega)]
   ·rw[if_neg h2,if_pos (by omega)]
 ·simp only[r34_Calm_0_step];rw[if_neg (by omega)]
 ·congr 1
  by_cases h:Swift s t a
  ·rw[if_pos (show∀b∈honV s,1≤dlV s t a b∧dlV s t a b≤s.Conf.D from h),if_pos h]
  ·rw[if_neg (show¬∀b∈honV s,1≤dlV s t a b∧dlV s t a b≤s.Conf.D from h),if_neg h]
theorem rcalm_eq {s:GScript}(h:SIn s)(hp:plainV s.Conf=0){t:Int}(h0:0≤t)(h9:t<(s.Ticks.length:Int)){z:GTick}(hz:idx? s.Ticks t=some z):r34_Calm s t=some (decide (CalmZ s t z)):=by
 have hl:=honV_len s
 unfold r34_Calm
 rw[if_neg (by omega),if_neg (by omega),r03_plain _ h.conf,zbs,if_neg (by simp[hp]),hz,zbs]
 by_cases h1:z.Bursts.length=0
 ·rw[if_neg (by omega),zbs]
  by_cases h2:z.Strays.length=0
  ·rw[if_neg (by omega),rhonest_eq h,zbs]
   rw[show(r34_Calm_1 t s (honV s) (honV s) ((honV s).length:Int) s.Conf 0)=loopO (fun p=>r34_Calm_1_step t s (honV s) (honV s) ((honV s).length:Int) s.Conf p) 0 from rfl]
   refine(every_eq (fun p=>r34_Calm_1_step t s (honV s) (honV s) ((honV s).length:Int) s.Conf p) (honV s) (fun a=>Steady s t a∧Swift s t a) (fun k x hk hx=> ?_) ?_).trans ?_
   ·simp only[r34_Calm_1_step]
    rw[if_pos (by omega),idx_get hx,zbs,runits_eq,zbs,rcalm0_eq,zbs,wrI (n:=(k:Int)+1) rfl (by omega)]
    by_cases h3:unV s t x<wr (s.Conf.Rate-s.Conf.Drift)
    ·rw[if_pos h3,if_neg (fun hh=>by have:=hh.1.1;omega)]
    ·rw[if_neg h3]
     by_cases h4:wr (s.Conf.Rate+s.Conf.Drift)<unV s t x
     ·rw[if_pos h4,if_neg (fun hh=>by have:=hh.1.2;omega)]
     ·rw[if_neg h4]
      by_cases h5:Swift s t x
      ·rw[if_pos h5,if_pos ⟨⟨by omega,by omega⟩,h5⟩];rfl
      ·rw[if_neg h5,if_neg (fun hh=>h5 hh.2)];rfl
   ·simp only[r34_Calm_1_step];rw[if_neg (by omega)]
   ·congr 1
    exact Bool.eq_iff_iff.2 (by simp only[decide_eq_true_eq];exact⟨fun h=>⟨h1,h2,h⟩,fun h=>h.2.2⟩)
  ·rw[if_pos (by omega),decide_eq_false fun h=>h2 h.2.1]
 ·rw[if_pos (by omega),decide_eq_false fun h=>h1 h.1]
open Classical in
noncomputable def lastN (p:Nat→Prop):Nat→Int
 |0=> -1
 |k+1=>if p k then lastN p k else(k:Int)
def calmN (s:GScript)(k:Nat):Prop:= ∃z,s.Ticks[k]? =some z∧CalmZ s (k:Int) z
noncomputable def lastV (s:GScript):Int:=lastN (calmN s) s.Ticks.length
theorem calmN_iff {s:GScript}{k:Nat}{z:GTick}(hz:s.Ticks[k]? =some z):calmN s k↔CalmZ s (k:Int) z:=
 ⟨fun⟨z',h1,h2⟩=>by rw[hz]at h1;injection h1 with h1;subst h1;exact h2,fun h=>⟨z,hz,h⟩⟩
theorem last_eq {s:GScript}(h:SIn s):premise_run_last (Gpremise_run.mk s)=some (lastV s):=by
 have hT:=h.t
 have key: ∀k:Nat,k≤s.Ticks.length→loopO (fun p=>premise_run_last_0_step (Gpremise_run.mk s) p) ((k:Int)-1)=some (lastN (calmN s) k):=by
  intro k
  induction k with
  |zero=>intro _;exact loopO_inr (by simp only[premise_run_last_0_step];rw[if_neg (by omega)];rfl)
  |succ k ih=>
   intro hk
   have hz:=zge (l:=s.Ticks) (i:=k) (by omega)
   have hc:=calm_eq h (idx_get hz)
   have hi:=calmN_iff hz
   rw[show((k+1:Nat):Int)-1=(k:Int) by omega]
   by_cases hp:calmN s k
   ·rw[loopO_inl (by simp only[premise_run_last_0_step];rw[if_pos (by omega),hc,zbs,if_pos (by simp[hi.1 hp])]),wrI rfl (by omega),ih (by omega)]
    simp only[lastN,if_pos hp]
   ·rw[loopO_inr (by simp only[premise_run_last_0_step];rw[if_pos (by omega),hc,zbs,if_neg (by simp only[decide_eq_true_eq];exact fun hh=>hp (hi.2 hh))])]
    simp only[lastN,if_neg hp]
 unfold premise_run_last
 rw[wrI (m:=(s.Ticks.length:Int)-1) rfl (by omega)]
 have:=key s.Ticks.length (Nat.le_refl _)
 rw[show premise_run_last_0 (Gpremise_run.mk s) ((s.Ticks.length:Int)-1)=some (lastV s)from this]
 rfl
theorem rlast_eq {s:GScript}(h:SIn s)(hp:plainV s.Conf=0):r34_Last_0 s (-1) 0=some (lastV s):=by
 have hT:=h.t
 refine loopO_for (f:=fun p:Int×Int=>r34_Last_0_step s p.1 p.2) (inv:=fun k=>(lastN (calmN s) k,(k:Int))) s.Ticks.length (fun k hk=> ?_) ?_
 ·have hz:=zge (l:=s.Ticks) (i:=k) hk
  have hc:=rcalm_eq h hp (by omega) (by omega) (idx_get hz)
  have hi:=calmN_iff hz
  simp only[r34_Last_0_step]
  rw[if_pos (by omega),hc,zbs,wrI rfl (by omega),notb]
  by_cases hq:calmN s k
  ·rw[if_pos (hi.1 hq)]
   simp only[lastN,if_pos hq];rfl
  ·rw[if_neg fun hh=>hq (hi.2 hh)]
   simp only[lastN,if_neg hq];rfl
 ·simp only[r34_Last_0_step];rw[if_neg (by omega)];rfl
theorem plain_of {s:GScript}(h:scriptV s=0):plainV s.Conf=0:=by
 unfold scriptV at h
 by_cases h1:rightV s.Conf≠0
 ·rw[if_pos h1]at h;exact absurd h h1
 ·unfold rightV at h1
  by_cases h2:plainV s.Conf≠0
  ·rw[if_pos h2]at h1;exact absurd h2 h1
  ·exact Classical.not_not.1 h2
noncomputable def holdsV (s:GScript):Int:=if scriptV s≠0 then scriptV s else if s.Conf.F<(s.Faulty.length:Int)then 7 else 0
theorem holds_eq {s:GScript}(h:SIn s):premise_Holds s=some (holdsV s):=by
 unfold premise_Holds holdsV
 rw[script_right s h,zbs]
 split
 ·rfl
 ·split<;>rfl
theorem rholds_eq {s:GScript}(h:SIn s):r34_Holds s=some (holdsV s):=by
 unfold r34_Holds holdsV
 rw[r33_right s h,zbs]
 split
 ·rfl
 ·split<;>rfl
noncomputable def setC (c:GConf):Int:=wr (wr (1+wr (4*lenV c))+wr (2*c.Period))
noncomputable def allC (c:GConf):Int:=wr (setC c+wr (4*c.Period))
theorem bset_eq {c:GConf}(hc:CIn c)(hp:plainV c=0):bound_Settle c=some (setC c):=by
 unfold bound_Settle bound_of
 rw[conf_plain c hc,zbs,zbs,if_neg (by simp[hp]),length_eq c hc ((plain_zero c).1 hp),zbs]
 rfl
theorem rset_eq {c:GConf}(hc:CIn c)(hp:plainV c=0):r04_Settle c=some (setC c):=by
 unfold r04_Settle
 rw[r03_plain c hc,zbs,if_neg (by simp[hp]),length_eq' c hc ((plain_zero c).1 hp),zbs]
 rfl
theorem ball_eq {c:GConf}(hc:CIn c)(hp:plainV c=0):bound_All c=some (allC c):=by
 unfold bound_All bound_of
 rw[conf_plain c hc,zbs,zbs,if_neg (by simp[hp]),bset_eq hc hp,zbs]
 rfl
theorem rall_eq {c:GConf}(hc:CIn c)(hp:plainV c=0):r04_All c=some (allC c):=by
 unfold r04_All
 rw[r03_plain c hc,zbs,if_neg (by simp[hp]),rset_eq hc hp,zbs]
 rfl
theorem pLast_eq {s:GScript}(h:SIn s)(h0:scriptV s=0):premise_Last s=some (lastV s):=by
 unfold premise_Last
 rw[script_right s h,zbs,if_neg (by simp[h0]),last_eq h];rfl
theorem rLast_eq {s:GScript}(h:SIn s)(h0:scriptV s=0):r34_Last s=some (lastV s):=by
 unfold r34_Last
 rw[r33_right s h,zbs,if_neg (by simp[h0]),rlast_eq h (plain_of h0)];rfl
theorem pSet_eq {s:GScript}(h:SIn s)(h0:scriptV s=0):premise_Settled s=some (wr (lastV s+setC s.Conf)):=by
 unfold premise_Settled
 rw[script_right s h,zbs,if_neg (by simp[h0]),last_eq h,zbs,bset_eq h.conf (plain_of h0)];rfl
theorem pAll_eq {s:GScript}(h:SIn s)(h0:scriptV s=0):premise_All s=some (wr (lastV s+allC s.Conf)):=by
 unfold premise_All
 rw[script_right s h,zbs,if_neg (by simp[h0]),last_eq h,zbs,ball_eq h.conf (plain_of h0)];rfl
theorem rAll_eq {s:GScript}(h:SIn s)(h0:scriptV s=0):r34_All s=some (wr (lastV s+allC s.Conf)):=by
 unfold r34_All
 rw[r33_right s h,zbs,if_neg (by simp[h0]),rLast_eq h h0,zbs,rall_eq h.conf (plain_of h0)];rfl
abbrev Rows :=List (List GReport)
def atV (rows:Rows)(t n:Int):GReport:=
 if t<0 then GReport.mk false false 0 0 [] 0 []else if n<0 then GReport.mk false false 0 0 [] 0 []else((rows[t.toNat]?).bind fun l=>l[n.toNat]?).getD (GReport.mk false false 0 0 [] 0 [])
theorem at_eq (rows:Rows)(t n:Int):trace_At rows t n=some (atV rows t n):=by
 unfold trace_At atV
 by_cases h1:t<0
 ·rw[if_pos h1,if_pos h1]
 rw[if_neg h1,if_neg h1]
 by_cases h2:(rows.length:Int)≤t
 ·have e:rows[t.toNat]? =none:=List.getElem?_eq_none (by omega)
  rw[if_pos h2,e]
  split<;>rfl
 rw[if_neg h2]
 by_cases h3:n<0
 ·rw[if_pos h3,if_pos h3]
 rw[if_neg h3,if_neg h3]
 obtain⟨z,hz,hz2,-⟩:=idx_in (l:=rows) (i:=t) (by omega) (by omega)
 rw[hz,zbs,hz2,zbs]
 by_cases h4:(z.length:Int)≤n
 ·have e:z[n.toNat]? =none:=List.getElem?_eq_none (by omega)
  rw[if_pos h4,zbs,e];rfl
 ·obtain⟨r,hr,hr2,-⟩:=idx_in (l:=z) (i:=n) (by omega) (by omega)
  rw[if_neg h4,zbs,hr,hr2];rfl
theorem rat_eq (rows:Rows)(t n:Int):r36_At rows t n=some (atV rows t n):=by
 unfold r36_At atV
 by_cases h1:t<0
 ·rw[if_pos h1,if_pos h1]
 rw[if_neg h1,if_neg h1]
 by_cases h2:(rows.length:Int)≤t
 ·have e:rows[t.toNat]? =none:=List.getElem?_eq_none (by omega)
  rw[if_pos h2,e]
  split<;>rfl
 rw[if_neg h2]
 by_cases h3:n<0
 ·rw[if_pos h3,if_pos h3]
 rw[if_neg h3,if_neg h3]
 obtain⟨z,hz,hz2,-⟩:=idx_in (l:=rows) (i:=t) (by omega) (by omega)
 rw[hz,zbs,hz2,zbs]
 by_cases h4:(z.length:Int)≤n
 ·have e:z[n.toNat]? =none:=List.getElem?_eq_none (by omega)
  rw[if_pos h4,zbs,e];rfl
 ·obtain⟨r,hr,hr2,-⟩:=idx_in (l:=z) (i:=n) (by omega) (by omega)
  rw[if_neg h4,zbs,hr,hr2];rfl
theorem loopO_at {σ ρ:Type}{f:σ→Option (σ⊕ρ)}{s:σ}{r:ρ}(inv:Nat→σ)(n:Nat)(h0:inv 0=s)(h: ∀k,k<n→f (inv k)=some (.inl (inv (k+1))))(he:f (inv n)=some (.inr r)):loopO f s=some r:=h0▸loopO_for inv n h he
theorem period_le {c:GConf}(hp:plainV c=0):1≤c.Period∧c.Period≤400:=by
 obtain⟨⟨_,_,f0,_,_⟩,⟨d0,_⟩,⟨p0,p1,_⟩,-⟩:=(plain_zero c).1 hp
 have:0≤6*(c.F+1)*c.D:=Int.mul_nonneg (by omega) (by omega)
 omega
def stG (rows:Rows)(n f:Int)(k:Nat):List Int:=if(atV rows (f+(k:Int)) n).Pulse then [f+(k:Int)]else []
def stV (c:GConf)(rows:Rows)(n f:Int):List Int:=(List.range ((rows.length:Int)-c.Period+1-max f 0).toNat).flatMap (stG rows n (max f 0))
theorem st_len (rows:Rows)(n f:Int)(k:Nat):((List.range k).flatMap (stG rows n f)).length≤k:=by
 have:=grow_len (stG rows n f) 1 (fun k=>by unfold stG;split<;>simp) k
 omega
theorem starts_eq {c:GConf}(hc:CIn c)(hp:plainV c=0){rows:Rows}(hr:rows.length≤100000000)(n f:Int)(hf:f≤1000000000):window_Starts c rows n f=some (stV c rows n f):=by
 have p1:=period_le hp
 unfold window_Starts
 rw[conf_plain c hc,zbs,if_neg (by simp[hp])]
 obtain⟨m,hm⟩: ∃m,((rows.length:Int)-c.Period+1-max f 0).toNat=m:=⟨_,rfl⟩
 have hw:wr ((rows.length:Int)-c.Period)=(rows.length:Int)-c.Period:=wrI rfl (by omega)
 have L:loopO (fun p:List Int×Int=>window_Starts_0_step rows n c p.1 p.2) ([],max f 0)=some ((List.range m).flatMap (stG rows n (max f 0))):=by
  refine loopO_at (f:=fun p:List Int×Int=>window_Starts_0_step rows n c p.1 p.2) (inv:=fun k=>((List.range k).flatMap (stG rows n (max f 0)),max f 0+(k:Int))) m (by simp) (fun k hk=> ?_) ?_
  ·have:=st_len rows n (max f 0) k
   simp only[window_Starts_0_step]
   rw[hw,if_pos (by omega),at_eq,zbs,wrI (n:=max f 0+(k:Int)+1) rfl (by omega)]
   rw[List.range_succ,List.flatMap_append,List.flatMap_singleton,show stG rows n (max f 0) k=if(atV rows (max f 0+(k:Int)) n).Pulse then [max f 0+(k:Int)]else []from rfl,
    show max f 0+((k+1:Nat):Int)=max f 0+(k:Int)+1 by omega]
   by_cases hq:(atV rows (max f 0+(k:Int)) n).Pulse=true
   ·rw[if_pos hq,if_pos hq,if_pos (by simp only[List.length_cons,List.length_nil,lenMax];omega)]
   ·rw[if_neg hq,if_neg hq,List.append_nil]
  ·simp only[window_Starts_0_step]
   rw[hw,if_neg (by omega)]
 unfold window_Starts_0
 rw[L,zbs]
 unfold stV
 rw[hm]
theorem flat_cut (g:Nat→List Int)(m:Nat): ∀n,m≤n→(List.range n).flatMap (fun k=>if k<m then g k else [])=(List.range m).flatMap g:=by
 intro n hn
 obtain⟨d,rfl⟩:=Nat.le.dest hn
 induction d with
 |zero=>
  rw[Nat.add_zero,List.flatMap_def,List.flatMap_def]
  congr 1
  exact List.map_congr_left fun k hk=>by rw[if_pos (List.mem_range.1 hk)]
 |succ d ih=>
  rw[←Nat.add_assoc,List.range_succ,List.flatMap_append,ih (by omega),List.flatMap_singleton,if_neg (by omega),List.append_nil]
theorem rstarts_eq {c:GConf}(hc:CIn c)(hp:plainV c=0){rows:Rows}(hr:rows.length≤100000000)(n f:Int)(hf:f≤1000000000):r37_Starts c rows n f=some (stV c rows n f):=by
 have p1:=period_le hp
 unfold r37_Starts
 rw[r03_plain c hc,zbs,if_neg (by simp[hp])]
 obtain⟨m,hm⟩: ∃m,((rows.length:Int)-c.Period+1-max f 0).toNat=m:=⟨_,rfl⟩
 have L:loopO (fun p:List Int×Int=>r37_Starts_0_step rows n c p.1 p.2) ([],max f 0)=some ((List.range ((rows.length:Int)-max f 0).toNat).flatMap (fun k=>if k<m then stG rows n (max f 0) k else [])):=by
  have hl: ∀k,((List.range k).flatMap (fun k=>if k<m then stG rows n (max f 0) k else [])).length≤k:=fun k=>by
   have:=grow_len (fun k=>if k<m then stG rows n (max f 0) k else []) 1 (fun k=>by unfold stG;split<;>(try split)<;>simp) k
   omega
  refine loopO_at (f:=fun p:List Int×Int=>r37_Starts_0_step rows n c p.1 p.2) (inv:=fun k=>((List.range k).flatMap (fun k=>if k<m then stG rows n (max f 0) k else []),max f 0+(k:Int))) ((rows.length:Int)-max f 0).toNat (by simp) (fun k hk=> ?_) ?_
  ·have:=hl k
   simp only[r37_Starts_0_step]
   rw[if_pos (by omega),rat_eq,zbs,wrI (n:=max f 0+(k:Int)+1) rfl (by omega),wrI (n:=max f 0+(k:Int)+c.Period) rfl (by omega)]
   rw[List.range_succ,List.flatMap_append,List.flatMap_singleton,show stG rows n (max f 0) k=if(atV rows (max f 0+(k:Int)) n).Pulse then [max f 0+(k:Int)]else []from rfl,
    show max f 0+((k+1:Nat):Int)=max f 0+(k:Int)+1 by omega]
   by_cases hq:(atV rows (max f 0+(k:Int)) n).Pulse=true
   ·rw[if_pos hq,if_pos hq]
    by_cases hk2:k<m
    ·rw[if_pos hk2,if_pos (by omega),if_pos (by simp only[List.length_cons,List.length_nil,lenMax];omega)]
    ·rw[if_neg hk2,if_neg (by omega),List.append_nil]
   ·rw[if_neg hq,if_neg hq,ite_self,List.append_nil]
  ·simp only[r37_Starts_0_step]
   rw[if_neg (by omega)]
 unfold r37_Starts_0
 rw[L,zbs,flat_cut _ _ _ (by omega)]
 unfold stV
 rw[hm]
end Go.Proofs.YtaoijbibmcgdaaaGreat
set_option linter.unusedSimpArgs false
