/-
  What the rows' arguments are known to be.
-/
import Derived.Test.YtaoijbibmcgdaaaGreatPFe
import Derived.Test.YtaoijbibmcgdaaaGreatDb
set_option linter.unusedVariables false
set_option linter.unusedSimpArgs false
namespace Go.Proofs.YtaoijbibmcgdaaaGreat
open Go.Proofs.PF
def Ay.In (x:Ay):Prop:=I64 x.From∧I64 x.To∧I64 x.Delay∧SL x.Bytes
theorem Ay.dec :Dec [.i .i64,.i .i64,.i .i64,.s] true Ay.av Ay.In:=by
 intro cs h
 obtain⟨x0,_,rfl,p0,h⟩:=Dec.i64.cons h
 obtain⟨x1,_,rfl,p1,h⟩:=Dec.i64.cons h
 obtain⟨x2,_,rfl,p2,h⟩:=Dec.i64.cons h
 obtain⟨x3,_,rfl,p3,h⟩:=Dec.str.cons h
 obtain rfl:=Kd h
 exact⟨⟨x0,x1,x2,x3⟩,rfl,p0,p1,p2,p3⟩
def Ba.In (x:Ba):Prop:=I64 x.Node∧SL x.Image
theorem Ba.dec :Dec [.i .i64,.s] true Ba.av Ba.In:=by
 intro cs h
 obtain⟨x0,_,rfl,p0,h⟩:=Dec.i64.cons h
 obtain⟨x1,_,rfl,p1,h⟩:=Dec.str.cons h
 obtain rfl:=Kd h
 exact⟨⟨x0,x1⟩,rfl,p0,p1⟩
def Bd.In (x:Bd):Prop:=I64 x.Node∧SL x.Text
theorem Bd.dec :Dec [.i .i64,.s] true Bd.av Bd.In:=by
 intro cs h
 obtain⟨x0,_,rfl,p0,h⟩:=Dec.i64.cons h
 obtain⟨x1,_,rfl,p1,h⟩:=Dec.str.cons h
 obtain rfl:=Kd h
 exact⟨⟨x0,x1⟩,rfl,p0,p1⟩
def Am.In (x:Am):Prop:=(SL x.Units∧∀z0∈x.Units,I64 z0)∧(SL x.Delays∧∀z0∈x.Delays,I64 z0)∧(SL x.Sends∧∀z0∈x.Sends,Ay.In z0)∧(SL x.Bursts∧∀z0∈x.Bursts,Ba.In z0)∧(SL x.Strays∧∀z0∈x.Strays,Ay.In z0)∧(SL x.Writes∧∀z0∈x.Writes,Bd.In z0)
theorem Am.dec :Dec [.l [.i .i64] false,.l [.i .i64] false,.l [.i .i64,.i .i64,.i .i64,.s] true,.l [.i .i64,.s] true,.l [.i .i64,.i .i64,.i .i64,.s] true,.l [.i .i64,.s] true] true Am.av Am.In:=by
 intro cs h
 obtain⟨x0,_,rfl,p0,h⟩:=(Dec.list Dec.i64).cons h
 obtain⟨x1,_,rfl,p1,h⟩:=(Dec.list Dec.i64).cons h
 obtain⟨x2,_,rfl,p2,h⟩:=(Dec.list Ay.dec).cons h
 obtain⟨x3,_,rfl,p3,h⟩:=(Dec.list Ba.dec).cons h
 obtain⟨x4,_,rfl,p4,h⟩:=(Dec.list Ay.dec).cons h
 obtain⟨x5,_,rfl,p5,h⟩:=(Dec.list Bd.dec).cons h
 obtain rfl:=Kd h
 exact⟨⟨x0,x1,x2,x3,x4,x5⟩,rfl,p0,p1,p2,p3,p4,p5⟩
def Aa.In (x:Aa):Prop:=I64 x.Conf.N∧I64 x.Conf.F∧I64 x.Conf.D∧I64 x.Conf.Period∧I64 x.Conf.Rate∧I64 x.Conf.Drift∧I64 x.Conf.Offset∧I64 x.Conf.Slot∧I64 x.Conf.Mod∧I64 x.Conf.Fresh∧(SL x.Conf.Table∧∀z0∈x.Conf.Table,I64 z0)∧(SL x.Faulty∧∀z0∈x.Faulty,I64 z0)∧(SL x.Images∧∀z0∈x.Images,SL z0)∧(SL x.Ticks∧∀z0∈x.Ticks,Am.In z0)
theorem Aa.dec :Dec [.i .i64,.i .i64,.i .i64,.i .i64,.i .i64,.i .i64,.i .i64,.i .i64,.i .i64,.i .i64,.l [.i .i64] false,.l [.i .i64] false,.l [.s] false,.l [.l [.i .i64] false,.l [.i .i64] false,.l [.i .i64,.i .i64,.i .i64,.s] true,.l [.i .i64,.s] true,.l [.i .i64,.i .i64,.i .i64,.s] true,.l [.i .i64,.s] true] true] true Aa.av Aa.In:=by
 intro cs h
 obtain⟨x0,_,rfl,p0,h⟩:=Dec.i64.cons h
 obtain⟨x1,_,rfl,p1,h⟩:=Dec.i64.cons h
 obtain⟨x2,_,rfl,p2,h⟩:=Dec.i64.cons h
 obtain⟨x3,_,rfl,p3,h⟩:=Dec.i64.cons h
 obtain⟨x4,_,rfl,p4,h⟩:=Dec.i64.cons h
 obtain⟨x5,_,rfl,p5,h⟩:=Dec.i64.cons h
 obtain⟨x6,_,rfl,p6,h⟩:=Dec.i64.cons h
 obtain⟨x7,_,rfl,p7,h⟩:=Dec.i64.cons h
 obtain⟨x8,_,rfl,p8,h⟩:=Dec.i64.cons h
 obtain⟨x9,_,rfl,p9,h⟩:=Dec.i64.cons h
 obtain⟨x10,_,rfl,p10,h⟩:=(Dec.list Dec.i64).cons h
 obtain⟨x11,_,rfl,p11,h⟩:=(Dec.list Dec.i64).cons h
 obtain⟨x12,_,rfl,p12,h⟩:=(Dec.list Dec.str).cons h
 obtain⟨x13,_,rfl,p13,h⟩:=(Dec.list Am.dec).cons h
 obtain rfl:=Kd h
 exact⟨⟨⟨x0,x1,x2,x3,x4,x5,x6,x7,x8,x9,x10⟩,x11,x12,x13⟩,rfl,p0,p1,p2,p3,p4,p5,p6,p7,p8,p9,p10,p11,p12,p13⟩
def Ag.In (x:Ag):Prop:=I64 x.From∧I64 x.Slot∧I64 x.Cycle∧SL x.Text
theorem Ag.dec :Dec [.i .i64,.i .i64,.i .i64,.s] true Ag.av Ag.In:=by
 intro cs h
 obtain⟨x0,_,rfl,p0,h⟩:=Dec.i64.cons h
 obtain⟨x1,_,rfl,p1,h⟩:=Dec.i64.cons h
 obtain⟨x2,_,rfl,p2,h⟩:=Dec.i64.cons h
 obtain⟨x3,_,rfl,p3,h⟩:=Dec.str.cons h
 obtain rfl:=Kd h
 exact⟨⟨x0,x1,x2,x3⟩,rfl,p0,p1,p2,p3⟩
def Ac.In (x:Ac):Prop:=True∧True∧I64 x.Number∧I64 x.Slot∧SL x.Members∧I64 x.Sent∧(SL x.Got∧∀z0∈x.Got,Ag.In z0)
theorem Ac.dec :Dec [.b,.b,.i .i64,.i .i64,.s,.i .i64,.l [.i .i64,.i .i64,.i .i64,.s] true] true Ac.av Ac.In:=by
 intro cs h
 obtain⟨x0,_,rfl,p0,h⟩:=Dec.bool.cons h
 obtain⟨x1,_,rfl,p1,h⟩:=Dec.bool.cons h
 obtain⟨x2,_,rfl,p2,h⟩:=Dec.i64.cons h
 obtain⟨x3,_,rfl,p3,h⟩:=Dec.i64.cons h
 obtain⟨x4,_,rfl,p4,h⟩:=Dec.str.cons h
 obtain⟨x5,_,rfl,p5,h⟩:=Dec.i64.cons h
 obtain⟨x6,_,rfl,p6,h⟩:=(Dec.list Ag.dec).cons h
 obtain rfl:=Kd h
 exact⟨⟨x0,x1,x2,x3,x4,x5,x6⟩,rfl,p0,p1,p2,p3,p4,p5,p6⟩
end Go.Proofs.YtaoijbibmcgdaaaGreat
namespace Go.Proofs.PF
open Classical in
theorem cP {f:Int→Option (Int⊕(Bool⊕Unit))}(n:Nat)(p:Nat→Prop)
 (h: ∀k:Nat,k<n→f (k:Int)=some (if p k then .inl ((k:Int)+1)else .inr (.inl false))) (he:f (n:Int)=some (.inr (.inr ()))):
 Ai f 0=some (if∀k,k<n→p k then .inr ()else .inl false):=by
 have: ∀m k:Nat,k+m=n→Ai f (k:Int)=some (if∀j,k≤j→j<n→p j then .inr ()else .inl false):=by
  intro m
  induction m with
  |zero=>
   intro k hk
   have:k=n:=by omega
   subst this
   rw[Av he,if_pos (fun j h1 h2=>absurd h1 (by omega))]
  |succ m ih=>
   intro k hk
   have h1:=h k (by omega)
   by_cases hp:p k
   ·rw[if_pos hp]at h1
    rw[A5 h1]
    have:=ih (k+1) (by omega)
    rw[show((k:Int)+1)=((k+1:Nat):Int) by omega,this]
    by_cases ha: ∀j,k+1≤j→j<n→p j
    ·rw[if_pos ha,if_pos]
     intro j h1 h2
     by_cases e:j=k
     ·subst e;exact hp
     ·exact ha j (by omega) h2
    ·rw[if_neg ha,if_neg]
     intro hh
     exact ha fun j h1 h2=>hh j (by omega) h2
   ·rw[if_neg hp]at h1
    rw[Av h1,if_neg]
    intro hh
    exact hp (hh k (Nat.le_refl _) (by omega))
 have:=this n 0 (by omega)
 simpa using this
open Classical in
theorem Yj {β:Type}{f:Int→Option (Int⊕(β⊕Unit))}(n:Nat)(p:Nat→Prop)(b:β)
 (h: ∀k:Nat,k<n→f (k:Int)=some (if p k then .inr (.inl b)else .inl ((k:Int)+1))) (he:f (n:Int)=some (.inr (.inr ()))):
 Ai f 0=some (if∃k,k<n∧p k then .inl b else .inr ()):=by
 have: ∀m k:Nat,k+m=n→Ai f (k:Int)=some (if∃j,k≤j∧j<n∧p j then .inl b else .inr ()):=by
  intro m
  induction m with
  |zero=>
   intro k hk
   have:k=n:=by omega
   subst this
   rw[Av he,if_neg (fun⟨j,h1,h2,_⟩=>absurd h1 (by omega))]
  |succ m ih=>
   intro k hk
   have h1:=h k (by omega)
   by_cases hp:p k
   ·rw[if_pos hp]at h1
    rw[Av h1,if_pos ⟨k,Nat.le_refl _,by omega,hp⟩]
   ·rw[if_neg hp]at h1
    rw[A5 h1]
    have:=ih (k+1) (by omega)
    rw[show((k:Int)+1)=((k+1:Nat):Int) by omega,this]
    by_cases ha: ∃j,k+1≤j∧j<n∧p j
    ·obtain⟨j,h1,h2,h3⟩:=ha
     rw[if_pos ⟨j,h1,h2,h3⟩,if_pos ⟨j,by omega,h2,h3⟩]
    ·rw[if_neg ha,if_neg]
     rintro⟨j,h1,h2,h3⟩
     by_cases e:j=k
     ·subst e;exact hp h3
     ·exact ha ⟨j,by omega,h2,h3⟩
 have:=this n 0 (by omega)
 simpa using this
theorem L9 {α:Type}{f:List α×Int→Option ((List α×Int)⊕List α)}(n:Nat)(g:Nat→List α)
 (h: ∀k:Nat,k<n→f ((List.range k).flatMap g,(k:Int))=some (.inl ((List.range k).flatMap g++g k,(k:Int)+1)))
 (he:f ((List.range n).flatMap g,(n:Int))=some (.inr ((List.range n).flatMap g))):
 Ai f ([],0)=some ((List.range n).flatMap g):=by
 refine Y3 (inv:=fun k=>((List.range k).flatMap g,(k:Int))) n (fun k hk=> ?_) he
 rw[h k hk]
 simp[List.range_succ]
theorem Lm {α:Type}(g:Nat→List α)(m:Nat)(hg: ∀k,(g k).length≤m): ∀k,((List.range k).flatMap g).length≤k*m
 |0=>by simp
 |k+1=>by
  have:=Lm g m hg k
  have:=hg k
  simp only[List.range_succ,List.flatMap_append,List.flatMap_cons,List.flatMap_nil,List.append_nil,List.length_append,Nat.add_mul,Nat.one_mul]
  omega
theorem Ry {α:Type}{f:Int×List α→Option ((Int×List α)⊕List α)}(l:List α)(g:Nat→α)
 (h: ∀(k:Nat) (pre post:List α) (x:α),k<l.length→pre.length=k→l[k]? =some x→f ((k:Int),pre++x::post)=some (.inl ((k:Int)+1,pre++g k::post)))
 (he: ∀l',f ((l.length:Int),l')=some (.inr l')):
 Ai f (0,l)=some ((List.range l.length).map g):=by
 have: ∀m k:Nat,k+m=l.length→Ai f ((k:Int),(List.range k).map g++l.drop k)=some ((List.range l.length).map g):=by
  intro m
  induction m with
  |zero=>
   intro k hk
   have hk:k=l.length:=by omega
   subst hk
   rw[Av (he _)]
   simp
  |succ m ih=>
   intro k hk
   have hlt:k<l.length:=by omega
   rw[List.drop_eq_getElem_cons hlt,A5 (h k _ _ _ hlt (by simp) (zge hlt))]
   have:=ih (k+1) (by omega)
   rw[List.range_succ,List.map_append]at this
   simpa using this
 have:=this l.length 0 (by omega)
 simpa using this
theorem O6 {α:Type}(pre post:List α)(x:α)(k:Nat)(u:α→α)(hk:pre.length=k):mod? (pre++x::post) k u=some (pre++u x::post):=by
 subst hk
 rw[Ud _ _ _ (by simp)]
 simp
theorem Ak {α:Type}{l:List α}{k:Nat}{x:α}(h:l[k]? =some x):idx? l (k:Int)=some x:=by
 obtain⟨hk,e⟩:=List.getElem?_eq_some_iff.1 h
 rw[Ao6 _ _ hk,e]
open Classical in
theorem Dz {α:Type}{f:Int→Option (Int⊕(Bool⊕Unit))}(l:List α)(p:α→Prop)
 (h: ∀(k:Nat) (x:α),k<l.length→l[k]? =some x→f (k:Int)=some (if p x then .inl ((k:Int)+1)else .inr (.inl false)))
 (he:f (l.length:Int)=some (.inr (.inr ()))):Ai f 0=some (if∀x∈l,p x then .inr ()else .inl false):=by
 rw[cP l.length (fun k=> ∀x,l[k]? =some x→p x) (fun k hk=> ?_) he]
 ·have:(∀k,k<l.length→∀x,l[k]? =some x→p x)↔∀x∈l,p x:=by
   constructor
   ·intro h x hx
    obtain⟨k,hk,e⟩:=List.getElem_of_mem hx
    exact h k hk x (List.getElem?_eq_some_iff.2 ⟨hk,e⟩)
   ·intro h k hk x hx
    exact h x (List.mem_of_getElem? hx)
  by_cases hp: ∀x∈l,p x
  ·rw[if_pos hp,if_pos (this.2 hp)]
  ·rw[if_neg hp,if_neg fun hh=>hp (this.1 hh)]
 ·have e:=zge hk
  rw[h k _ hk e]
  by_cases hp:p l[k]
  ·rw[if_pos hp,if_pos (fun x hx=>by rw[e]at hx;cases hx;exact hp)]
  ·rw[if_neg hp,if_neg (fun hh=>hp (hh _ e))]
open Classical in
theorem Dt {α β:Type}{f:Int→Option (Int⊕(β⊕Unit))}(l:List α)(p:α→Prop)(b:β)
 (h: ∀(k:Nat) (x:α),k<l.length→l[k]? =some x→f (k:Int)=some (if p x then .inr (.inl b)else .inl ((k:Int)+1)))
 (he:f (l.length:Int)=some (.inr (.inr ()))):Ai f 0=some (if∃x∈l,p x then .inl b else .inr ()):=by
 rw[Yj l.length (fun k=> ∃x,l[k]? =some x∧p x) b (fun k hk=> ?_) he]
 ·have:(∃k,k<l.length∧∃x,l[k]? =some x∧p x)↔∃x∈l,p x:=by
   constructor
   ·rintro⟨k,hk,x,hx,hp⟩
    exact⟨x,List.mem_of_getElem? hx,hp⟩
   ·rintro⟨x,hx,hp⟩
    obtain⟨k,hk,e⟩:=List.getElem_of_mem hx
    exact⟨k,hk,x,List.getElem?_eq_some_iff.2 ⟨hk,e⟩,hp⟩
  by_cases hp: ∃x∈l,p x
  ·rw[if_pos hp,if_pos (this.2 hp)]
  ·rw[if_neg hp,if_neg fun hh=>hp (this.1 hh)]
 ·have e:=zge hk
  rw[h k _ hk e]
  by_cases hp:p l[k]
  ·rw[if_pos hp,if_pos ⟨_,e,hp⟩]
  ·rw[if_neg hp,if_neg]
   rintro⟨x,hx,hh⟩
   rw[e]at hx;cases hx;exact hp hh
theorem Py {α β:Type}{f:List β×Int→Option ((List β×Int)⊕List β)}(l:List α)(g:α→List β)(hg: ∀x,(g x).length≤1)
 (h: ∀(k:Nat) (x:α) (out:List β),k<l.length→l[k]? =some x→out.length≤k→f (out,(k:Int))=some (.inl (out++g x,(k:Int)+1)))
 (he: ∀out,f (out,(l.length:Int))=some (.inr out)):
 ∀(m k:Nat) (out:List β),k+m=l.length→out.length≤k→Ai f (out,(k:Int))=some (out++(l.drop k).flatMap g)
 |0,k,out,hk,ho=>by
  have hk:k=l.length:=by omega
  subst hk
  rw[Av (he _)];simp
 |m+1,k,out,hk,ho=>by
  have hlt:k<l.length:=by omega
  rw[A5 (h k _ _ hlt (zge hlt) ho),List.drop_eq_getElem_cons hlt,List.flatMap_cons]
  have:=Py l g hg h he m (k+1) (out++g l[k]) (by omega) (by have:=hg l[k];simp only[List.length_append];omega)
  rw[show((k:Int)+1)=((k+1:Nat):Int) by omega,this,List.append_assoc]
end Go.Proofs.PF
namespace Go.Proofs.YtaoijbibmcgdaaaGreat
noncomputable section
open Go.Proofs.PF
def I (n:Int):Prop:= -9223372036854775808≤n∧n≤9223372036854775807
structure CIn (c:Ab):Prop where
 n:I c.N
 f:I c.F
 d:I c.D
 period:I c.Period
 rate:I c.Rate
 drift:I c.Drift
 table:(c.Table.length:Int)≤9223372036854775807
 own: ∀x∈c.Table,I x
def Nodes (c:Ab):Prop:=4≤c.N∧c.N≤13∧0≤c.F∧c.F≤4∧3*c.F<c.N
instance (c :Ab):Decidable (Nodes c):=by unfold Nodes;infer_instance
def Links (c:Ab):Prop:=1≤c.D∧c.D≤4
instance (c :Ab):Decidable (Links c):=by unfold Links;infer_instance
def Nums (c:Ab):Prop:=6*(c.F+1)*c.D+1≤c.Period∧c.Period≤400∧1≤c.Rate∧c.Rate≤64∧0≤c.Drift∧c.Drift≤c.Rate-1∧0≤c.Offset∧c.Offset≤30000∧1≤c.Slot∧c.Slot≤30000∧2≤c.Mod∧c.Mod≤250∧1≤c.Fresh∧c.Fresh≤100
instance (c :Ab):Decidable (Nums c):=by unfold Nums;infer_instance
def Owned (c:Ab):Prop:=1≤c.Table.length∧c.Table.length≤32∧(∀x∈c.Table,0≤x∧x<c.N)∧∀k:Nat,(k:Int)<c.N→(k:Int)∈c.Table
open Classical in
def Bh (c:Ab):Int:=if¬Nodes c then 7 else if¬Links c then 10 else if¬Nums c then 8 else if¬Owned c then 11 else 0
theorem qB (s:Ao)(n:Int):Ed s n=some (decide (s.f_low≤n∧n≤s.f_high)):=by
 unfold Ed
 split<;>simp[*]
theorem mC (n a b:Int):C4 n a b=some (decide (a≤n∧n≤b)):=by
 unfold C4
 split<;>simp[*]
theorem K8 {b:Bool}{p:Prop} [Decidable p](h:b=true↔p):some b=some (decide p):=by
 by_cases hp:p
 ·rw[h.2 hp,decide_eq_true hp]
 ·rw[decide_eq_false hp]
  cases b
  ·rfl
  ·exact absurd (h.1 rfl) hp
theorem Ajb (c:Ab):Rp c=some (decide (Nodes c)):=by
 unfold Rp
 simp only[qB,zbs,decide_eq_true_eq]
 split
 ·rename_i h1
  split
  ·rename_i h2
   rw[Agr (show-9223372036854775808≤3*c.F∧3*c.F≤9223372036854775807 by omega)]
   refine K8 ?_
   simp only[decide_eq_true_eq]
   unfold Nodes;omega
  ·rename_i h2
   refine K8 ?_
   unfold Nodes;simp;omega
 ·rename_i h1
  refine K8 ?_
  unfold Nodes;simp;omega
theorem wrM {n:Int}(h: -9223372036854775808≤n)(h':n≤9223372036854775807):wr n=n:=Agr ⟨h,h'⟩
theorem Ahd (c:Ab)(hn:Nodes c)(hl:Links c):wr (wr (wr (6*wr (c.F+1))*c.D)+1)=6*(c.F+1)*c.D+1:=by
 obtain⟨_,_,f0,f4,_⟩:=hn
 obtain⟨d0,d4⟩:=hl
 rw[wrM (n:=c.F+1) (by omega) (by omega),wrM (n:=6*(c.F+1)) (by omega) (by omega)]
 have h1:6*(c.F+1)*c.D≤30*4:=Int.mul_le_mul (by omega) d4 (by omega) (by omega)
 have h2:0≤6*(c.F+1)*c.D:=Int.mul_nonneg (by omega) (by omega)
 rw[wrM (n:=6*(c.F+1)*c.D) (by omega) (by omega),wrM (by omega) (by omega)]
theorem xR (c:Ab)(hc:CIn c)(hn:Nodes c)(hl:Links c):Nd c=some (decide (Nums c)):=by
 unfold Nd
 simp only[Ahd c hn hl]
 have hr:1≤c.Rate∧c.Rate≤64∨¬(1≤c.Rate∧c.Rate≤64):=by omega
 have hw:wr (c.Rate-1)=c.Rate-1∨¬(1≤c.Rate∧c.Rate≤64):=by
  rcases hr with h|h
  ·exact .inl (wrM (by omega) (by omega))
  ·exact .inr h
 generalize wr (c.Rate-1)=w at hw
 have hiff:(∀z∈[Aw.mk c.Period ⟨6*(c.F+1)*c.D+1,400⟩,⟨c.Rate,⟨1,64⟩⟩,⟨c.Drift,⟨0,w⟩⟩,⟨c.Offset,⟨0,30000⟩⟩,⟨c.Slot,⟨1,30000⟩⟩,⟨c.Mod,⟨2,250⟩⟩,⟨c.Fresh,⟨1,100⟩⟩],z.f_span.f_low≤z.f_n∧z.f_n≤z.f_span.f_high)↔Nums c:=by
  simp only[List.mem_cons,List.not_mem_nil,or_false,forall_eq_or_imp,forall_eq,Nums]
  omega
 have hlen:[Aw.mk c.Period ⟨6*(c.F+1)*c.D+1,400⟩,⟨c.Rate,⟨1,64⟩⟩,⟨c.Drift,⟨0,w⟩⟩,⟨c.Offset,⟨0,30000⟩⟩,⟨c.Slot,⟨1,30000⟩⟩,⟨c.Mod,⟨2,250⟩⟩,⟨c.Fresh,⟨1,100⟩⟩].length=7:=rfl
 generalize [Aw.mk c.Period ⟨6*(c.F+1)*c.D+1,400⟩,⟨c.Rate,⟨1,64⟩⟩,⟨c.Drift,⟨0,w⟩⟩,⟨c.Offset,⟨0,30000⟩⟩,⟨c.Slot,⟨1,30000⟩⟩,⟨c.Mod,⟨2,250⟩⟩,⟨c.Fresh,⟨1,100⟩⟩]=l at hiff hlen
 unfold M6
 rw[Dz (f:=fun s:Int=>E3 l l.length s) l (fun z=>z.f_span.f_low≤z.f_n∧z.f_n≤z.f_span.f_high)
  (fun k z hk hz=>by
    unfold E3
    rw[if_pos (by omega),Ak hz,zbs,qB,zbs,wrM (by omega) (by omega)]
    by_cases h:z.f_span.f_low≤z.f_n∧z.f_n≤z.f_span.f_high
    ·rw[decide_eq_true h,if_neg (by decide),if_pos h]
    ·rw[decide_eq_false h,if_pos (by decide),if_neg h])
  (by unfold E3;rw[if_neg (by omega)]),zbs]
 by_cases h:Nums c
 ·rw[if_pos (hiff.2 h)];simp[h]
 ·rw[if_neg (fun hh=>h (hiff.1 hh))];simp[h]
def sK (x:Gl Int)(k:Nat):Int:=(x.get? k).getD 0
theorem Aq8 {k:Nat}(h:k<13):k=0∨k=1∨k=2∨k=3∨k=4∨k=5∨k=6∨k=7∨k=8∨k=9∨k=10∨k=11∨k=12:=by omega
theorem Atw (x:Gl Int)(k:Nat)(h:k<13):x.get? k=some (sK x k):=by
 rcases Aq8 h with e|e|e|e|e|e|e|e|e|e|e|e|e<;>subst e<;>rfl
theorem Avr (x:Gl Int)(k:Nat)(v:Int)(h:k<13): ∃y,x.set? k v=some y∧∀j,j<13→sK y j=if j=k then v else sK x j:=by
 rcases Aq8 h with e|e|e|e|e|e|e|e|e|e|e|e|e<;>subst e<;>
  exact⟨_,rfl,fun j hj=>by rcases Aq8 hj with e|e|e|e|e|e|e|e|e|e|e|e|e<;>subst e<;>rfl⟩
theorem Arx (x:Gl Int):Gl.mk x.a0 x.a1 x.a2 x.a3 x.a4 x.a5 x.a6 x.a7 x.a8 x.a9 x.a10 x.a11 x.a12=x:=rfl
theorem Aj4 (c:Ab)(sl:Ao)(hn:c.N≤13)(ht:c.Table.length≤32): ∀(m k:Nat) (o:Gl Int),k+m=c.Table.length→
 (∀j,j<13→sK o j=((c.Table.take k).countP (fun x=>x==(j:Int)):Nat))→
 ∃r,Ai (fun s:Int×(Gl Int)=>C6 c c.Table c.Table.length sl s.1 s.2) ((k:Int),o)=some r∧
  ((∃x∈c.Table.drop k,¬(0≤x∧x<c.N))→∃o',r= .inl (false,o'))∧
  ((∀x∈c.Table.drop k,0≤x∧x<c.N)→∃o',r= .inr o'∧∀j,j<13→sK o' j=(c.Table.countP (fun x=>x==(j:Int)):Nat))
 |0,k,o,hk,ho=>by
  have hk:k=c.Table.length:=by omega
  subst hk
  refine⟨.inr o,Av ?_,fun h=> ?_,fun _=>⟨o,rfl,fun j hj=> ?_⟩⟩
  ·simp only[C6];rw[if_neg (by omega)]
  ·simp at h
  ·rw[ho j hj,List.take_length]
 |m+1,k,o,hk,ho=>by
  have hlt:k<c.Table.length:=by omega
  have hg:=zge hlt
  have hd:=List.drop_eq_getElem_cons hlt
  generalize hx:c.Table[k]=x at hg hd
  have hstep:C6 c c.Table c.Table.length sl (k:Int) o=if x<0 then some (.inr (.inl (false,o)))else if c.N≤x then some (.inr (.inl (false,o)))else
   if 0≤x∧x<(13:Nat)then(Gl.get? o (Int.toNat x)).bind fun z2=>if 0≤x∧x<(13:Nat)then(Gl.set? o (Int.toNat x) (wr (z2+1))).bind fun y0=>some (.inl ((wr ((k:Int)+1)),y0))else none else none:=by
   unfold C6
   rw[if_pos (by omega),Ak hg,zbs,Arx]
  by_cases hok:0≤x∧x<c.N
  ·rw[if_neg (by omega),if_neg (by omega),if_pos (by omega),Atw _ _ (by omega),zbs,if_pos (by omega),wrM (n:=(k:Int)+1) (by omega) (by omega)]at hstep
   have hw:wr (sK o x.toNat+1)=sK o x.toNat+1:=by
    rw[ho _ (by omega)]
    have:=List.countP_le_length (p:=fun y=>y==((x.toNat:Nat):Int)) (l:=c.Table.take k)
    simp only[List.length_take]at this
    exact wrM (by omega) (by omega)
   rw[hw]at hstep
   obtain⟨y,hy,hyj⟩:=Avr o x.toNat (sK o x.toNat+1) (by omega)
   rw[hy,zbs]at hstep
   have ih:=Aj4 c sl hn ht m (k+1) y (by omega) (fun j hj=>by
    rw[hyj j hj,List.take_add_one,hg,List.countP_append,ho j hj]
    have hx':((x.toNat:Nat):Int)=x:=Int.toNat_of_nonneg hok.1
    by_cases e:j=x.toNat
    ·subst e
     rw[if_pos rfl,ho _ hj]
     simp[hx']
    ·rw[if_neg e]
     have: ¬x=(j:Int):=by omega
     simp[this])
   rw[A5 (t:=(((k+1:Nat):Int),y)) (by simpa using hstep)]
   obtain⟨r,h1,h2,h3⟩:=ih
   refine⟨r,h1,fun⟨z,hz,hzz⟩=>h2 ⟨z,?_,hzz⟩,fun h=>h3 fun z hz=>h z ?_⟩
   ·rw[hd]at hz
    rcases List.mem_cons.1 hz with e|e
    ·subst e;exact absurd hok hzz
    ·exact e
   ·rw[hd];exact List.mem_cons_of_mem _ hz
  ·refine⟨.inl (false,o),Av ?_,fun _=>⟨o,rfl⟩,fun h=>absurd (h x (by rw[hd];simp)) hok⟩
   show C6 c c.Table c.Table.length sl (k:Int) o=_
   rw[hstep]
   by_cases h0:x<0
   ·rw[if_pos h0]
   ·rw[if_neg h0,if_pos (by omega)]
theorem Akz (c:Ab)(hn:Nodes c):Sb c=some (@decide (Owned c) (Classical.propDecidable _)):=by
 classical
 have hb:(Classical.propDecidable (Owned c))=(Classical.propDecidable (Owned c)):=rfl
 unfold Sb
 rw[qB,zbs]
 by_cases hl:(1:Int)≤c.Table.length∧(c.Table.length:Int)≤32
 ·rw[decide_eq_true (show _ from hl),if_neg (by decide)]
  have h13:c.N≤13:=hn.2.1
  have h4:4≤c.N:=hn.1
  obtain⟨r,h1,h2,h3⟩:=Aj4 c ⟨1,32⟩ h13 (by omega) c.Table.length 0 (Gl.mk 0 0 0 0 0 0 0 0 0 0 0 0 0) (by omega) (fun j hj=>by
   rcases Aq8 hj with e|e|e|e|e|e|e|e|e|e|e|e|e<;>subst e<;>rfl)
  have e0:V5 c c.Table (c.Table.length:Int) ⟨1,32⟩ 0 (Gl.mk 0 0 0 0 0 0 0 0 0 0 0 0 0)=some r:=h1
  rw[e0,zbs]
  by_cases ha: ∀x∈c.Table,0≤x∧x<c.N
  ·obtain⟨o,ho,hj⟩:=h3 (by simpa using ha)
   subst ho
   simp only[Sum.elim_inr]
   rw[if_pos (by omega)]
   have e1:=cP (f:=fun s=>Er (c.N.toNat-0) ((c.N.toNat-0:Nat):Int) o ⟨1,32⟩ s) c.N.toNat (fun k=>(k:Int)∈c.Table) (fun k hk=> ?_) ?_
   rotate_left
   ·simp only[Er]
    rw[if_pos (by omega),if_pos (by omega),Arx,Int.toNat_natCast,Atw _ _ (by omega),zbs,wrM (by omega) (by omega),hj k (by omega)]
    have:(((c.Table.countP (fun x=>x==(k:Int)):Nat):Int)=0)↔¬(k:Int)∈c.Table:=by
     rw[←List.count_eq_countP,Int.natCast_eq_zero,List.count_eq_zero]
    by_cases hm:(k:Int)∈c.Table
    ·rw[if_neg (fun h=>this.1 h hm),if_pos hm]
    ·rw[if_pos (this.2 hm),if_neg hm]
   ·simp only[Er]
    rw[if_neg (by omega)]
   unfold Vm
   rw[e1,zbs]
   by_cases hk: ∀k,k<c.N.toNat→(k:Int)∈c.Table
   ·rw[if_pos hk]
    refine K8 ⟨fun _=>⟨by omega,by omega,ha,fun k h=>hk k (by omega)⟩,fun _=>rfl⟩
   ·rw[if_neg hk]
    refine K8 ⟨fun h=>Bool.noConfusion h,fun h=>absurd (fun k hk'=>h.2.2.2 k (by omega)) hk⟩
  ·obtain⟨o,ho⟩:=h2 (by
    simp only[List.drop_zero]
    exact Classical.not_forall.1 ha |>.elim fun x hx=>⟨x,(Classical.not_imp.1 hx).1,(Classical.not_imp.1 hx).2⟩)
   subst ho
   exact K8 ⟨fun h=>Bool.noConfusion h,fun h=>absurd h.2.2.1 ha⟩
 ·rw[decide_eq_false (show¬_ from hl),if_pos (by decide)]
  exact K8 ⟨fun h=>Bool.noConfusion h,fun h=>absurd ⟨by have:=h.1;omega,by have:=h.2.1;omega⟩ hl⟩
theorem Ch (c:Ab)(hc:CIn c):Bs c=some (Bh c):=by
 classical
 unfold Bs Bh
 rw[Ajb,zbs]
 by_cases hn:Nodes c
 ·rw[decide_eq_true hn,if_neg (by decide),if_neg (fun h=>h hn),qB,zbs]
  by_cases hl:Links c
  ·rw[show decide (1≤c.D∧c.D≤4)=true from decide_eq_true hl,if_neg (by decide),if_neg (fun h=>h hl),xR c hc hn hl,zbs]
   by_cases hu:Nums c
   ·rw[decide_eq_true hu,if_neg (by decide),if_neg (fun h=>h hu),Akz c hn,zbs]
    by_cases ho:Owned c
    ·rw[@decide_eq_true _ (Classical.propDecidable _) ho,if_neg (by decide),if_neg (fun h=>h ho)]
    ·rw[@decide_eq_false _ (Classical.propDecidable _) ho,if_pos (by decide),if_pos ho]
   ·rw[decide_eq_false hu,if_pos (by decide),if_pos hu]
  ·rw[show decide (1≤c.D∧c.D≤4)=false from decide_eq_false hl,if_pos (by decide),if_pos hl]
 ·rw[decide_eq_false hn,if_pos (by decide),if_pos hn]
theorem Auh (n:Int)(c:Ab)(hl:c.Table.length≤32):Sf c n false 0=some (decide (n∈c.Table)):=by
 have h:=Y3 (f:=fun s:Bool×Int=>Ia c n s.1 s.2) (inv:=fun k=>(decide (n∈c.Table.take k),(k:Int))) c.Table.length (r:=decide (n∈c.Table)) (fun k hk=> ?_) ?_
 ·exact h
 ·have hg:=zge hk
  simp only[Ia]
  have ht:n∈c.Table.take (k+1)↔n∈c.Table.take k∨c.Table[k]=n:=by
   rw[List.take_add_one,hg,List.mem_append]
   simp only[Option.toList_some,List.mem_singleton,eq_comm]
  rw[if_pos (by omega),wrM (by omega) (by omega),Ak hg,zbs]
  by_cases hm:n∈c.Table.take k
  ·simp only[hm,ht,decide_true,if_true,true_or,Int.natCast_add,Int.cast_ofNat_Int]
  ·simp only[hm,ht,decide_false,false_or,Int.natCast_add,Int.cast_ofNat_Int];rw[if_neg (by decide)]
 ·simp only[Ia]
  rw[if_neg (by omega),List.take_length]
theorem Ah0 (c:Ab)(hn:Nodes c)(hl:(1:Int)≤c.Table.length∧(c.Table.length:Int)≤32):Uu c=some (@decide (Owned c) (Classical.propDecidable _)):=by
 classical
 have h13:c.N≤13:=hn.2.1
 have h4:4≤c.N:=hn.1
 have e0:=Dz (f:=fun s=>Hy c s) c.Table (fun x=>0≤x∧x<c.N) (fun k x hk hx=> ?_) ?_
 rotate_left
 ·simp only[Hy]
  rw[if_pos (by omega),Ak hx,zbs,mC,zbs,wrM (n:=c.N-1) (by omega) (by omega),wrM (by omega) (by omega)]
  by_cases h:0≤x∧x<c.N
  ·rw[decide_eq_true (by omega),if_neg (by decide),if_pos h]
  ·rw[decide_eq_false (by omega),if_pos (by decide),if_neg h]
 ·simp only[Hy]
  rw[if_neg (by omega)]
 have e1:=cP (f:=fun s=>H6 c s) c.N.toNat (fun k=>(k:Int)∈c.Table) (fun k hk=> ?_) ?_
 rotate_left
 ·simp only[H6]
  rw[if_pos (by omega),Auh _ _ (by omega),zbs,wrM (by omega) (by omega)]
  by_cases h:(k:Int)∈c.Table
  ·rw[decide_eq_true h,if_neg (by decide),if_pos h]
  ·rw[decide_eq_false h,if_pos (by decide),if_neg h]
 ·simp only[H6]
  rw[if_neg (by omega)]
 unfold Uu Su Sx
 rw[e0,zbs]
 by_cases ha: ∀x∈c.Table,0≤x∧x<c.N
 ·rw[if_pos ha]
  simp only[Sum.elim_inr]
  rw[e1,zbs]
  by_cases hk: ∀k,k<c.N.toNat→(k:Int)∈c.Table
  ·rw[if_pos hk]
   exact K8 ⟨fun _=>⟨by omega,by omega,ha,fun k h=>hk k (by omega)⟩,fun _=>rfl⟩
  ·rw[if_neg hk]
   exact K8 ⟨fun h=>Bool.noConfusion h,fun h=>absurd (fun k hk'=>h.2.2.2 k (by omega)) hk⟩
 ·rw[if_neg ha]
  exact K8 ⟨fun h=>Bool.noConfusion h,fun h=>absurd h.2.2.1 ha⟩
theorem Ce (c:Ab)(hc:CIn c):Bg c=some (Bh c):=by
 classical
 unfold Bg Bh
 simp only[mC,zbs]
 have ite_not {p:Prop} [Decidable p] {α:Type} (x y:α):(if(!decide p)=true then x else y)=if p then y else x:=by
  by_cases h:p<;>simp[h]
 simp only[ite_not]
 by_cases hn:Nodes c
 ·have hw:wr (3*c.F)=3*c.F:=wrM (by have:=hn.2.2.1;omega) (by have:=hn.2.2.2.1;omega)
  rw[if_pos (show 4≤c.N∧c.N≤13 from⟨hn.1,hn.2.1⟩),if_pos (show 0≤c.F∧c.F≤4 from⟨hn.2.2.1,hn.2.2.2.1⟩),hw,if_neg (by have:=hn.2.2.2.2;omega),if_neg (show¬¬Nodes c from fun h=>h hn)]
  by_cases hl:Links c
  ·rw[if_pos (show 1≤c.D∧c.D≤4 from hl),if_neg (show¬¬Links c from fun h=>h hl),Ahd c hn hl]
   by_cases hu:Nums c
   ·have hu':=hu
    obtain⟨a1,a2,b1,b2,c1,c2,d1,d2,e1,e2,f1,f2,g1,g2⟩:=hu'
    rw[if_pos ⟨a1,a2⟩,if_pos ⟨b1,b2⟩,wrM (n:=c.Rate-1) (by omega) (by omega),if_pos ⟨c1,c2⟩,if_pos ⟨d1,d2⟩,if_pos ⟨e1,e2⟩,if_pos ⟨f1,f2⟩,if_pos ⟨g1,g2⟩,if_neg (show¬¬Nums c from fun h=>h hu)]
    by_cases ht:(1:Int)≤c.Table.length∧(c.Table.length:Int)≤32
    ·rw[if_pos ht,Ah0 c hn ht,zbs]
     by_cases ho:Owned c
     ·rw[@decide_eq_true _ (Classical.propDecidable _) ho,if_neg (by decide),if_neg (show¬¬Owned c from fun h=>h ho)]
     ·rw[@decide_eq_false _ (Classical.propDecidable _) ho,if_pos (by decide),if_pos (show¬Owned c from ho)]
    ·rw[if_neg ht,if_pos]
     intro h;exact ht ⟨by have:=h.1;omega,by have:=h.2.1;omega⟩
   ·rw[if_pos (show¬Nums c from hu)]
    by_cases h1:6*(c.F+1)*c.D+1≤c.Period∧c.Period≤400
    ·rw[if_pos h1]
     by_cases h2:1≤c.Rate∧c.Rate≤64
     ·rw[if_pos h2,wrM (n:=c.Rate-1) (by omega) (by omega)]
      by_cases h3:0≤c.Drift∧c.Drift≤c.Rate-1
      ·rw[if_pos h3]
       by_cases h4:0≤c.Offset∧c.Offset≤30000
       ·rw[if_pos h4]
        by_cases h5:1≤c.Slot∧c.Slot≤30000
        ·rw[if_pos h5]
         by_cases h6:2≤c.Mod∧c.Mod≤250
         ·rw[if_pos h6]
          by_cases h7:1≤c.Fresh∧c.Fresh≤100
          ·exact absurd ⟨h1.1,h1.2,h2.1,h2.2,h3.1,h3.2,h4.1,h4.2,h5.1,h5.2,h6.1,h6.2,h7.1,h7.2⟩ hu
          ·rw[if_neg h7]
         ·rw[if_neg h6]
        ·rw[if_neg h5]
       ·rw[if_neg h4]
      ·rw[if_neg h3]
     ·rw[if_neg h2]
    ·rw[if_neg h1]
  ·rw[if_neg (show¬(1≤c.D∧c.D≤4)from hl),if_pos (show¬Links c from hl)]
 ·rw[if_pos (show¬Nodes c from hn)]
  by_cases h1:4≤c.N∧c.N≤13
  ·rw[if_pos h1]
   by_cases h2:0≤c.F∧c.F≤4
   ·rw[if_pos h2,wrM (n:=3*c.F) (by omega) (by omega),if_pos]
    have: ¬3*c.F<c.N:=fun h=>hn ⟨h1.1,h1.2,h2.1,h2.2,h⟩
    omega
   ·rw[if_neg h2]
  ·rw[if_neg h1]
def Pl (c:Ab):Prop:=Nodes c∧Links c∧Nums c∧Owned c
theorem A7 (c:Ab):Bh c=0↔Pl c:=by
 classical
 unfold Bh Pl
 by_cases h1:Nodes c<;>by_cases h2:Links c<;>by_cases h3:Nums c<;>by_cases h4:Owned c<;>simp[h1,h2,h3,h4]
theorem Kv :Ar=4294967296:=rfl
theorem wrI {n m:Int}(h:n=m)(h1: -9223372036854775808≤m∧m≤9223372036854775807):wr n=m:=by subst h;exact Agr h1
def rows {α β:Type}(t:Nat→α→List β):Nat→List α→List β
 |_,[]=>[]
 |k,x::r=>t k x++rows t (k+1) r
theorem Yh {α β:Type}(g:α→List β): ∀(l:List α) (k:Nat),rows (fun _ x=>g x) k l=l.flatMap g
 | [],_=>rfl
 |x::r,k=>by rw[rows,Yh g r,List.flatMap_cons]
theorem gX {α β σ ρ:Type}{f:σ→Option (σ⊕ρ)}(st:List β→Int→σ)(re:List β→ρ)(l:List α)(t:Nat→α→List β)(B:Nat)
 (h: ∀(k:Nat) x s,k<l.length→l[k]? =some x→s.length+(t k x).length≤B→f (st s (k:Int))=some (.inl (st (s++t k x) ((k:Int)+1))))
 (he: ∀s,f (st s (l.length:Int))=some (.inr (re s))) (s0:List β) (hB:s0.length+(rows t 0 l).length≤B):Ai f (st s0 0)=some (re (s0++rows t 0 l)):=by
 have: ∀(j k:Nat) (s:List β),k+j=l.length→s.length+(rows t k (l.drop k)).length≤B→Ai f (st s (k:Int))=some (re (s++rows t k (l.drop k))):=by
  intro j
  induction j with
  |zero=>
   intro k s hk _
   have:k=l.length:=by omega
   subst this
   rw[Av (he s)]
   simp[rows]
  |succ j ih=>
   intro k s hk hs
   have hlt:k<l.length:=by omega
   rw[List.drop_eq_getElem_cons hlt,rows]at hs ⊢
   rw[List.length_append]at hs
   rw[A5 (h k _ s hlt (zge hlt) (by omega)),show((k:Int)+1)=((k+1:Nat):Int) by omega,ih (k+1) _ (by omega) (by rw[List.length_append];omega),List.append_assoc]
 have:=this l.length 0 s0 (by omega) (by simpa using hB)
 simpa using this
theorem fT {a b A B:Int}(h1:0≤a)(h2:a≤A)(h3:0≤b)(h4:b≤B):0≤a*b∧a*b≤A*B:=
 ⟨Int.mul_nonneg h1 h3,Int.le_trans (Int.mul_le_mul_of_nonneg_right h2 h3) (Int.mul_le_mul_of_nonneg_left h4 (Int.le_trans h1 h2))⟩
def Tq (c:Ab):Int:=c.Offset+((c.Table.length:Int)-1)*c.Slot+c.Slot/2
def apV (c:Ab):Int:=2*c.Drift*Tq c
def gdV (c:Ab):Int:=(apV c+(c.Rate-c.Drift)-1)/(c.Rate-c.Drift)+c.Rate+(c.D+1)*c.Drift
open Classical in
def Tc (c:Ab):Int:=if Bh c≠0 then Bh c else
 if c.Slot≤2*gdV c∨(c.Period-1)*(c.Rate-c.Drift)<Tq c+c.D*c.Rate+gdV c∨32768≤c.Period*(c.Rate+c.Drift)then 8 else 0
theorem oQ {a s:Int}(ha:0≤a)(hs:1≤s):(a+s-1)/s=if 0<a%s then a/s+1 else a/s:=by
 have h1:=Int.emod_add_mul_ediv a s
 have h2:=Int.emod_nonneg a (show s≠0 by omega)
 have h3:=Int.emod_lt_of_pos a (show 0<s by omega)
 have e:a+s-1=(a%s+s-1)+s*(a/s):=by omega
 rw[e,Int.add_mul_ediv_left _ _ (by omega)]
 split
 ·have:(a%s+s-1)/s=1:=by
   rw[show a%s+s-1=(a%s-1)+s*1 by omega,Int.add_mul_ediv_left _ _ (by omega),Int.ediv_eq_zero_of_lt (by omega) (by omega)];rfl
  omega
 ·have:(a%s+s-1)/s=0:=Int.ediv_eq_zero_of_lt (by omega) (by omega)
  omega
structure CB (c:Ab):Prop where
 len:1≤(c.Table.length:Int)∧(c.Table.length:Int)≤32
 sl:0≤((c.Table.length:Int)-1)*c.Slot∧((c.Table.length:Int)-1)*c.Slot≤930000
 mid:0≤Tq c∧Tq c≤975000
 ap:0≤apV c∧apV c≤122850000
 q:0≤apV c/(c.Rate-c.Drift)∧apV c/(c.Rate-c.Drift)≤122850000
 g:0≤gdV c∧gdV c≤123000000
 dd:0≤(c.D+1)*c.Drift∧(c.D+1)*c.Drift≤315
 dr:0≤c.D*c.Rate∧c.D*c.Rate≤256
 pr:0≤(c.Period-1)*(c.Rate-c.Drift)∧(c.Period-1)*(c.Rate-c.Drift)≤25536
 per:7≤c.Period
 pf:0≤c.Period*(c.Rate+c.Drift)∧c.Period*(c.Rate+c.Drift)≤50800
theorem cb {c:Ab}(h:Pl c):CB c:=by
 obtain⟨⟨n1,n2,n3,n4,n5⟩,⟨l1,l2⟩,⟨p1,p2,r1,r2,d1,d2,o1,o2,s1,s2,m1,m2,f1,f2⟩,⟨t1,t2,t3,t4⟩⟩:=h
 have h0:=fT (a:=c.F+1) (b:=c.D) (A:=5) (B:=4) (by omega) (by omega) (by omega) (by omega)
 have e0:6*(c.F+1)*c.D=6*((c.F+1)*c.D):=by rw[Int.mul_assoc]
 have hs:=fT (a:=(c.Table.length:Int)-1) (b:=c.Slot) (A:=31) (B:=30000) (by omega) (by omega) (by omega) (by omega)
 have hm:0≤Tq c∧Tq c≤975000:=by unfold Tq;omega
 have ha:=fT (a:=2*c.Drift) (b:=Tq c) (A:=126) (B:=975000) (by omega) (by omega) hm.1 hm.2
 have ha':0≤apV c∧apV c≤122850000:=by unfold apV;omega
 have hd:=fT (a:=c.D+1) (b:=c.Drift) (A:=5) (B:=63) (by omega) (by omega) (by omega) (by omega)
 have hq1:0≤apV c/(c.Rate-c.Drift):=Int.ediv_nonneg ha'.1 (by omega)
 have hq2:apV c/(c.Rate-c.Drift)≤apV c:=Int.ediv_le_self _ ha'.1
 have hn:1≤(c.F+1)*c.D:=by have:=fT (a:=1) (b:=1) (A:=c.F+1) (B:=c.D) (by omega) (by omega) (by omega) (by omega);omega
 refine⟨by omega,by omega,hm,ha',⟨hq1,by omega⟩,?_,by omega,?_,?_,by omega,?_⟩
 ·unfold gdV
  rw[oQ ha'.1 (by omega)]
  split<;>omega
 ·have:=fT (a:=c.D) (b:=c.Rate) (A:=4) (B:=64) (by omega) (by omega) (by omega) (by omega);omega
 ·have:=fT (a:=c.Period-1) (b:=c.Rate-c.Drift) (A:=399) (B:=64) (by omega) (by omega) (by omega) (by omega);omega
 ·have:=fT (a:=c.Period) (b:=c.Rate+c.Drift) (A:=400) (B:=127) (by omega) (by omega) (by omega) (by omega);omega
theorem vL {c:Ab}(h:Pl c):wr (c.Offset+wr (wr ((c.Table.length:Int)-1)*c.Slot))=c.Offset+((c.Table.length:Int)-1)*c.Slot:=by
 have b:=cb h
 obtain⟨l1,l2⟩:=b.len
 obtain⟨s1,s2⟩:=b.sl
 obtain⟨-,-,⟨p1,p2,r1,r2,d1,d2,o1,o2,s1,s2,m1,m2,f1,f2⟩,-⟩:=h
 rw[wrI (n:=(c.Table.length:Int)-1) rfl (by omega),wrI (n:=((c.Table.length:Int)-1)*c.Slot) rfl (by omega),wrI rfl (by omega)]
theorem Ake {c:Ab}(h:Pl c):wr (wr (c.Offset+wr (wr ((c.Table.length:Int)-1)*c.Slot))+wr (Int.tdiv c.Slot 2))=Tq c:=by
 have b:=cb h
 obtain⟨s1,s2⟩:=b.sl
 rw[vL h]
 obtain⟨-,-,⟨p1,p2,r1,r2,d1,d2,o1,o2,s1,s2,m1,m2,f1,f2⟩,-⟩:=h
 rw[Int.tdiv_eq_ediv_of_nonneg (by omega),wrI (n:=c.Slot/2) rfl (by omega),wrI rfl (by omega)]
 rfl
theorem Ard {c:Ab}(h:Bh c=0):Pl c:=(A7 c).1 h
theorem tX (c:Ab)(hc:CIn c):Pj c=some (Tc c):=by
 unfold Pj Lk Tc
 rw[Ch c hc,zbs,zbs]
 by_cases h0:Bh c=0
 ·have hp:=Ard h0
  have b:=cb hp
  obtain⟨a1,a2⟩:=b.ap
  obtain⟨g1,g2⟩:=b.g
  obtain⟨q1,q2⟩:=b.q
  obtain⟨k1,k2⟩:=b.dd
  obtain⟨u1,u2⟩:=b.dr
  obtain⟨v1,v2⟩:=b.pr
  obtain⟨w1,w2⟩:=b.pf
  obtain⟨m1,m2⟩:=b.mid
  have pp:=b.per
  have hm:=Ake hp
  obtain⟨⟨n1,n2,n3,n4,n5⟩,⟨l1,l2⟩,⟨p1,p2,r1,r2,d1,d2,o1,o2,s1,s2,-,-,f1,f2⟩,-⟩:=hp
  have hg:G8 (Ax.mk c)=some (gdV c):=by
   unfold G8 Fi Gb Dw C3
   simp only[zbs]
   rw[hm,wrI (n:=c.Rate-c.Drift) rfl (by omega),if_neg (by omega),wrI (n:=2*c.Drift) rfl (by omega),show 2*c.Drift*Tq c=apV c from rfl,wrI (n:=apV c) rfl (by omega),wrI (n:=apV c+(c.Rate-c.Drift)) rfl (by omega),
    wrI (n:=apV c+(c.Rate-c.Drift)-1) rfl (by omega),Int.tdiv_eq_ediv_of_nonneg (by omega),wrI (n:=c.D+1) rfl (by omega),wrI (n:=(c.D+1)*c.Drift) rfl (by omega)]
   have e:=oQ (a:=apV c) (s:=c.Rate-c.Drift) a1 (by omega)
   have e2:0≤(apV c+(c.Rate-c.Drift)-1)/(c.Rate-c.Drift)∧(apV c+(c.Rate-c.Drift)-1)/(c.Rate-c.Drift)≤122850001:=by rw[e];split<;>omega
   rw[wrI (n:=(apV c+(c.Rate-c.Drift)-1)/(c.Rate-c.Drift)) rfl (by omega),wrI (n:=(apV c+(c.Rate-c.Drift)-1)/(c.Rate-c.Drift)+c.Rate) rfl (by omega),wrI rfl (by omega)]
   rfl
  rw[if_neg (by simp[h0]),if_neg (by simp[h0])]
  simp only
  rw[hg,zbs]
  unfold Jq Kz Js Hm Fi Gb Dw C3
  simp only[zbs]
  rw[hm,wrI (n:=2*gdV c) rfl (by omega),wrI (n:=c.D*c.Rate) rfl (by omega),wrI (n:=Tq c+c.D*c.Rate) rfl (by omega),wrI (n:=Tq c+c.D*c.Rate+gdV c) rfl (by omega),wrI (n:=c.Period-1) rfl (by omega),wrI (n:=c.Rate-c.Drift) rfl (by omega),
   wrI (n:=(c.Period-1)*(c.Rate-c.Drift)) rfl (by omega),wrI (n:=c.Rate+c.Drift) rfl (by omega),wrI (n:=c.Period*(c.Rate+c.Drift)) rfl (by omega)]
  by_cases e1:c.Slot≤2*gdV c
  ·rw[show decide (2*gdV c<c.Slot)=false from decide_eq_false (by omega),if_pos (show(!false)=true from rfl),if_pos (.inl e1)]
  ·rw[show decide (2*gdV c<c.Slot)=true from decide_eq_true (by omega),if_neg (by decide)]
   by_cases e2:(c.Period-1)*(c.Rate-c.Drift)<Tq c+c.D*c.Rate+gdV c
   ·rw[show decide (Tq c+c.D*c.Rate+gdV c≤(c.Period-1)*(c.Rate-c.Drift))=false from decide_eq_false (by omega),if_pos (show(!false)=true from rfl),if_pos (.inr (.inl e2))]
   ·rw[show decide (Tq c+c.D*c.Rate+gdV c≤(c.Period-1)*(c.Rate-c.Drift))=true from decide_eq_true (by omega),if_neg (by decide)]
    by_cases e3:32768≤c.Period*(c.Rate+c.Drift)
    ·rw[show decide (c.Period*(c.Rate+c.Drift)<32768)=false from decide_eq_false (by omega),if_pos (show(!false)=true from rfl),if_pos (.inr (.inr e3))]
    ·rw[show decide (c.Period*(c.Rate+c.Drift)<32768)=true from decide_eq_true (by omega),if_neg (by decide),if_neg (by omega)]
 ·rw[if_pos h0,decide_eq_false h0]
  rfl
theorem Aca (c:Ab)(hc:CIn c):Q7 c=some (Tc c):=by
 unfold Q7 Tc
 rw[Ce c hc,zbs]
 by_cases h0:Bh c=0
 ·have hp:=Ard h0
  have b:=cb hp
  obtain⟨t1,t2⟩:=b.len
  obtain⟨a1,a2⟩:=b.ap
  obtain⟨g1,g2⟩:=b.g
  obtain⟨q1,q2⟩:=b.q
  obtain⟨k1,k2⟩:=b.dd
  obtain⟨u1,u2⟩:=b.dr
  obtain⟨v1,v2⟩:=b.pr
  obtain⟨w1,w2⟩:=b.pf
  obtain⟨m1,m2⟩:=b.mid
  have pp:=b.per
  have hm:=Ake hp
  have hb:=vL hp
  obtain⟨⟨n1,n2,n3,n4,n5⟩,⟨l1,l2⟩,⟨p1,p2,r1,r2,d1,d2,o1,o2,s1,s2,-,-,f1,f2⟩,-⟩:=hp
  have hw:wr ((c.Table.length:Int)-1)=(c.Table.length:Int)-1:=wrI rfl (by omega)
  have hbg:Hz c (wr ((c.Table.length:Int)-1))=some (wr (c.Offset+wr (wr ((c.Table.length:Int)-1)*c.Slot))):=by
   unfold Hz
   rw[Ce c hc,zbs,if_neg (by simp[h0]),if_neg (by rw[hw];omega),if_neg (by rw[hw];omega)]
  have hmd:N5 c (wr ((c.Table.length:Int)-1))=some (Tq c):=by
   unfold N5
   rw[Ce c hc,zbs,if_neg (by simp[h0]),if_neg (by rw[hw];omega),if_neg (by rw[hw];omega),hbg,zbs,hm]
  have hg:Tm c=some (gdV c):=by
   unfold Tm
   rw[Ce c hc,zbs,if_neg (by simp[h0]),hmd,zbs,wrI (n:=c.Rate-c.Drift) rfl (by omega),if_neg (by omega),wrI (n:=2*c.Drift) rfl (by omega),show 2*c.Drift*Tq c=apV c from rfl,wrI (n:=apV c) rfl (by omega),
    Int.tdiv_eq_ediv_of_nonneg a1,Int.tmod_eq_emod_of_nonneg a1,wrI (n:=apV c/(c.Rate-c.Drift)) rfl (by omega),wrI (n:=c.D+1) rfl (by omega),wrI (n:=(c.D+1)*c.Drift) rfl (by omega)]
   unfold gdV
   rw[oQ a1 (by omega)]
   split
   ·rw[wrI (n:=apV c/(c.Rate-c.Drift)+1) rfl (by omega),wrI (n:=apV c/(c.Rate-c.Drift)+1+c.Rate) rfl (by omega),wrI rfl (by omega)]
   ·rw[wrI (n:=apV c/(c.Rate-c.Drift)+c.Rate) rfl (by omega),wrI rfl (by omega)]
  have hz: ¬Bh c≠0:=by simp[h0]
  rw[if_neg hz,if_neg hz,hg,zbs,hmd,zbs,wrI (n:=2*gdV c) rfl (by omega),wrI (n:=c.D*c.Rate) rfl (by omega),wrI (n:=Tq c+c.D*c.Rate) rfl (by omega),wrI (n:=Tq c+c.D*c.Rate+gdV c) rfl (by omega),wrI (n:=c.Period-1) rfl (by omega),wrI (n:=c.Rate-c.Drift) rfl (by omega),
   wrI (n:=(c.Period-1)*(c.Rate-c.Drift)) rfl (by omega),wrI (n:=c.Rate+c.Drift) rfl (by omega),wrI (n:=c.Period*(c.Rate+c.Drift)) rfl (by omega)]
  by_cases e1:c.Slot≤2*gdV c
  ·rw[if_pos e1,if_pos (.inl e1)]
  ·rw[if_neg e1]
   by_cases e2:(c.Period-1)*(c.Rate-c.Drift)<Tq c+c.D*c.Rate+gdV c
   ·rw[if_pos e2,if_pos (.inr (.inl e2))]
   ·rw[if_neg e2]
    by_cases e3:32768≤c.Period*(c.Rate+c.Drift)
    ·rw[if_pos e3,if_pos (.inr (.inr e3))]
    ·rw[if_neg e3,if_neg (by omega)]
 ·rw[if_pos h0,if_pos h0]
  rfl
theorem notd {β:Type}{p:Prop} [Decidable p]{a b:β}:(if(!decide p)=true then some a else some b)=some (if p then b else a):=by by_cases h:p<;>simp[h]
theorem Yn {p q:Prop} [Decidable p] [Decidable q]:(if p then some (decide q)else some false)=some (decide (p∧q)):=by by_cases h:p<;>simp[h]
theorem Fz {α:Type}(f:Int→Option (Int⊕(Bool⊕Unit)))(l:List α)(p:α→Prop) [DecidablePred p]
 (h: ∀(k:Nat) x,k<l.length→l[k]? =some x→f (k:Int)=some (if p x then .inl ((k:Int)+1)else .inr (.inl false))) (he:f (l.length:Int)=some (.inr (.inr ()))):
 ((Ai f 0).bind fun r2=>Sum.elim (fun r3=>some r3) (fun _=>some true) r2)=some (decide (∀x∈l,p x)):=by
 rw[Dz l p (fun k x hk hx=>by rw[h k x hk hx];by_cases hp:p x<;>simp[hp]) he]
 by_cases hp: ∀x∈l,p x
 ·rw[if_pos hp,decide_eq_true hp];rfl
 ·rw[if_neg hp,decide_eq_false hp];rfl
theorem dE {α γ:Type}(f:Int×γ→Option ((Int×γ)⊕((Bool×γ)⊕γ)))(c:γ)(l:List α)(p:α→Prop) [DecidablePred p]
 (h: ∀(k:Nat) x,k<l.length→l[k]? =some x→f ((k:Int),c)=some (if p x then .inl ((k:Int)+1,c)else .inr (.inl (false,c)))) (he:f ((l.length:Int),c)=some (.inr (.inr c))):
 ((Ai f (0,c)).bind fun r2=>Sum.elim (fun r3=>some (r3.1,r3.2)) (fun r4=>some (true,r4)) r2)=some (decide (∀x∈l,p x),c):=by
 have: ∀m k:Nat,k+m=l.length→Ai f ((k:Int),c)=some (if∀x∈l.drop k,p x then .inr c else .inl (false,c)):=by
  intro m
  induction m with
  |zero=>
   intro k hk
   obtain rfl:k=l.length:=by omega
   rw[Av he,List.drop_length,if_pos (by simp)]
  |succ m ih=>
   intro k hk
   have hlt:k<l.length:=by omega
   have h1:=h k l[k] hlt (zge hlt)
   rw[List.drop_eq_getElem_cons hlt]
   by_cases hp:p l[k]
   ·rw[if_pos hp]at h1
    rw[A5 h1,show((k:Int)+1)=((k+1:Nat):Int) by omega,ih (k+1) (by omega)]
    simp only[List.mem_cons,forall_eq_or_imp,hp,true_and]
   ·rw[if_neg hp]at h1
    have hn: ¬∀x∈l[k]::l.drop (k+1),p x:=fun hh=>hp (hh _ (List.mem_cons_self ..))
    rw[Av h1,if_neg hn]
 have:=this l.length 0 (by omega)
 rw[show((0:Nat):Int)=0 from rfl,List.drop_zero]at this
 rw[this]
 by_cases hp: ∀x∈l,p x
 ·rw[if_pos hp,decide_eq_true hp];rfl
 ·rw[if_neg hp,decide_eq_false hp];rfl
def Hp :List Int→Int
 | []=>0
 |e::r=>if e≠0 then e else Hp r
theorem Yd {α:Type}(f:Int→Option (Int⊕(Int⊕Unit)))(l:List α)(e:α→Int)
 (h: ∀(k:Nat) x,k<l.length→l[k]? =some x→f (k:Int)=some (if e x≠0 then .inr (.inl (e x))else .inl ((k:Int)+1))) (he:f (l.length:Int)=some (.inr (.inr ()))):
 Ai f 0=some (if Hp (l.map e)≠0 then .inl (Hp (l.map e))else .inr ()):=by
 have: ∀m k:Nat,k+m=l.length→Ai f (k:Int)=some (if Hp ((l.drop k).map e)≠0 then .inl (Hp ((l.drop k).map e))else .inr ()):=by
  intro m
  induction m with
  |zero=>
   intro k hk
   obtain rfl:k=l.length:=by omega
   rw[Av he,List.drop_length]
   rfl
  |succ m ih=>
   intro k hk
   have hlt:k<l.length:=by omega
   have h1:=h k l[k] hlt (zge hlt)
   rw[List.drop_eq_getElem_cons hlt,List.map_cons,Hp]
   by_cases hp:e l[k]≠0
   ·rw[if_pos hp]at h1 ⊢
    rw[Av h1,if_pos hp]
   ·rw[if_neg hp]at h1 ⊢
    rw[A5 h1,show((k:Int)+1)=((k+1:Nat):Int) by omega,ih (k+1) (by omega)]
 simpa using this l.length 0 (by omega)
theorem Apu (f:Int→Option (Int⊕(Int⊕Unit)))(l:List Int)(v:Int)
 (h: ∀(k:Nat) x,k<l.length→l[k]? =some x→f (k:Int)=some (if v=x then .inr (.inl (k:Int))else .inl ((k:Int)+1))) (he:f (l.length:Int)=some (.inr (.inr ()))):
 ∃r,((Ai f 0).bind fun r2=>Sum.elim (fun r3=>some r3) (fun _=>some (-1)) r2)=some r∧decide (0≤r)=decide (v∈l):=by
 have: ∀m k:Nat,k+m=l.length→∃r,Ai f (k:Int)=some r∧((v∈l.drop k∧∃j:Nat,r= .inl (j:Int))∨(v∉l.drop k∧r= .inr ())):=by
  intro m
  induction m with
  |zero=>
   intro k hk
   obtain rfl:k=l.length:=by omega
   exact⟨_,Av he,.inr ⟨by simp,rfl⟩⟩
  |succ m ih=>
   intro k hk
   have hlt:k<l.length:=by omega
   have h1:=h k l[k] hlt (zge hlt)
   rw[List.drop_eq_getElem_cons hlt]
   by_cases hp:v=l[k]
   ·rw[if_pos hp]at h1
    exact⟨_,Av h1,.inl ⟨List.mem_cons.2 (.inl hp),k,rfl⟩⟩
   ·rw[if_neg hp]at h1
    obtain⟨r,e,hr⟩:=ih (k+1) (by omega)
    refine⟨r,by rw[A5 h1];exact e,?_⟩
    simpa only[List.mem_cons,hp,false_or]using hr
 obtain⟨r,e,hr⟩:=this l.length 0 (by omega)
 rw[show((0:Nat):Int)=0 from rfl]at e
 rw[e]
 rw[List.drop_zero]at hr
 rcases hr with⟨h1,j,rfl⟩|⟨h1,rfl⟩
 ·exact⟨_,rfl,by simp[h1]⟩
 ·exact⟨_,rfl,by simp[h1]⟩
def clV (n:Int):Int:=if n<0 then 0 else if 13<n then 13 else n
def IsN (c:Ab)(n:Int):Prop:=0≤n∧n<clV c.N
instance (c :Ab)(n:Int):Decidable (IsN c n):=by unfold IsN;infer_instance
def Ns (l:List Int)(m:Int):Prop:=(l.length:Int)≤m∧∀x∈l,0≤x∧x≤65535
instance (l :List Int)(m:Int):Decidable (Ns l m):=by unfold Ns;infer_instance
def Nm (c:Ab)(t:Am):Prop:=(∀s∈t.Sends,IsN c s.From∧IsN c s.To)∧(∀s∈t.Strays,IsN c s.From∧IsN c s.To)∧(∀b∈t.Bursts,IsN c b.Node)∧∀w∈t.Writes,IsN c w.Node
instance (c :Ab)(t:Am):Decidable (Nm c t):=by unfold Nm;infer_instance
def Sh (t:Am):Prop:=(∀s∈t.Sends,(s.Bytes.length:Int)≤40)∧(∀s∈t.Strays,(s.Bytes.length:Int)≤40)∧∀b∈t.Bursts,(b.Image.length:Int)≤8000
instance (t :Am):Decidable (Sh t):=by unfold Sh;infer_instance
def Fl (t:Am):Prop:=40<(t.Sends.length:Int)∨40<(t.Bursts.length:Int)∨40<(t.Strays.length:Int)∨40<(t.Writes.length:Int)
instance (t :Am):Decidable (Fl t):=by unfold Fl;infer_instance
def bS (c:Ab)(t:Am):Int:=
 if¬Ns t.Units c.N then 2 else if¬Ns t.Delays (wr (c.N*c.N))then 2 else if¬(∀s∈t.Sends,0≤s.Delay∧s.Delay≤65535)then 2 else if¬(∀s∈t.Strays,0≤s.Delay∧s.Delay≤65535)then 2
 else if Fl t then 9 else if¬Nm c t then 7 else if¬Sh t then 6 else if¬(∀w∈t.Writes,(w.Text.length:Int)≤16)then 15 else 0
def Fc (c:Ab)(l:List Int):Prop:= ∀k x,l[k]? =some x→IsN c x∧x∉l.take k
open Classical in
def E6 (s:Aa):Int:=if Tc s.Conf≠0 then Tc s.Conf else if¬Fc s.Conf s.Faulty then 7 else if s.Conf.N<(s.Images.length:Int)then 6 else if 2000<(s.Ticks.length:Int)then 6
 else if¬(∀i∈s.Images,(i.length:Int)≤8000)then 6 else Hp (s.Ticks.map (bS s.Conf))
structure TIn (t:Am):Prop where
 u:t.Units.length≤100000000
 d:t.Delays.length≤100000000
 s:t.Sends.length≤100000000
 b:t.Bursts.length≤100000000
 y:t.Strays.length≤100000000
 w:t.Writes.length≤100000000
structure SIn (s:Aa):Prop where
 conf:CIn s.Conf
 f:s.Faulty.length≤100000000
 i:s.Images.length≤100000000
 t:s.Ticks.length≤100000000
 tt: ∀t∈s.Ticks,TIn t
theorem eW (c:Ab)(n:Int):Fp c n=some (decide (IsN c n)):=by
 have e:E7 c=some (clV c.N):=by
  unfold E7 Fo clV
  split
  ·rfl
  ·rw[if_neg (by omega)]
   split<;>rfl
 unfold Fp
 rw[e,zbs]
 exact Yn
theorem O9 (c:Ab)(n:Int):Ge c n=some (decide (IsN c n)):=by
 have e:Dk c.N 0 13=some (clV c.N):=by
  unfold Dk clV
  split
  ·rfl
  ·rw[if_neg (by omega)]
   congr 1
   rw[Int.min_def]
   split<;>split<;>omega
 unfold Ge
 rw[e,zbs]
 exact Yn
theorem Sw (l:List Int)(v:Int)(hl:l.length≤1000000000):Au l v=some (decide (v∈l)):=by
 obtain⟨r,h1,h2⟩:=Apu (fun s=>A9 l v (l.length:Int) s) l v (fun k x hk hx=>by
  simp only[A9]
  rw[if_pos (by omega),Ak hx,zbs,wrI rfl (by omega)]
  by_cases h:v=x<;>simp[h]) (by simp only[A9];rw[if_neg (by omega)])
 have:Bp l v=some r:=h1
 unfold Au
 rw[this,zbs,h2]
theorem Ak6 (l:List Int)(v:Int)(hl:l.length≤1000000000):Ka l v=some (decide (v∈l)):=by
 have L:=Dt (f:=fun s=>Jc l v s) l (fun x=>x=v) true (fun k x hk hx=>by
  simp only[Jc]
  rw[if_pos (by omega),Ak hx,zbs,wrI rfl (by omega)]
  by_cases h:x=v<;>simp[h]) (by simp only[Jc];rw[if_neg (by omega)])
 unfold Ka Yc
 rw[L]
 by_cases h:v∈l
 ·rw[if_pos ⟨v,h,rfl⟩,decide_eq_true h];rfl
 ·rw[if_neg (by rintro⟨x,hx,rfl⟩;exact h hx),decide_eq_false h];rfl
theorem Aqg (n:Int):Kg n=some (decide (0≤n∧n≤65535)):=Yn
theorem Alh (s:Ay):Pf s=some (decide (0≤s.Delay∧s.Delay≤65535)):=Yn
theorem Aq0 (l:List Int)(hl:l.length≤100000000):Ky l=some (decide (∀x∈l,0≤x∧x≤65535)):=
 Fz (fun s=>Dg l (l.length:Int) s) l (fun x=>0≤x∧x≤65535) (fun k x hk hx=>by
  simp only[Dg]
  rw[if_pos (by omega),Ak hx,zbs,Aqg,zbs,wrI rfl (by omega),notd]) (by simp only[Dg];rw[if_neg (by omega)])
theorem Aap (l:List Int)(m:Int)(hl:l.length≤100000000):H2 l m=some (decide (Ns l m)):=by
 unfold H2
 rw[Aq0 l hl,zbs]
 exact Yn
theorem sM (l:List Ay)(hl:l.length≤100000000):Da l=some (decide (∀s∈l,0≤s.Delay∧s.Delay≤65535)):=
 Fz (fun s=>Bv l (l.length:Int) s) l (fun s=>0≤s.Delay∧s.Delay≤65535) (fun k x hk hx=>by
  simp only[Bv]
  rw[if_pos (by omega),Ak hx,zbs,Alh,zbs,wrI rfl (by omega),notd]) (by simp only[Bv];rw[if_neg (by omega)])
theorem nM (l:List Ay)(hl:l.length≤100000000):Db l=some (decide (∀s∈l,(s.Bytes.length:Int)≤40)):=
 Fz (fun s=>Bu l (l.length:Int) s) l (fun s=>(s.Bytes.length:Int)≤40) (fun k x hk hx=>by
  simp only[Bu,Nr]
  rw[if_pos (by omega),Ak hx,zbs,zbs,wrI rfl (by omega),notd]) (by simp only[Bu];rw[if_neg (by omega)])
theorem Aco (l:List Ba)(hl:l.length≤100000000):D3 l=some (decide (∀s∈l,(s.Image.length:Int)≤8000)):=
 Fz (fun s=>Bq l (l.length:Int) s) l (fun s=>(s.Image.length:Int)≤8000) (fun k x hk hx=>by
  simp only[Bq,Nh]
  rw[if_pos (by omega),Ak hx,zbs,zbs,wrI rfl (by omega),notd]) (by simp only[Bq];rw[if_neg (by omega)])
theorem Ah1 (l:List Bd)(hl:l.length≤100000000):D2 l=some (decide (∀s∈l,(s.Text.length:Int)≤16)):=
 Fz (fun s=>Bo l (l.length:Int) s) l (fun s=>(s.Text.length:Int)≤16) (fun k x hk hx=>by
  simp only[Bo,O8]
  rw[if_pos (by omega),Ak hx,zbs,zbs,wrI rfl (by omega),notd]) (by simp only[Bo];rw[if_neg (by omega)])
theorem Ad5 (l:List (List UInt8))(hl:l.length≤100000000):Hn l=some (decide (∀s∈l,(s.length:Int)≤8000)):=
 Fz (fun s=>Ct l (l.length:Int) s) l (fun s=>(s.length:Int)≤8000) (fun k x hk hx=>by
  simp only[Ct,Nf]
  rw[if_pos (by omega),Ak hx,zbs,zbs,wrI rfl (by omega),notd]) (by simp only[Ct];rw[if_neg (by omega)])
theorem Adu (c:Ab)(s:Ay):Kc s c=some (decide (IsN c s.From∧IsN c s.To),c):=by
 unfold Kc
 rw[eW,eW,zbs,zbs]
 by_cases h:IsN c s.From<;>simp[h]
theorem zY (c:Ab)(l:List Ay)(hl:l.length≤100000000):D6 l c=some (decide (∀s∈l,IsN c s.From∧IsN c s.To),c):=
 dE (fun s=>Cb l (l.length:Int) s.1 s.2) c l (fun s=>IsN c s.From∧IsN c s.To) (fun k x hk hx=>by
  simp only[Cb]
  rw[if_pos (by omega),Ak hx,zbs,Adu,zbs,wrI rfl (by omega),notd]) (by simp only[Cb];rw[if_neg (by omega)])
theorem Ao9 (c:Ab)(l:List Ba)(hl:l.length≤100000000):Fa l c=some (decide (∀s∈l,IsN c s.Node),c):=
 dE (fun s=>B5 l (l.length:Int) s.1 s.2) c l (fun s=>IsN c s.Node) (fun k x hk hx=>by
  simp only[B5,Nu]
  rw[if_pos (by omega),Ak hx,zbs,eW,zbs,zbs,wrI rfl (by omega),notd]) (by simp only[B5];rw[if_neg (by omega)])
theorem An9 (c:Ab)(l:List Bd)(hl:l.length≤100000000):E4 l c=some (decide (∀s∈l,IsN c s.Node),c):=
 dE (fun s=>B0 l (l.length:Int) s.1 s.2) c l (fun s=>IsN c s.Node) (fun k x hk hx=>by
  simp only[B0,Nt]
  rw[if_pos (by omega),Ak hx,zbs,eW,zbs,zbs,wrI rfl (by omega),notd]) (by simp only[B0];rw[if_neg (by omega)])
theorem Alk (c:Ab)(t:Am)(ht:TIn t):Nj c t=some (decide (Nm c t)):=by
 unfold Nj
 simp only[zY c _ ht.s,zY c _ ht.y,Ao9 c _ ht.b,An9 c _ ht.w,zbs,decide_eq_true_eq]
 by_cases h1: ∀s∈t.Sends,IsN c s.From∧IsN c s.To
 ·rw[if_pos h1]
  by_cases h2: ∀s∈t.Strays,IsN c s.From∧IsN c s.To
  ·rw[if_pos h2]
   by_cases h3: ∀s∈t.Bursts,IsN c s.Node
   ·rw[if_pos h3]
    congr 1
    exact Bool.eq_iff_iff.2 (by simp only[decide_eq_true_eq];exact⟨fun h=>⟨h1,h2,h3,h⟩,fun h=>h.2.2.2⟩)
   ·rw[if_neg h3,decide_eq_false fun h=>h3 h.2.2.1]
  ·rw[if_neg h2,decide_eq_false fun h=>h2 h.2.1]
 ·rw[if_neg h1,decide_eq_false fun h=>h1 h.1]
theorem Alv (t:Am)(ht:TIn t):Nl t=some (decide (Sh t)):=by
 unfold Nl
 simp only[nM _ ht.s,nM _ ht.y,Aco _ ht.b,zbs,decide_eq_true_eq]
 by_cases h1: ∀s∈t.Sends,(s.Bytes.length:Int)≤40
 ·rw[if_pos h1]
  by_cases h2: ∀s∈t.Strays,(s.Bytes.length:Int)≤40
  ·rw[if_pos h2]
   congr 1
   exact Bool.eq_iff_iff.2 (by simp only[decide_eq_true_eq];exact⟨fun h=>⟨h1,h2,h⟩,fun h=>h.2.2⟩)
  ·rw[if_neg h2,decide_eq_false fun h=>h2 h.2.1]
 ·rw[if_neg h1,decide_eq_false fun h=>h1 h.1]
theorem Aqa (t:Am):Pz t=some (decide (Fl t)):=by
 unfold Pz
 rw[Aoz]
 congr 1
 refine Bool.eq_iff_iff.2 (decide_eq_true_iff.trans (Iff.trans ?_ decide_eq_true_iff.symm))
 simp only[List.foldl_cons,List.foldl_nil]
 unfold Fl
 omega
theorem Ap8 (c:Ab)(t:Am)(ht:TIn t):P3 c t=some (bS c t):=by
 unfold P3 bS
 simp only[Aap _ _ ht.u,Aap _ _ ht.d,sM _ ht.s,sM _ ht.y,Aqa,Alk c t ht,Alv t ht,Ah1 _ ht.w,zbs,Bool.not_eq_true',decide_eq_false_iff_not,decide_eq_true_eq]
 repeat(split;first|rfl|skip)
 all_goals first|rfl|skip
theorem Xc (l:List Int)(m:Int)(hl:l.length≤1000000000):L6 l m=some (decide (Ns l m)):=by
 have e:((Ai (fun s=>Eo l s) 0).bind fun r2=>Sum.elim (fun r3=>some r3) (fun _=>some true) r2)=some (decide (∀x∈l,0≤x∧x≤65535)):=
  Fz (fun s=>Eo l s) l (fun x=>0≤x∧x≤65535) (fun k x hk hx=>by
   simp only[Eo]
   rw[if_pos (by omega),Ak hx,zbs,zbs,wrI rfl (by omega)]
   by_cases h1:x<0
   ·rw[if_pos h1,if_neg (by omega)]
   ·rw[if_neg h1]
    by_cases h2:65535<x
    ·rw[if_pos h2,if_neg (by omega)]
    ·rw[if_neg h2,if_pos (by omega)]) (by simp only[Eo];rw[if_neg (by omega)])
 unfold L6
 by_cases h:m<(l.length:Int)
 ·rw[if_pos h,decide_eq_false (fun hh:Ns l m=>absurd hh.1 (by omega))]
 ·rw[if_neg h]
  refine Eq.trans e ?_
  congr 1
  exact Bool.eq_iff_iff.2 (by simp only[decide_eq_true_eq];exact⟨fun hh=>⟨by omega,hh⟩,fun hh=>hh.2⟩)
theorem yK (t:Am)(ht:TIn t):Tv t=some (t.Sends.map Ay.Delay++t.Strays.map Ay.Delay):=by
 have h1:=ht.s
 have h2:=ht.y
 have e: ∀(l:List Ay),l.flatMap (fun s=>[s.Delay])=l.map Ay.Delay:=by
  intro l
  induction l with
  |nil=>rfl
  |cons x l ih=>rw[List.flatMap_cons,ih];rfl
 have L1:=gX (f:=fun s:List Int×Int=>Dj t t.Sends (t.Sends.length:Int) s.1 s.2) (fun o i=>(o,i)) id t.Sends (fun _ s=>[s.Delay]) 4294967296 (fun k x o hk hx hl=>by
  show Dj _ _ _ _ _=_
  unfold Dj
  rw[if_pos (by omega),Ak hx,zbs,if_pos (by rw[Kv];exact hl),wrI rfl (by omega)]) (fun o=>by
  show Dj _ _ _ _ _=_
  unfold Dj
  rw[if_neg (by omega)];rfl) [] (by rw[Yh,e];simp;omega)
 have L2:=gX (f:=fun s:List Int×Int=>Di t.Strays (t.Strays.length:Int) s.1 s.2) (fun o i=>(o,i)) id t.Strays (fun _ s=>[s.Delay]) 4294967296 (fun k x o hk hx hl=>by
  show Di _ _ _ _=_
  unfold Di
  rw[if_pos (by omega),Ak hx,zbs,if_pos (by rw[Kv];exact hl),wrI rfl (by omega)]) (fun o=>by
  show Di _ _ _ _=_
  unfold Di
  rw[if_neg (by omega)];rfl) (t.Sends.map Ay.Delay) (by rw[Yh,e];simp;omega)
 rw[Yh,e]at L1 L2
 unfold Tv Xn
 rw[L1,zbs]
 unfold X0
 rw[id,List.nil_append,L2]
 rfl
theorem xV (c:Ab)(t:Am)(ht:TIn t):T7 c t=some (decide (Nm c t)):=by
 have h1:=ht.s
 have h2:=ht.y
 have h3:=ht.b
 have h4:=ht.w
 have L0:=Dz (f:=fun s=>H9 c t t.Sends (t.Sends.length:Int) s) t.Sends (fun s=>IsN c s.From∧IsN c s.To) (fun k x hk hx=>by
  simp only[H9]
  rw[if_pos (by omega),Ak hx,zbs,O9,zbs,O9,zbs,wrI rfl (by omega)]
  by_cases a:IsN c x.From<;>by_cases b:IsN c x.To<;>simp[a,b]) (by simp only[H9];rw[if_neg (by omega)])
 have L1:=Dz (f:=fun s=>H0 c t t.Strays (t.Strays.length:Int) s) t.Strays (fun s=>IsN c s.From∧IsN c s.To) (fun k x hk hx=>by
  simp only[H0]
  rw[if_pos (by omega),Ak hx,zbs,O9,zbs,O9,zbs,wrI rfl (by omega)]
  by_cases a:IsN c x.From<;>by_cases b:IsN c x.To<;>simp[a,b]) (by simp only[H0];rw[if_neg (by omega)])
 have L2:=Dz (f:=fun s=>Hv c t t.Bursts (t.Bursts.length:Int) s) t.Bursts (fun s=>IsN c s.Node) (fun k x hk hx=>by
  simp only[Hv]
  rw[if_pos (by omega),Ak hx,zbs,O9,zbs,wrI rfl (by omega)]
  by_cases a:IsN c x.Node<;>simp[a]) (by simp only[Hv];rw[if_neg (by omega)])
 have L3:=Dz (f:=fun s=>Hu c t.Writes (t.Writes.length:Int) s) t.Writes (fun s=>IsN c s.Node) (fun k x hk hx=>by
  simp only[Hu]
  rw[if_pos (by omega),Ak hx,zbs,O9,zbs,wrI rfl (by omega)]
  by_cases a:IsN c x.Node<;>simp[a]) (by simp only[Hu];rw[if_neg (by omega)])
 unfold T7 Sn S6 Ss Ta
 rw[L0,zbs,L1,L2,L3]
 by_cases a0: ∀s∈t.Sends,IsN c s.From∧IsN c s.To
 ·rw[if_pos a0]
  by_cases a1: ∀s∈t.Strays,IsN c s.From∧IsN c s.To
  ·rw[if_pos a1]
   by_cases a2: ∀s∈t.Bursts,IsN c s.Node
   ·rw[if_pos a2]
    by_cases a3: ∀s∈t.Writes,IsN c s.Node
    ·rw[if_pos a3,decide_eq_true ⟨a0,a1,a2,a3⟩];rfl
    ·rw[if_neg a3,decide_eq_false fun h=>a3 h.2.2.2];rfl
   ·rw[if_neg a2,decide_eq_false fun h=>a2 h.2.2.1];rfl
  ·rw[if_neg a1,decide_eq_false fun h=>a1 h.2.1];rfl
 ·rw[if_neg a0,decide_eq_false fun h=>a0 h.1];rfl
theorem Ad4 (t:Am)(ht:TIn t):Xr t=some (decide (¬Sh t)):=by
 have h1:=ht.s
 have h2:=ht.y
 have h3:=ht.b
 have L0:=Dt (f:=fun s=>I9 t t.Sends (t.Sends.length:Int) s) t.Sends (fun s=>40<(s.Bytes.length:Int)) true (fun k x hk hx=>by
  simp only[I9]
  rw[if_pos (by omega),Ak hx,zbs,wrI rfl (by omega)]
  by_cases a:40<(x.Bytes.length:Int)<;>simp[a]) (by simp only[I9];rw[if_neg (by omega)])
 have L1:=Dt (f:=fun s=>I8 t t.Strays (t.Strays.length:Int) s) t.Strays (fun s=>40<(s.Bytes.length:Int)) true (fun k x hk hx=>by
  simp only[I8]
  rw[if_pos (by omega),Ak hx,zbs,wrI rfl (by omega)]
  by_cases a:40<(x.Bytes.length:Int)<;>simp[a]) (by simp only[I8];rw[if_neg (by omega)])
 have L2:=Dt (f:=fun s=>Iq t.Bursts (t.Bursts.length:Int) s) t.Bursts (fun s=>8000<(s.Image.length:Int)) true (fun k x hk hx=>by
  simp only[Iq]
  rw[if_pos (by omega),Ak hx,zbs,wrI rfl (by omega)]
  by_cases a:8000<(x.Image.length:Int)<;>simp[a]) (by simp only[Iq];rw[if_neg (by omega)])
 unfold Xr V7 U3 Vr
 rw[L0,zbs,L1,L2]
 by_cases a0: ∃s∈t.Sends,40<(s.Bytes.length:Int)
 ·rw[if_pos a0,decide_eq_true (by obtain⟨s,h5,h6⟩:=a0;exact fun h=>absurd (h.1 s h5) (by omega))];rfl
 ·rw[if_neg a0]
  by_cases a1: ∃s∈t.Strays,40<(s.Bytes.length:Int)
  ·rw[if_pos a1,decide_eq_true (by obtain⟨s,h5,h6⟩:=a1;exact fun h=>absurd (h.2.1 s h5) (by omega))];rfl
  ·rw[if_neg a1]
   by_cases a2: ∃s∈t.Bursts,8000<(s.Image.length:Int)
   ·rw[if_pos a2,decide_eq_true (by obtain⟨s,h5,h6⟩:=a2;exact fun h=>absurd (h.2.2 s h5) (by omega))];rfl
   ·rw[if_neg a2,decide_eq_false (fun h=>h ⟨fun s hs=>Int.not_lt.1 fun hh=>a0 ⟨s,hs,hh⟩,fun s hs=>Int.not_lt.1 fun hh=>a1 ⟨s,hs,hh⟩,fun s hs=>Int.not_lt.1 fun hh=>a2 ⟨s,hs,hh⟩⟩)];rfl
theorem Adc (c:Ab)(t:Am)(ht:TIn t):W5 c t=some (bS c t):=by
 have h1:=ht.s
 have h2:=ht.y
 have h4:=ht.w
 have L:=Dt (f:=fun s=>I4 t.Writes (t.Writes.length:Int) s) t.Writes (fun s=>16<(s.Text.length:Int)) (15:Int) (fun k x hk hx=>by
  simp only[I4]
  rw[if_pos (by omega),Ak hx,zbs,wrI rfl (by omega)]
  by_cases a:16<(x.Text.length:Int)<;>simp[a]) (by simp only[I4];rw[if_neg (by omega)])
 have hw:Ns (t.Sends.map Ay.Delay++t.Strays.map Ay.Delay) ((t.Sends.length:Int)+(t.Strays.length:Int))↔(∀s∈t.Sends,0≤s.Delay∧s.Delay≤65535)∧(∀s∈t.Strays,0≤s.Delay∧s.Delay≤65535):=by
  unfold Ns
  simp only[List.length_append,List.length_map,List.mem_append,List.mem_map]
  constructor
  ·rintro⟨-,h⟩
   exact⟨fun s hs=>h _ (.inl ⟨s,hs,rfl⟩),fun s hs=>h _ (.inr ⟨s,hs,rfl⟩)⟩
  ·rintro⟨ha,hb⟩
   refine⟨by omega,?_⟩
   rintro x (⟨s,hs,rfl⟩|⟨s,hs,rfl⟩)
   ·exact ha s hs
   ·exact hb s hs
 unfold W5 bS U7
 rw[Xc _ _ (by have:=ht.u;omega),Xc _ _ (by have:=ht.d;omega),yK t ht,wrI (n:=(t.Sends.length:Int)+(t.Strays.length:Int)) rfl (by omega)]
 simp only[zbs]
 rw[Xc _ _ (by simp;omega),xV c t ht,Ad4 t ht,L]
 simp only[zbs,Bool.not_eq_true',decide_eq_false_iff_not,decide_eq_true_eq]
 by_cases a1:Ns t.Units c.N
 ·rw[if_neg (not_not_intro a1),if_neg (not_not_intro a1)]
  by_cases a2:Ns t.Delays (wr (c.N*c.N))
  ·rw[if_neg (not_not_intro a2),if_neg (not_not_intro a2)]
   by_cases a3: ∀s∈t.Sends,0≤s.Delay∧s.Delay≤65535
   ·by_cases a4: ∀s∈t.Strays,0≤s.Delay∧s.Delay≤65535
    ·rw[if_neg (not_not_intro (hw.2 ⟨a3,a4⟩)),if_neg (not_not_intro a3),if_neg (not_not_intro a4)]
     by_cases a5:Fl t
     ·rw[if_pos a5]
      unfold Fl at a5
      iterate 4 (split;· rfl)
      exfalso;omega
     ·rw[if_neg a5]
      unfold Fl at a5
      iterate 4 (split;· exfalso;omega)
      by_cases a6:Nm c t
      ·rw[if_neg (not_not_intro a6),if_neg (not_not_intro a6)]
       by_cases a7:Sh t
       ·rw[if_neg (not_not_intro a7),if_neg (not_not_intro a7)]
        by_cases a8: ∃s∈t.Writes,16<(s.Text.length:Int)
        ·rw[if_pos a8,if_pos (show¬∀w∈t.Writes,(w.Text.length:Int)≤16 from by obtain⟨s,h5,h6⟩:=a8;exact fun h=>absurd (h s h5) (by omega))];rfl
        ·have a9: ∀w∈t.Writes,(w.Text.length:Int)≤16:=fun s hs=>Int.not_lt.1 fun hh=>a8 ⟨s,hs,hh⟩
         rw[if_neg a8,if_neg (not_not_intro a9)];rfl
       ·rw[if_pos a7,if_pos a7]
      ·rw[if_pos a6,if_pos a6]
    ·have n: ¬Ns (t.Sends.map Ay.Delay++t.Strays.map Ay.Delay) ((t.Sends.length:Int)+(t.Strays.length:Int)):=fun h=>a4 (hw.1 h).2
     rw[if_pos n,if_neg (not_not_intro a3),if_pos a4]
   ·have n: ¬Ns (t.Sends.map Ay.Delay++t.Strays.map Ay.Delay) ((t.Sends.length:Int)+(t.Strays.length:Int)):=fun h=>a3 (hw.1 h).1
    rw[if_pos n,if_pos a3]
  ·rw[if_pos a2,if_pos a2]
 ·rw[if_pos a1,if_pos a1]
theorem bQ (c:Ab)(l:List Int):(∃k,k<l.length∧∃x,l[k]? =some x∧¬(IsN c x∧x∉l.take k))↔¬Fc c l:=by
 unfold Fc
 constructor
 ·rintro⟨k,hk,x,hx,h⟩ hh
  exact h (hh k x hx)
 ·intro h
  obtain⟨k,h⟩:=Classical.not_forall.1 h
  obtain⟨x,h⟩:=Classical.not_forall.1 h
  obtain⟨hx,h⟩:=Classical.not_imp.1 h
  exact⟨k,(List.getElem?_eq_some_iff.1 hx).1,x,hx,h⟩
theorem Qv (s:Aa)(h:SIn s):G2 s=some (E6 s):=by
 classical
 have f1:=h.f
 have f2:=h.t
 have LF:=Yj (f:=fun i=>Dm s s.Faulty (s.Faulty.length:Int) i) s.Faulty.length (fun k=> ∃x,s.Faulty[k]? =some x∧¬(IsN s.Conf x∧x∉s.Faulty.take k)) false (fun k hk=>by
  simp only[Dm]
  have hx:=zge hk
  rw[if_pos (by omega),Ak hx,zbs,eW,zbs,if_pos (show 0≤(k:Int)∧(k:Int)≤(s.Faulty.length:Nat) by omega),Int.toNat_natCast,Sw _ _ (by simp;omega),zbs,wrI rfl (by omega),hx]
  simp only[zsi,exists_eq_left']
  by_cases a:IsN s.Conf s.Faulty[k]<;>by_cases b:s.Faulty[k]∈s.Faulty.take k<;>simp[a,b]) (by simp only[Dm];rw[if_neg (by omega)])
 have LT:=Yd (fun i=>E1 s s.Ticks (s.Ticks.length:Int) i) s.Ticks (bS s.Conf) (fun k x hk hx=>by
  simp only[E1]
  rw[if_pos (by omega),Ak hx,zbs,Ap8 _ _ (h.tt x (List.mem_of_getElem? hx)),zbs,wrI rfl (by omega)]
  split<;>rfl) (by simp only[E1];rw[if_neg (by omega)])
 unfold G2 E6
 rw[tX _ h.conf,zbs]
 by_cases h0:Tc s.Conf≠0
 ·rw[if_pos h0,if_pos h0]
 ·rw[if_neg h0,if_neg h0]
  unfold Ph P5
  rw[LF,Ad5 _ h.i]
  by_cases h1:Fc s.Conf s.Faulty
  ·rw[if_neg (fun hh=>(bQ _ _).1 hh h1),if_neg (not_not_intro h1)]
   rw[zbs,Sum.elim_inr,zbs,if_neg (show¬(!true)=true by decide)]
   split
   ·rfl
   ·split
    ·rfl
    ·rw[zbs]
     by_cases h2: ∀i∈s.Images,(i.length:Int)≤8000
     ·rw[decide_eq_true h2,if_neg (by decide),if_neg (fun hh=>hh h2)]
      unfold My
      rw[LT]
      by_cases h3:Hp (s.Ticks.map (bS s.Conf))=0
      ·rw[if_neg (fun hh=>hh h3),h3];rfl
      ·rw[if_pos h3];rfl
     ·rw[decide_eq_false h2,if_pos (show(!false)=true from rfl),if_pos h2]
  ·rw[if_pos ((bQ _ _).2 h1),if_pos h1]
   rfl
theorem Yz (s:Aa)(h:SIn s):Ku s=some (E6 s):=by
 classical
 have f1:=h.f
 have f2:=h.t
 have f3:=h.i
 have LF:=Yj (f:=fun i=>Fr s i) s.Faulty.length (fun k=> ∃x,s.Faulty[k]? =some x∧¬(IsN s.Conf x∧x∉s.Faulty.take k)) (7:Int) (fun k hk=>by
  simp only[Fr]
  have hx:=zge hk
  rw[if_pos (by omega),Ak hx,zbs,O9,zbs,if_pos (show 0≤(k:Int)∧(k:Int)≤(s.Faulty.length:Nat) by omega),zbs,Int.toNat_natCast,Ak6 _ _ (by simp;omega),zbs,wrI rfl (by omega),hx]
  simp only[zsi,exists_eq_left']
  by_cases a:IsN s.Conf s.Faulty[k]<;>by_cases b:s.Faulty[k]∈s.Faulty.take k<;>simp[a,b]) (by simp only[Fr];rw[if_neg (by omega)])
 have LI:=Dt (f:=fun i=>H1 s i) s.Images (fun i=>8000<(i.length:Int)) (6:Int) (fun k x hk hx=>by
  simp only[H1]
  rw[if_pos (by omega),Ak hx,zbs,wrI rfl (by omega)]
  by_cases a:8000<(x.length:Int)<;>simp[a]) (by simp only[H1];rw[if_neg (by omega)])
 have LT:=Yd (fun i=>Ib s i) s.Ticks (bS s.Conf) (fun k x hk hx=>by
  simp only[Ib]
  rw[if_pos (by omega),Ak hx,zbs,Adc _ _ (h.tt x (List.mem_of_getElem? hx)),zbs,wrI rfl (by omega)]
  split<;>rfl) (by simp only[Ib];rw[if_neg (by omega)])
 unfold Ku E6
 rw[Aca _ h.conf,zbs]
 by_cases h0:Tc s.Conf≠0
 ·rw[if_pos h0,if_pos h0];rfl
 ·rw[if_neg h0,if_neg h0]
  unfold W9 Sk Sz
  rw[LF,LI,LT]
  by_cases h1:Fc s.Conf s.Faulty
  ·rw[if_neg (fun hh=>(bQ _ _).1 hh h1),if_neg (not_not_intro h1)]
   rw[zbs,Sum.elim_inr]
   split
   ·rfl
   ·split
    ·rfl
    ·rw[zbs]
     by_cases h2: ∃i∈s.Images,8000<(i.length:Int)
     ·have h5: ¬∀i∈s.Images,(i.length:Int)≤8000:=by obtain⟨x,h5,h6⟩:=h2;exact fun hh=>absurd (hh x h5) (by omega)
      rw[if_pos h2,if_pos h5];rfl
     ·have h5: ∀i∈s.Images,(i.length:Int)≤8000:=fun x hx=>Int.not_lt.1 fun h9=>h2 ⟨x,hx,h9⟩
      rw[if_neg h2,if_neg (not_not_intro h5),Sum.elim_inr,zbs]
      by_cases h3:Hp (s.Ticks.map (bS s.Conf))=0
      ·rw[if_neg (not_not_intro h3),h3];rfl
      ·rw[if_pos h3];rfl
  ·rw[if_pos ((bQ _ _).2 h1),if_pos h1]
   rfl
def Pp (c:Ab):Int:=3*(c.F+1)*c.D
theorem M3 (c:Ab)(hp:Pl c):3≤Pp c∧Pp c≤60:=by
 obtain⟨⟨_,_,f0,f4,_⟩,⟨d0,d4⟩,_⟩:=hp
 unfold Pp
 have h1:3*(c.F+1)*c.D≤15*4:=Int.mul_le_mul (by omega) d4 (by omega) (by omega)
 have h2:3*1≤3*(c.F+1)*c.D:=Int.mul_le_mul (by omega) d0 (by omega) (by omega)
 omega
theorem Tu (c:Ab)(hc:CIn c)(hp:Pl c):Hb c=some (Pp c):=by
 have hl:=M3 c hp
 have h0:=(A7 c).2 hp
 obtain⟨⟨_,_,f0,f4,_⟩,⟨d0,d4⟩,_⟩:=hp
 unfold Hb S2
 rw[Ch c hc,zbs,h0,if_neg (by decide),wrM (n:=c.F+1) (by omega) (by omega),wrM (n:=3*(c.F+1)) (by omega) (by omega),zbs]
 rw[show max c.D 0=c.D by omega]
 unfold Pp at hl ⊢
 rw[wrM (by omega) (by omega)]
theorem aC (c:Ab)(hc:CIn c)(hp:Pl c):Kf c=some (Pp c):=by
 have hl:=M3 c hp
 have h0:=(A7 c).2 hp
 obtain⟨⟨_,_,f0,f4,_⟩,⟨d0,d4⟩,_⟩:=hp
 unfold Kf
 rw[Ce c hc,zbs,h0,if_neg (by decide),wrM (n:=c.F+1) (by omega) (by omega),wrM (n:=3*(c.F+1)) (by omega) (by omega)]
 unfold Pp at hl ⊢
 rw[wrM (by omega) (by omega)]
theorem oU (c:Ab)(hc:CIn c)(hp:Pl c):Mm c=some (8+c.N):=by
 have h0:=(A7 c).2 hp
 obtain⟨⟨_,_,f0,f4,_⟩,⟨d0,d4⟩,_⟩:=hp
 unfold Mm
 rw[Ch c hc,zbs,h0,if_neg (by decide),wrM (by omega) (by omega)]
theorem tI (c:Ab)(hc:CIn c)(hp:Pl c):Pi c=some (8+c.N):=by
 have h0:=(A7 c).2 hp
 obtain⟨⟨_,_,f0,f4,_⟩,⟨d0,d4⟩,_⟩:=hp
 unfold Pi
 rw[Ce c hc,zbs,h0,if_neg (by decide),wrM (by omega) (by omega)]
theorem qU (n b:Int)(hb:1≤b)(hb':b≤9223372036854775807):Jp n b=some (n%b):=by
 unfold Jp
 rw[if_neg (by omega),if_neg (by omega)]
 have h1:Int.tmod n b=n%b∨(Int.tmod n b<0∧Int.tmod n b+b=n%b):=by
  have:=Int.tmod_eq_emod (a:=n) (b:=b)
  have h2:=Int.emod_nonneg n (show b≠0 by omega)
  have h3:=Int.emod_lt_of_pos n (show 0<b by omega)
  split at this
  ·exact .inl (by simpa using this)
  ·exact .inr ⟨by omega,by omega⟩
 have h2:=Int.emod_nonneg n (show b≠0 by omega)
 have h3:=Int.emod_lt_of_pos n (show 0<b by omega)
 rcases h1 with h|⟨h,h'⟩
 ·rw[if_neg (by omega),h]
 ·rw[if_pos h,wrM (by omega) (by omega),h']
theorem oC (n b:Int)(hb:1≤b)(hb':b≤9223372036854775807):Kr n b=some (n%b):=qU n b hb hb'
theorem xP (n:Int):Ri n=some (n%65536):=by
 unfold Ri aJ
 rw[qU _ _ (by omega) (by omega)];rfl
theorem oL (n:Int):V8 n=some (n%65536):=by
 unfold V8
 rw[oC _ _ (by omega) (by omega)];rfl
def Jg (n a b:Int):Int:=if n<a then a else if b<a then a else min n b
theorem Rb (n a b:Int):Fo n a b=some (Jg n a b):=by
 unfold Fo Jg
 split
 ·rfl
 ·split
  ·rfl
  ·split
   ·rw[Int.min_def];split<;>first|rfl|(congr 1;omega)
   ·rw[Int.min_def];split<;>first|rfl|(congr 1;omega)
theorem N8 (n a b:Int):Dk n a b=some (Jg n a b):=by
 unfold Dk Jg
 split
 ·rfl
 ·split<;>rfl
theorem bG (n a b:Int)(h:a≤n)(h':n≤b):Jg n a b=n:=by unfold Jg;omega
def Ajk (d:Ar6 Int):Ar6 Int:=⟨Jg d.a0 0 65535,Jg d.a1 0 65535,Jg d.a2 0 65535,Jg d.a3 0 65535,Jg d.a4 0 65535,Jg d.a5 0 65535⟩
theorem Aqp (d:Ar6 Int):Rn d=some (Ajk d):=by
 unfold Rn Hl Jk
 have st: ∀(k:Nat) (x e e':Ar6 Int) (z:Int),k<6→d.get? k=some z→e.set? k (Jg z 0 65535)=some e'→
  Bz d x (k:Int) e=some (.inl (((k+1:Nat):Int),e')):=by
  intro k x e e' z hk h1 h2
  simp only[Bz]
  rw[if_pos (by omega),if_pos (by omega),Int.toNat_natCast,show(Ar6.mk d.a0 d.a1 d.a2 d.a3 d.a4 d.a5)=d from rfl,h1,zbs,Rb,zbs,if_pos (by omega),h2,zbs,wrM (by omega) (by omega)]
  rfl
 rw[A5 (st 0 _ _ _ _ (by decide) rfl rfl),A5 (st 1 _ _ _ _ (by decide) rfl rfl),A5 (st 2 _ _ _ _ (by decide) rfl rfl),A5 (st 3 _ _ _ _ (by decide) rfl rfl),
  A5 (st 4 _ _ _ _ (by decide) rfl rfl),A5 (st 5 _ _ _ _ (by decide) rfl rfl),Av (by simp only[Bz];rw[if_neg (by omega)])]
 rfl
theorem Amd (d:Ar6 Int):Tw d=some (Ajk d):=by
 unfold Tw W0
 have st: ∀(k:Nat) (x e e':Ar6 Int) (z:Int),k<6→e.get? k=some z→e.set? k (Jg z 0 65535)=some e'→
  Ff x (k:Int) e=some (.inl (((k+1:Nat):Int),e')):=by
  intro k x e e' z hk h1 h2
  simp only[Ff]
  rw[if_pos (by omega),if_pos (by omega),Int.toNat_natCast,show(Ar6.mk e.a0 e.a1 e.a2 e.a3 e.a4 e.a5)=e from rfl,h1,zbs,N8,zbs,if_pos (by omega),h2,zbs,wrM (by omega) (by omega)]
  rfl
 rw[A5 (st 0 _ _ _ _ (by decide) rfl rfl),A5 (st 1 _ _ _ _ (by decide) rfl rfl),A5 (st 2 _ _ _ _ (by decide) rfl rfl),A5 (st 3 _ _ _ _ (by decide) rfl rfl),
  A5 (st 4 _ _ _ _ (by decide) rfl rfl),A5 (st 5 _ _ _ _ (by decide) rfl rfl),Av (by simp only[Ff];rw[if_neg (by omega)])]
 rfl
theorem Vt (s:List UInt8)(n:Int)(hn:0≤n):Qu s n=some (s.take n.toNat):=by
 unfold Qu
 rw[if_pos (by omega)]
 congr 1
 by_cases h:(s.length:Int)≤n
 ·rw[show min (s.length:Int) n=s.length by omega,Int.toNat_natCast,List.take_length,List.take_of_length_le (by omega)]
 ·rw[show min (s.length:Int) n=n by omega]
theorem gI (s:List UInt8)(n:Int)(hn:0≤n):V2 s n=some (s.take n.toNat):=Vt s n hn
def dg (last:Int)(b:UInt8):UInt8:=if(b.toNat:Int)<48 then 48 else if last<(b.toNat:Int)then 48 else b
theorem mA (s:List UInt8)(last:Int)(hs:s.length≤Ar):Om s last=some (s.map (dg last)):=by
 unfold Om
 have hs':s.length≤4294967296:=hs
 have hlen:(Hf s).length=s.length:=by simp[Hf]
 have e:=Ry (f:=fun p:Int×List Int=>Em last s.length s.length (s.length:Nat) p.1 p.2) (Hf s) (fun k=>match s[k]? with|some b=>((dg last b).toNat:Int)|none=>0) (fun k pre post x hk hpre hx=> ?_) (fun l'=> ?_)
 rotate_left
 ·rw[hlen]at hk
  have hg:=zge hk
  have hx':x=(s[k].toNat:Int):=by
   simp only[Hf,List.getElem?_map,hg,Option.map_some,zsi]at hx
   exact hx.symm
  simp only[Em]
  rw[if_pos (by omega),if_pos (by omega),Int.toNat_natCast]
  have h1:(pre++x::post)[k]? =some x:=by rw[←hpre];simp
  rw[h1,zbs,O6 _ _ _ _ _ hpre,hg,hx',wrM (n:=(k:Int)+1) (by omega) (by omega)]
  by_cases c1:(s[k].toNat:Int)<48
  ·rw[if_pos c1,if_pos (by omega),zbs]
   simp only[dg,c1,if_true];rfl
  ·rw[if_neg c1]
   by_cases c2:last<(s[k].toNat:Int)
   ·rw[if_pos c2,if_pos (by omega),zbs]
    simp only[dg,c1,c2,if_true,if_false];rfl
   ·rw[if_neg c2]
    simp only[dg,c1,c2,if_false]
 ·rw[hlen]
  simp only[Em]
  rw[if_neg (by omega)]
 have e':Vp last s.length s.length ((s.length:Nat):Int) 0 (Hf s)=some ((List.range s.length).map (fun k=>match s[k]? with|some b=>((dg last b).toNat:Int)|none=>0)):=by
  rw[←hlen]
  rw[hlen]
  rw[hlen]at e
  exact e
 rw[if_pos hs,e',zbs,O7 _ _ (by simp),zbs]
 congr 1
 unfold Pg
 apply List.ext_getElem
 ·simp
 ·intro k h1 h2
  have hk:k<s.length:=by simpa using h2
  simp[zge hk]
def dR (s:List UInt8)(last:Int)(k:Nat):UInt8:=match s[k]? with|some b=>dg last b|none=>48
theorem Xd {α:Type}(g:Nat→α): ∀n,(List.range n).flatMap (fun k=>[g k])=(List.range n).map g
 |0=>rfl
 |n+1=>by rw[List.range_succ,List.flatMap_append,List.map_append,Xd g n];rfl
theorem iB (s:List UInt8)(n last:Int)(hn:0≤n)(hn':n≤4294967296):Og s n last=some ((List.range n.toNat).map (dR s last)):=by
 unfold Og V0
 have e:=L9 (f:=fun p:List UInt8×Int=>Ep s n last p.1 p.2) n.toNat (fun k=>[dR s last k]) (fun k hk=> ?_) ?_
 ·rw[e,zbs,Xd]
 ·have hl:=Lm (fun k=>[dR s last k]) 1 (fun _=>by simp) k
  generalize (List.range k).flatMap (fun k=>[dR s last k])=out at hl
  simp only[Ep]
  rw[if_pos (by omega),wrM (n:=(k:Int)+1) (by omega) (by omega)]
  have g48:List.length out+List.length ([48]:List UInt8)≤9223372036854775807:=by simp only[List.length_cons,List.length_nil];omega
  by_cases h1:(k:Int)<s.length
  ·have hk':k<s.length:=by omega
   have hg:=zge hk'
   rw[if_pos h1,Ak hg,zbs]
   by_cases h2:48≤(s[k].toNat:Int)
   ·rw[if_pos h2,zbs]
    by_cases h3:(s[k].toNat:Int)≤last
    ·have hd:List.drop (Int.toNat (k:Int)) (List.take (Int.toNat ((k:Int)+1)) s)=[s[k]]:=by
      rw[Int.toNat_natCast,show((k:Int)+1).toNat=k+1 by omega,List.take_add_one,hg,List.drop_append_of_le_length (by simp;omega)]
      simp
     rw[if_pos h3,if_pos (by omega),if_pos (by omega),hd,if_pos (show out.length+ [s[k]].length≤9223372036854775807 from g48)]
     simp only[dR,hg,dg]
     rw[if_neg (by omega),if_neg (by omega)]
    ·rw[if_neg h3,if_pos g48]
     simp only[dR,hg,dg]
     rw[if_neg (by omega),if_pos (by omega)]
   ·rw[if_neg h2,if_pos g48]
    simp only[dR,hg,dg]
    rw[if_pos (by omega)]
  ·rw[if_neg h1,if_pos g48]
   simp only[dR]
   rw[List.getElem?_eq_none (by omega)]
 ·simp only[Ep]
  rw[if_neg (by omega)]
theorem Ad9 (s:List UInt8)(f:UInt8→UInt8)(last:Int):s.map (dg last)=(List.range s.length).map (dR s last):=by
 apply List.ext_getElem
 ·simp
 ·intro k h1 h2
  have hk:k<s.length:=by simpa using h1
  simp[dR,zge hk]
def Aea (s:List UInt8)(n last:Int):List UInt8:=if(s.length:Int)≠n then []else s.map (dg last)
theorem Al6 (s:List UInt8)(n last:Int)(hn:n≤4294967296):Y2 s n last=some (Aea s n last):=by
 unfold Y2 Aea
 split
 ·rfl
 ·rw[mA s last (by show s.length≤4294967296;omega)];rfl
theorem Abb (s:List UInt8)(n last:Int)(hn:n≤4294967296):Yk s n last=some (Aea s n last):=by
 unfold Yk Aea
 split
 ·rfl
 ·rename_i h
  have:(s.length:Int)=n:=Classical.not_not.1 h
  subst this
  rw[iB s _ last (by omega) (by omega),Int.toNat_natCast,Ad9 s id];rfl
theorem Auz (L:Nat):Lib.repeatL ([48]:List UInt8) L=List.replicate L 48:=by
 induction L with
 |zero=>rfl
 |succ n ih=>rw[Lib.repeatL,ih];rfl
theorem Ahh (c:Ab)(hc:CIn c)(hp:Pl c):R9 c=some (List.replicate (Pp c).toNat 48):=by
 have hl:=M3 c hp
 unfold R9
 rw[Tu c hc hp,zbs]
 unfold strings_Repeat
 rw[if_pos ⟨by omega,by omega,by simp only[List.length_cons,List.length_nil];omega⟩,Auz];rfl
def Avo (c:Ab)(s:List UInt8):List UInt8:=(List.range (Pp c).toNat).map (dR s 53)
theorem Apk (s:List UInt8)(L:Nat):((s++List.replicate L 48).take L).map (dg 53)=(List.range L).map (dR s 53):=by
 apply List.ext_getElem
 ·simp
 ·intro k h1 h2
  have hk:k<L:=by simpa using h2
  simp only[List.getElem_map,List.getElem_take,List.getElem_range,dR]
  by_cases h:k<s.length
  ·rw[List.getElem_append_left h,zge h]
  ·rw[List.getElem_append_right (by omega),List.getElem?_eq_none (by omega),List.getElem_replicate]
   decide
def P7 (s:List UInt8)(k:Nat):UInt8:=if s[k]? =some 49 then 49 else 48
def eO (s:List UInt8)(n:Int):List UInt8:=(List.range n.toNat).map (P7 s)
theorem qJ (v:Int):Au [] v=some false:=by
 unfold Au Bp Bn
 rw[Av (r:=.inr ()) (by simp only[A9];rw[if_neg (by simp)])]
 rfl
theorem At7 (v:Int):Ka [] v=some false:=by
 unfold Ka Yc
 rw[Av (r:=.inr ()) (by simp only[Jc];rw[if_neg (by simp)])]
 rfl
theorem fY (s:List UInt8)(n:Int)(hn:0≤n)(hn':n≤64):Kt s n []=some (eO s n):=by
 unfold Kt eO
 rw[Rb,bG n 0 64 hn hn',zbs,if_pos ⟨hn,by show n≤4294967296;omega⟩]
 have e:=Ry (f:=fun p:Int×List Int=>Cz s [] n.toNat (n.toNat:Nat) p.1 p.2) (List.replicate n.toNat 0) (fun k=>((P7 s k).toNat:Int)) (fun k pre post x hk hpre hx=> ?_) (fun l'=> ?_)
 rotate_left
 ·rw[List.length_replicate]at hk
  simp only[Cz]
  rw[if_pos (by omega),if_pos (by omega),Int.toNat_natCast,O6 _ _ _ _ _ hpre,zbs,wrM (n:=(k:Int)+1) (by omega) (by omega),qJ,O6 _ _ _ _ _ hpre]
  by_cases h1:(k:Int)<s.length
  ·have hk':k<s.length:=by omega
   have hg:=zge hk'
   rw[if_pos h1,Ak hg,zbs]
   by_cases h2:(s[k].toNat:Int)=49
   ·rw[if_pos h2,if_pos (by omega)]
    have:s[k]=49:=UInt8.toNat_inj.1 (by simpa using Int.ofNat_inj.1 h2)
    simp only[P7,hg,this,if_true];rfl
   ·rw[if_neg h2]
    have: ¬s[k]=49:=fun e=>h2 (by rw[e];rfl)
    simp only[P7,hg,zsi,this,if_false];rfl
  ·rw[if_neg h1]
   simp only[P7]
   rw[List.getElem?_eq_none (by omega)]
   rfl
 ·rw[List.length_replicate]
  simp only[Cz]
  rw[if_neg (by omega)]
 rw[List.length_replicate]at e
 have e':S7 s [] n.toNat ((n.toNat:Nat):Int) 0 (List.replicate n.toNat 0)=some ((List.range n.toNat).map (fun k=>((P7 s k).toNat:Int))):=e
 rw[e',zbs,O7 _ _ (by simp),zbs]
 congr 1
 unfold Pg
 rw[List.map_map]
 apply List.map_congr_left
 intro k _
 simp
theorem bR (s:List UInt8)(n:Int)(hn:0≤n)(hn':n≤64):Rr s n []=some (eO s n):=by
 unfold Rr Vo eO
 have e:=L9 (f:=fun p:List UInt8×Int=>I6 s n [] p.1 p.2) n.toNat (fun k=>[P7 s k]) (fun k hk=> ?_) ?_
 ·rw[e,zbs,Xd]
 ·have hl:=Lm (fun k=>[P7 s k]) 1 (fun _=>by simp) k
  generalize (List.range k).flatMap (fun k=>[P7 s k])=out at hl
  simp only[I6]
  have g48:List.length out+List.length ([48]:List UInt8)≤9223372036854775807:=by simp only[List.length_cons,List.length_nil];omega
  have g49:List.length out+List.length ([49]:List UInt8)≤9223372036854775807:=by simp only[List.length_cons,List.length_nil];omega
  rw[N8,bG n 0 64 hn hn',zbs,if_pos (by omega),wrM (n:=(k:Int)+1) (by omega) (by omega),At7]
  unfold Y7
  rw[if_pos (by omega)]
  by_cases h1:(k:Int)<s.length
  ·have hk':k<s.length:=by omega
   have hg:=zge hk'
   rw[if_pos h1,Ak hg,zbs,zbs]
   by_cases h2:(s[k].toNat:Int)=49
   ·rw[decide_eq_true h2,if_pos rfl,if_pos g49]
    have:s[k]=49:=UInt8.toNat_inj.1 (by simpa using Int.ofNat_inj.1 h2)
    simp only[P7,hg,this,if_true]
   ·rw[decide_eq_false h2,if_neg (by decide),zbs,if_neg (by decide),if_pos g48]
    have: ¬s[k]=49:=fun e=>h2 (by rw[e];rfl)
    simp only[P7,hg,zsi,this,if_false]
  ·rw[if_neg h1,zbs,if_neg (by decide),zbs,if_neg (by decide),if_pos g48]
   simp only[P7]
   rw[List.getElem?_eq_none (by omega)]
   rfl
 ·simp only[I6]
  rw[N8,bG n 0 64 hn hn',zbs,if_neg (by omega)]
def eT (c:Ab)(p:Aj):Aj:=⟨p.Text.take 16,p.Cycle%c.Mod,Jg p.Age 0 c.Fresh⟩
def gZ (c:Ab)(l:List Aj):List Aj:=if(l.length:Int)≠c.N then List.replicate c.N.toNat ⟨[],0,c.Fresh⟩else l.map (eT c)
def sU (c:Ab)(l:List (List UInt8)):List (List UInt8):=if(l.length:Int)≠c.N*c.D then List.replicate (c.N*c.D).toNat []else l.map (List.take 40)
def jU (c:Ab)(e:Al):List Al:=if 0≤e.From∧e.From<c.N then [⟨e.From,e.At%65536⟩]else []
def kG (c:Ab)(l:List Al):List Al:=(l.drop (l.length-64)).flatMap (jU c)
theorem vA (c:Ab)(e:Al):(jU c e).length≤1:=by unfold jU;split<;>simp
theorem Qg (c:Ab)(hp:Pl c):4≤c.N∧c.N≤13∧1≤c.D∧c.D≤4∧2≤c.Mod∧c.Mod≤250∧1≤c.Fresh∧c.Fresh≤100∧4≤c.N*c.D∧c.N*c.D≤52∧1≤c.Period∧c.Period≤400∧1≤c.Table.length∧c.Table.length≤32:=by
 have hl:=M3 c hp
 obtain⟨⟨n0,n1,f0,f4,_⟩,⟨d0,d4⟩,⟨p1,p2,_,_,_,_,_,_,_,_,m0,m1,r0,r1⟩,⟨t0,t1,_⟩⟩:=hp
 have h1:c.N*c.D≤13*4:=Int.mul_le_mul n1 d4 (by omega) (by omega)
 have h2:4*1≤c.N*c.D:=Int.mul_le_mul n0 d0 (by omega) (by omega)
 unfold Pp at hl
 have h3:6*(c.F+1)*c.D=2*(3*(c.F+1)*c.D):=by
  rw[show(6:Int)=2*3 by decide,Int.mul_assoc,Int.mul_assoc,Int.mul_assoc]
 refine⟨n0,n1,d0,d4,m0,m1,r0,r1,by omega,by omega,by omega,p2,t0,t1⟩
theorem pV {α:Type}(n:Nat)(x:α):(List.range n).map (fun _=>x)=List.replicate n x:=by
 induction n with
 |zero=>rfl
 |succ n ih=>rw[List.range_succ,List.map_append,ih,List.replicate_succ'];rfl
theorem Acp (c:Ab)(hc:CIn c)(hp:Pl c):R6 c=some (List.replicate c.N.toNat ⟨[],0,c.Fresh⟩):=by
 have h0:=(A7 c).2 hp
 obtain⟨n0,n1,_⟩:=Qg c hp
 unfold R6
 rw[Ch c hc,zbs,h0,if_neg (by decide),if_pos ⟨by omega,by show c.N≤4294967296;omega⟩]
 have e:=Ry (f:=fun p:Int×List Aj=>Eu c c.N.toNat (c.N.toNat:Nat) p.1 p.2) (List.replicate c.N.toNat ⟨[],0,0⟩) (fun k=>⟨[],0,c.Fresh⟩) (fun k pre post x hk hpre hx=> ?_) (fun l'=> ?_)
 rotate_left
 ·rw[List.length_replicate]at hk
  rw[List.getElem?_replicate,if_pos hk]at hx
  cases hx
  simp only[Eu]
  rw[if_pos (by omega),if_pos (by omega),Int.toNat_natCast,O6 _ _ _ _ _ hpre,zbs,wrM (n:=(k:Int)+1) (by omega) (by omega)]
 ·rw[List.length_replicate]
  simp only[Eu]
  rw[if_neg (by omega)]
 rw[List.length_replicate,pV]at e
 have e':Vl c c.N.toNat ((c.N.toNat:Nat):Int) 0 (List.replicate c.N.toNat ⟨[],0,0⟩)=_:=e
 rw[e',zbs,O7 _ _ (by simp)];rfl
theorem xT (c:Ab)(hc:CIn c)(hp:Pl c):Tj c=some (List.replicate c.N.toNat ⟨[],0,c.Fresh⟩):=by
 have h0:=(A7 c).2 hp
 obtain⟨n0,n1,_⟩:=Qg c hp
 unfold Tj
 rw[Ce c hc,zbs,h0,if_neg (by decide)]
 have e:=L9 (f:=fun p:List Aj×Int=>Fg c p.1 p.2) c.N.toNat (fun k=>[⟨[],0,c.Fresh⟩]) (fun k hk=> ?_) ?_
 ·unfold Xk
  rw[e,zbs,Xd,pV]
 ·have hl:=Lm (fun k=>[(⟨[],0,c.Fresh⟩:Aj)]) 1 (fun _=>by simp) k
  generalize (List.range k).flatMap (fun k=>[(⟨[],0,c.Fresh⟩:Aj)])=out at hl
  simp only[Fg]
  rw[if_pos (by omega),if_pos (by show _≤4294967296;simp only[List.length_cons,List.length_nil];omega),wrM (by omega) (by omega)]
 ·simp only[Fg]
  rw[if_neg (by omega)]
theorem Ala (c:Ab)(l:List Aj)(hc:CIn c)(hp:Pl c):Hc l c.N (List.replicate c.N.toNat ⟨[],0,c.Fresh⟩) c=some (gZ c l,c):=by
 obtain⟨n0,n1,_,_,m0,m1,f0,f1,_⟩:=Qg c hp
 unfold Hc gZ
 split
 ·rfl
 ·rename_i hn
  have hn:(l.length:Int)=c.N:=Classical.not_not.1 hn
  unfold Cx
  rw[if_pos (by show _≤4294967296;omega),zbs]
  have: ∀m k:Nat,k+m=l.length→Ai (fun s:Int×Ab×(List Aj)=>Cd l.length l l.length s.1 s.2.1 s.2.2) ((k:Int),c,(l.take k).map (eT c)++l.drop k)=some (c,l.map (eT c)):=by
   intro m
   induction m with
   |zero=>
    intro k hk
    have hk:k=l.length:=by omega
    subst hk
    rw[Av (r:=(c,(l.take l.length).map (eT c)++l.drop l.length)) (by simp only[Cd];rw[if_neg (by omega)])]
    simp
   |succ m ih=>
    intro k hk
    have hlt:k<l.length:=by omega
    have hg:=zge hlt
    rw[List.drop_eq_getElem_cons hlt]
    rw[A5 (t:=(((k+1:Nat):Int),c,(l.take (k+1)).map (eT c)++l.drop (k+1))) ?_,ih (k+1) (by omega)]
    simp only[Cd]
    rw[if_pos (by omega),Ak hg,zbs]
    unfold So
    rw[Vt _ _ (by omega),zbs,qU _ _ (by omega) (by omega),zbs,Rb,zbs,zbs,if_pos (by omega),Int.toNat_natCast,O6 _ _ _ _ _ (by simp;omega),zbs,wrM (by omega) (by omega)]
    rw[List.take_add_one,hg,List.map_append]
    simp[eT]
  have e:=this l.length 0 (by omega)
  have e':K6 l.length l l.length 0 c l=some (c,l.map (eT c)):=by
   have e2:=e
   simp only[List.take_zero,List.map_nil,List.nil_append,List.drop_zero]at e2
   exact e2
  rw[e',zbs,O7 _ _ (by simp)];rfl
theorem Aer (c:Ab)(l:List Aj)(hc:CIn c)(hp:Pl c):Uc c l=some (gZ c l):=by
 obtain⟨n0,n1,_,_,m0,m1,f0,f1,_⟩:=Qg c hp
 unfold Uc gZ
 split
 ·rw[xT c hc hp];rfl
 ·rename_i hn
  have hn:(l.length:Int)=c.N:=Classical.not_not.1 hn
  have e:=Py (f:=fun p:List Aj×Int=>Fj l c p.1 p.2) l (fun x=>[eT c x]) (fun _=>by simp) (fun k x out hk hx ho=> ?_) (fun out=> ?_) l.length 0 [] (by omega) (by simp)
  ·unfold Xe
   rw[show((0:Nat):Int)=0 from rfl]at e
   rw[e,zbs]
   simp[List.flatMap_singleton']
   rw[←List.map_eq_flatMap]
  ·simp only[Fj]
   rw[if_pos (by omega),Ak hx,zbs,gI _ _ (by omega),zbs,zbs,oC _ _ (by omega) (by omega),zbs,zbs,N8,zbs,
    if_pos (by show _≤4294967296;simp only[List.length_cons,List.length_nil];omega),wrM (by omega) (by omega)]
   rfl
  ·simp only[Fj]
   rw[if_neg (by omega)]
theorem Ac9 (c:Ab)(hc:CIn c)(hp:Pl c):Sa c=some (List.replicate (c.N*c.D).toNat []):=by
 have h0:=(A7 c).2 hp
 obtain⟨n0,n1,_,_,m0,m1,f0,f1,a,b,_⟩:=Qg c hp
 unfold Sa Sy
 rw[Ch c hc,zbs,h0,if_neg (by decide),zbs,wrM (by omega) (by omega),if_pos ⟨by omega,by show _≤(4294967296:Int);omega⟩,O7 _ _ (by simp)];rfl
theorem yC (c:Ab)(hc:CIn c)(hp:Pl c):T5 c=some (List.replicate (c.N*c.D).toNat []):=by
 have h0:=(A7 c).2 hp
 obtain⟨n0,n1,_,_,m0,m1,f0,f1,a,b,_⟩:=Qg c hp
 unfold T5
 rw[Ce c hc,zbs,h0,if_neg (by decide)]
 have e:=L9 (f:=fun p:List (List UInt8)×Int=>Fq c p.1 p.2) (c.N*c.D).toNat (fun k=>[([]:List UInt8)]) (fun k hk=> ?_) ?_
 ·unfold Xb
  rw[e,zbs,Xd,pV]
 ·have hl:=Lm (fun k=>[([]:List UInt8)]) 1 (fun _=>by simp) k
  generalize (List.range k).flatMap (fun k=>[([]:List UInt8)])=out at hl
  simp only[Fq]
  rw[wrM (n:=c.N*c.D) (by omega) (by omega),if_pos (by omega),if_pos (by show _≤4294967296;simp only[List.length_cons,List.length_nil];omega),wrM (by omega) (by omega)]
 ·simp only[Fq]
  rw[wrM (n:=c.N*c.D) (by omega) (by omega),if_neg (by omega)]
theorem Aqk (c:Ab)(l:List (List UInt8))(hc:CIn c)(hp:Pl c):Ix l (c.N*c.D) (List.replicate (c.N*c.D).toNat [])=some (sU c l):=by
 obtain⟨n0,n1,_,_,m0,m1,f0,f1,a,b,_⟩:=Qg c hp
 unfold Ix sU
 split
 ·rfl
 ·rename_i hn
  have hn:(l.length:Int)=c.N*c.D:=Classical.not_not.1 hn
  unfold Dv
  rw[if_pos (by show _≤4294967296;omega),zbs]
  have e:=Ry (f:=fun p:Int×List (List UInt8)=>Cy l.length l l.length p.1 p.2) l (fun k=>(l[k]?.getD []).take 40) (fun k pre post x hk hpre hx=> ?_) (fun l'=> ?_)
  rotate_left
  ·simp only[Cy]
   rw[if_pos (by omega),Ak hx,zbs]
   unfold Sv
   rw[Vt _ _ (by omega),zbs,zbs,if_pos (by omega),Int.toNat_natCast,O6 _ _ _ _ _ hpre,zbs,wrM (by omega) (by omega),hx]
   rfl
  ·simp only[Cy]
   rw[if_neg (by omega)]
  have e':Nv l.length l l.length 0 l=_:=e
  rw[e',zbs,O7 _ _ (by simp),zbs]
  congr 1
  apply List.ext_getElem
  ·simp
  ·intro k h1 h2
   have hk:k<l.length:=by simpa using h2
   simp[zge hk]
theorem Ajf {α β:Type}(f:α→β)(l:List α):l.flatMap (fun x=>[f x])=l.map f:=by
 induction l with
 |nil=>rfl
 |cons x l ih=>rw[List.flatMap_cons,ih];rfl
theorem Aka (c:Ab)(l:List (List UInt8))(hc:CIn c)(hp:Pl c):Xv c l=some (sU c l):=by
 obtain⟨n0,n1,_,_,m0,m1,f0,f1,a,b,_⟩:=Qg c hp
 unfold Xv sU
 rw[wrM (n:=c.N*c.D) (by omega) (by omega)]
 split
 ·rw[yC c hc hp];rfl
 ·rename_i hn
  have hn:(l.length:Int)=c.N*c.D:=Classical.not_not.1 hn
  have e:=Py (f:=fun p:List (List UInt8)×Int=>Gu l p.1 p.2) l (fun x=>[List.take 40 x]) (fun _=>by simp) (fun k x out hk hx ho=> ?_) (fun out=> ?_) l.length 0 [] (by omega) (by simp)
  ·unfold Zq
   rw[show((0:Nat):Int)=0 from rfl]at e
   rw[e,zbs,Ajf]
   simp
  ·simp only[Gu]
   rw[if_pos (by omega),Ak hx,zbs,gI _ _ (by omega),zbs,
    if_pos (by show _≤4294967296;simp only[List.length_cons,List.length_nil];omega),wrM (by omega) (by omega)]
   rfl
  ·simp only[Gu]
   rw[if_neg (by omega)]
theorem Akr (c:Ab)(l:List Al)(hl:l.length≤4294967296):Un c l=some (kG c l):=by
 unfold Un kG
 have hm:max 0 (wr ((l.length:Int)-64))=((l.length-64:Nat):Int):=by rw[wrM (by omega) (by omega)];omega
 rw[hm,Int.toNat_natCast,if_pos (by omega)]
 generalize hd:l.drop (l.length-64)=d
 have hdl:d.length≤64:=by rw[←hd,List.length_drop];omega
 have e:=Py (f:=fun p:List Al×Int=>Fh c d d.length p.1 p.2) d (jU c) (vA c) (fun k x out hk hx ho=> ?_) (fun out=> ?_) d.length 0 [] (by omega) (by simp)
 ·unfold Xo
  rw[show((0:Nat):Int)=0 from rfl]at e
  rw[e,zbs]
  simp
 ·simp only[Fh,jU]
  rw[if_pos (by omega),Ak hx,zbs,wrM (n:=(k:Int)+1) (by omega) (by omega)]
  by_cases h1:x.From<0
  ·rw[if_pos h1,if_neg (by omega),List.append_nil]
  ·rw[if_neg h1]
   by_cases h2:c.N≤x.From
   ·rw[if_pos h2,if_neg (by omega),List.append_nil]
   ·rw[if_neg h2,xP,zbs,if_pos (by show _≤4294967296;simp only[List.length_cons,List.length_nil];omega),if_pos (by omega)]
 ·simp only[Fh]
  rw[if_neg (by omega)]
theorem Ab1 (c:Ab)(l:List Al)(hl:l.length≤4294967295):Ut c l=some (kG c l):=by
 unfold Ut kG
 have hm:max 0 (wr ((l.length:Int)-64))=((l.length-64:Nat):Int):=by rw[wrM (by omega) (by omega)];omega
 rw[hm]
 have e:=Py (f:=fun p:List Al×Int=>Fm l c p.1 p.2) l (jU c) (vA c) (fun k x out hk hx ho=> ?_) (fun out=> ?_) (l.length-(l.length-64)) (l.length-64) [] (by omega) (by simp)
 ·unfold Xu
  rw[e,zbs]
  simp
 ·simp only[Fm,jU]
  rw[if_pos (by omega),Ak hx,zbs,zbs,zbs,zbs,wrM (n:=(k:Int)+1) (by omega) (by omega)]
  by_cases h1:0≤x.From
  ·rw[if_pos h1]
   by_cases h2:x.From<c.N
   ·rw[if_pos h2,oL,zbs,if_pos (by show _≤4294967296;simp only[List.length_cons,List.length_nil];omega),if_pos ⟨h1,h2⟩]
   ·rw[if_neg h2,if_neg (by omega),List.append_nil]
  ·rw[if_neg h1,if_neg (by omega),List.append_nil]
 ·simp only[Fm]
  rw[if_neg (by omega)]
def Hj :Aq:=Aq.mk 0 0 0 ([]:List UInt8) 0 ([]:List UInt8) ([]:List UInt8) 0 0 ([]:List UInt8) ([]:List UInt8) ([]:List UInt8) ([]:List UInt8) ([]:List UInt8) ([]:List UInt8) ([]:List Aj) ([]:List (List UInt8)) ([]:List Al) (Ar6.mk 0 0 0 0 0 0)
def mB (c:Ab)(m:Aq):Aq:=
 ⟨m.Clock%65536,m.Anchor%65536,Jg m.Since 0 c.Period,Avo c m.Pipe,Jg m.Age 0 (Pp c),Aea m.Vec (8+c.N) 53,Aea m.Agreed (8+c.N) 49,m.Number%c.Mod,Jg m.Regular 0 2,
  eO m.Members c.N,eO m.Seen c.N,eO m.Heard c.Table.length,eO m.Sent c.Table.length,m.Out.take 16,m.Line.take 16,gZ c m.Ports,sU c m.Hold,kG c m.Log,Ajk m.Diag⟩
structure MIn (m:Aq):Prop where
 pipe:m.Pipe.length≤4294967295
 log:m.Log.length≤4294967295
theorem Apf (c:Ab)(m:Aq)(hc:CIn c)(hp:Pl c)(hm:MIn m):Xj c m=some (mB c m):=by
 have h0:=(A7 c).2 hp
 have hl:=M3 c hp
 obtain⟨n0,n1,d0,d1,m0,m1,f0,f1,a,b,p0,p1,t0,t1⟩:=Qg c hp
 have h1:=hm.pipe
 unfold Xj
 rw[Ch c hc,zbs,h0,if_neg (by decide)]
 unfold Sj
 rw[xP,zbs,xP,zbs,Rb,zbs,Tu c hc hp,zbs,Rb,zbs,qU _ _ (by omega) (by omega),zbs,Rb,zbs,Aqp,zbs,zbs]
 unfold Yx
 simp only[]
 rw[Ahh c hc hp,zbs,if_pos (by rw[List.length_replicate];omega),Tu c hc hp,zbs,Vt _ _ (by omega),zbs,mA _ _ (by show _≤4294967296;rw[List.length_take];omega),zbs,
  oU c hc hp,zbs,Al6 _ _ _ (by omega),zbs,zbs,Al6 _ _ _ (by omega),zbs]
 unfold J9
 rw[fY _ _ (by omega) (by omega),zbs,zbs,fY _ _ (by omega) (by omega),zbs,zbs,fY _ _ (by omega) (by omega),zbs,fY _ _ (by omega) (by omega),zbs,
  Vt _ _ (by omega),zbs,Vt _ _ (by omega),zbs,zbs]
 unfold Yy
 simp only[]
 rw[Acp c hc hp,zbs,Ala c _ hc hp,zbs]
 simp only[]
 rw[Ac9 c hc hp,zbs,wrM (n:=c.N*c.D) (by omega) (by omega),Aqk c _ hc hp,zbs,Akr c _ (by have:=hm.log;omega),zbs,zbs,Apk]
 rfl
theorem Ame (c:Ab)(m:Aq)(hc:CIn c)(hp:Pl c)(hm:MIn m):Tp c m=some (mB c m):=by
 have h0:=(A7 c).2 hp
 have hl:=M3 c hp
 obtain⟨n0,n1,d0,d1,m0,m1,f0,f1,a,b,p0,p1,t0,t1⟩:=Qg c hp
 have h1:=hm.pipe
 unfold Tp
 rw[Ce c hc,zbs,h0,if_neg (by decide)]
 unfold X3
 rw[oL,zbs,oL,zbs,N8,zbs,aC c hc hp,zbs,iB _ _ _ (by omega) (by omega),zbs,zbs,N8,zbs,
  tI c hc hp,zbs,Abb _ _ _ (by omega),zbs,zbs,Abb _ _ _ (by omega),zbs,oC _ _ (by omega) (by omega),zbs,N8,zbs,
  bR _ _ (by omega) (by omega),zbs,zbs,bR _ _ (by omega) (by omega),zbs,zbs,bR _ _ (by omega) (by omega),zbs,bR _ _ (by omega) (by omega),zbs,
  gI _ _ (by omega),zbs,gI _ _ (by omega),zbs,Aer c _ hc hp,zbs,Aka c _ hc hp,zbs,Ab1 c _ (by have:=hm.log;omega),zbs,Amd,zbs]
 rfl
structure LIn (m:Aq):Prop where
 ports:m.Ports.length≤4294967295
 hold:m.Hold.length≤4294967295
 log:m.Log.length≤4294967295
structure Lens (m:Aq):Prop where
 ports:(m.Ports.length:Int)≤9223372036854775807
 hold:(m.Hold.length:Int)≤9223372036854775807
structure Fine (c:Ab)(m:Aq):Prop where
 clock:0≤m.Clock∧m.Clock<65536
 anchor:0≤m.Anchor∧m.Anchor<65536
 since:0≤m.Since∧m.Since≤c.Period
 pipe:(m.Pipe.length:Int)=Pp c∧∀b∈m.Pipe,dg 53 b=b
 age:0≤m.Age∧m.Age≤Pp c
 vec:m.Vec=[]∨(m.Vec.length:Int)=8+c.N∧∀b∈m.Vec,dg 53 b=b
 agreed:m.Agreed=[]∨(m.Agreed.length:Int)=8+c.N∧∀b∈m.Agreed,dg 49 b=b
 number:0≤m.Number∧m.Number<c.Mod
 regular:0≤m.Regular∧m.Regular≤2
 members:(m.Members.length:Int)=c.N∧∀b∈m.Members,b=48∨b=49
 seen:(m.Seen.length:Int)=c.N∧∀b∈m.Seen,b=48∨b=49
 heard:m.Heard.length=c.Table.length∧∀b∈m.Heard,b=48∨b=49
 sent:m.Sent.length=c.Table.length∧∀b∈m.Sent,b=48∨b=49
 out:m.Out.length≤16
 line:m.Line.length≤16
 ports:(m.Ports.length:Int)=c.N∧∀p∈m.Ports,p.Text.length≤16∧(0≤p.Cycle∧p.Cycle<c.Mod)∧0≤p.Age∧p.Age≤c.Fresh
 hold:(m.Hold.length:Int)=c.N*c.D∧∀s∈m.Hold,s.length≤40
 log:m.Log.length≤64∧∀e∈m.Log,(0≤e.From∧e.From<c.N)∧0≤e.At∧e.At<65536
 diag:(0≤m.Diag.a0∧m.Diag.a0≤65535)∧(0≤m.Diag.a1∧m.Diag.a1≤65535)∧(0≤m.Diag.a2∧m.Diag.a2≤65535)∧(0≤m.Diag.a3∧m.Diag.a3≤65535)∧(0≤m.Diag.a4∧m.Diag.a4≤65535)∧(0≤m.Diag.a5∧m.Diag.a5≤65535)
structure Sm (m:Aq):Prop where
 pipe:m.Pipe.length<10000
 ports:m.Ports.length<10000
 hold:m.Hold.length<10000
 log:m.Log.length<10000
theorem Sm.m {m:Aq}(h:Sm m):MIn m:=⟨by have:=h.pipe;omega,by have:=h.log;omega⟩
theorem Sm.l {m:Aq}(h:Sm m):LIn m:=⟨by have:=h.ports;omega,by have:=h.hold;omega,by have:=h.log;omega⟩
theorem Aj.dec {cs:List AV}(h:wfcs [.s,.i .i64,.i .i64] cs): ∃p:Aj,mkE true cs=p.av∧True:=by
 obtain⟨_,_,rfl,h0,h⟩:=Az h
 obtain⟨_,_,rfl,h1,h⟩:=Az h
 obtain⟨_,_,rfl,h2,h⟩:=Az h
 obtain rfl:=Kd h
 obtain⟨x0,rfl,i0⟩:=Xy h0
 obtain⟨x1,rfl,i1⟩:=Cu h1
 obtain⟨x2,rfl,i2⟩:=Cu h2
 exact⟨⟨x0,x1,x2⟩,rfl,trivial⟩
theorem Al.dec {cs:List AV}(h:wfcs [.i .i64,.i .i64] cs): ∃p:Al,mkE true cs=p.av∧True:=by
 obtain⟨_,_,rfl,h0,h⟩:=Az h
 obtain⟨_,_,rfl,h1,h⟩:=Az h
 obtain rfl:=Kd h
 obtain⟨x0,rfl,i0⟩:=Cu h0
 obtain⟨x1,rfl,i1⟩:=Cu h1
 exact⟨⟨x0,x1⟩,rfl,trivial⟩
theorem Ab.dec {cs:List AV}(h:wfcs [.i .i64,.i .i64,.i .i64,.i .i64,.i .i64,.i .i64,.i .i64,.i .i64,.i .i64,.i .i64,.l [.i .i64] false] cs): ∃c:Ab,mkE true cs=c.av∧CIn c:=by
 obtain⟨_,_,rfl,h0,h⟩:=Az h
 obtain⟨_,_,rfl,h1,h⟩:=Az h
 obtain⟨_,_,rfl,h2,h⟩:=Az h
 obtain⟨_,_,rfl,h3,h⟩:=Az h
 obtain⟨_,_,rfl,h4,h⟩:=Az h
 obtain⟨_,_,rfl,h5,h⟩:=Az h
 obtain⟨_,_,rfl,h6,h⟩:=Az h
 obtain⟨_,_,rfl,h7,h⟩:=Az h
 obtain⟨_,_,rfl,h8,h⟩:=Az h
 obtain⟨_,_,rfl,h9,h⟩:=Az h
 obtain⟨_,_,rfl,h10,h⟩:=Az h
 obtain rfl:=Kd h
 obtain⟨x0,rfl,i0⟩:=Cu h0
 obtain⟨x1,rfl,i1⟩:=Cu h1
 obtain⟨x2,rfl,i2⟩:=Cu h2
 obtain⟨x3,rfl,i3⟩:=Cu h3
 obtain⟨x4,rfl,i4⟩:=Cu h4
 obtain⟨x5,rfl,i5⟩:=Cu h5
 obtain⟨x6,rfl,i6⟩:=Cu h6
 obtain⟨x7,rfl,i7⟩:=Cu h7
 obtain⟨x8,rfl,i8⟩:=Cu h8
 obtain⟨x9,rfl,i9⟩:=Cu h9
 obtain⟨x10,rfl,i10,j10⟩:=cH iav I (fun cs h=>by obtain⟨n,e,hn⟩:=Cu (tJ h);exact⟨n,e,hn⟩) h10
 exact⟨⟨x0,x1,x2,x3,x4,x5,x6,x7,x8,x9,x10⟩,rfl,⟨i0,i1,i2,i3,i4,i5,by show((x10.length:Nat):Int)≤_;omega,i10⟩⟩
theorem Aq.dec {cs:List AV}(h:wfcs [.i .i64,.i .i64,.i .i64,.s,.i .i64,.s,.s,.i .i64,.i .i64,.s,.s,.s,.s,.s,.s,.l [.s,.i .i64,.i .i64] true,.l [.s] false,.l [.i .i64,.i .i64] true,.i .i64,.i .i64,.i .i64,.i .i64,.i .i64,.i .i64] cs): ∃m:Aq,mkE true cs=m.av∧Lens m:=by
 obtain⟨_,_,rfl,h0,h⟩:=Az h
 obtain⟨_,_,rfl,h1,h⟩:=Az h
 obtain⟨_,_,rfl,h2,h⟩:=Az h
 obtain⟨_,_,rfl,h3,h⟩:=Az h
 obtain⟨_,_,rfl,h4,h⟩:=Az h
 obtain⟨_,_,rfl,h5,h⟩:=Az h
 obtain⟨_,_,rfl,h6,h⟩:=Az h
 obtain⟨_,_,rfl,h7,h⟩:=Az h
 obtain⟨_,_,rfl,h8,h⟩:=Az h
 obtain⟨_,_,rfl,h9,h⟩:=Az h
 obtain⟨_,_,rfl,h10,h⟩:=Az h
 obtain⟨_,_,rfl,h11,h⟩:=Az h
 obtain⟨_,_,rfl,h12,h⟩:=Az h
 obtain⟨_,_,rfl,h13,h⟩:=Az h
 obtain⟨_,_,rfl,h14,h⟩:=Az h
 obtain⟨_,_,rfl,h15,h⟩:=Az h
 obtain⟨_,_,rfl,h16,h⟩:=Az h
 obtain⟨_,_,rfl,h17,h⟩:=Az h
 obtain⟨_,_,rfl,h18,h⟩:=Az h
 obtain⟨_,_,rfl,h19,h⟩:=Az h
 obtain⟨_,_,rfl,h20,h⟩:=Az h
 obtain⟨_,_,rfl,h21,h⟩:=Az h
 obtain⟨_,_,rfl,h22,h⟩:=Az h
 obtain⟨_,_,rfl,h23,h⟩:=Az h
 obtain rfl:=Kd h
 obtain⟨x0,rfl,i0⟩:=Cu h0
 obtain⟨x1,rfl,i1⟩:=Cu h1
 obtain⟨x2,rfl,i2⟩:=Cu h2
 obtain⟨x3,rfl,i3⟩:=Xy h3
 obtain⟨x4,rfl,i4⟩:=Cu h4
 obtain⟨x5,rfl,i5⟩:=Xy h5
 obtain⟨x6,rfl,i6⟩:=Xy h6
 obtain⟨x7,rfl,i7⟩:=Cu h7
 obtain⟨x8,rfl,i8⟩:=Cu h8
 obtain⟨x9,rfl,i9⟩:=Xy h9
 obtain⟨x10,rfl,i10⟩:=Xy h10
 obtain⟨x11,rfl,i11⟩:=Xy h11
 obtain⟨x12,rfl,i12⟩:=Xy h12
 obtain⟨x13,rfl,i13⟩:=Xy h13
 obtain⟨x14,rfl,i14⟩:=Xy h14
 obtain⟨x15,rfl,i15,j15⟩:=cH Aj.av (fun _=>True) (fun cs h=>Aj.dec h) h15
 obtain⟨x16,rfl,i16,j16⟩:=cH sav (fun _=>True) (fun cs h=>by obtain⟨n,e,hn⟩:=Xy (tJ h);exact⟨n,e,trivial⟩) h16
 obtain⟨x17,rfl,i17,j17⟩:=cH Al.av (fun _=>True) (fun cs h=>Al.dec h) h17
 obtain⟨x18,rfl,i18⟩:=Cu h18
 obtain⟨x19,rfl,i19⟩:=Cu h19
 obtain⟨x20,rfl,i20⟩:=Cu h20
 obtain⟨x21,rfl,i21⟩:=Cu h21
 obtain⟨x22,rfl,i22⟩:=Cu h22
 obtain⟨x23,rfl,i23⟩:=Cu h23
 exact⟨⟨x0,x1,x2,x3,x4,x5,x6,x7,x8,x9,x10,x11,x12,x13,x14,x15,x16,x17,⟨x18,x19,x20,x21,x22,x23⟩⟩,rfl,⟨by show((x15.length:Nat):Int)≤_;omega,by show((x16.length:Nat):Int)≤_;omega⟩⟩
def n1 (z:Int):List UInt8:=[UInt8.ofNat z.toNat]
def n2 (z:Int):List UInt8:=[UInt8.ofNat (z%256).toNat,UInt8.ofNat (z/256).toNat]
def tx (s:List UInt8):List UInt8:=n1 s.length++s
def mb (s:List UInt8):List UInt8:=if s=[]then n1 0 else n1 1++s
def pt (p:Aj):List UInt8:=tx p.Text++(n1 p.Cycle++n1 p.Age)
def en (e:Al):List UInt8:=n1 e.From++n2 e.At
theorem uY (s:List UInt8):(Hf s).length=s.length:=by simp[Hf]
theorem Alr (a b:List UInt8):Hf (a++b)=Hf a++Hf b:=by simp[Hf]
theorem yX (s:List UInt8):Pg (Hf s)=s:=by
 simp only[Pg,Hf,List.map_map]
 refine(List.map_congr_left fun b _=> ?_).trans (List.map_id s)
 simp
theorem Akp (n:Int):w8 n=n%256:=by
 unfold w8
 simp only[IntKind.wrap,IntKind.bits,IntKind.signed]
 simp
abbrev B1 (z:Int):Prop:=0≤z∧z<256
abbrev B2 (z:Int):Prop:=0≤z∧z<65536
def dgs (d:Ar6 Int):List Int:=[d.a0,d.a1,d.a2,d.a3,d.a4,d.a5]
structure Fit (m:Aq):Prop where
 clock:B2 m.Clock
 anchor:B2 m.Anchor
 since:B2 m.Since
 age:B1 m.Age
 number:B1 m.Number
 regular:B1 m.Regular
 pipe:m.Pipe.length≤60
 vec:m.Vec.length≤21
 agreed:m.Agreed.length≤21
 members:m.Members.length≤13
 seen:m.Seen.length≤13
 heard:m.Heard.length≤32
 sent:m.Sent.length≤32
 out:m.Out.length≤16
 line:m.Line.length≤16
 ports:m.Ports.length≤13∧∀p∈m.Ports,p.Text.length≤16∧B1 p.Cycle∧B1 p.Age
 hold:m.Hold.length≤52∧∀s∈m.Hold,s.length≤40
 log:m.Log.length≤64∧∀e∈m.Log,B1 e.From∧B2 e.At
 diag: ∀z∈dgs m.Diag,B2 z
theorem Ahq (n:Int)(h:0≤n)(h1:n<256):W8 n=some [UInt8.ofNat n.toNat]:=by
 unfold W8
 rw[Akp,Int.emod_eq_of_lt h h1];rfl
def pB (t:List UInt8):Int×List UInt8:=(((t.headD 0).toNat:Int),t.tail)
def pW (t:List UInt8):Int×List UInt8:=((pB t).1+256*(pB t.tail).1,t.tail.tail)
def pR (n:Nat)(t:List UInt8):List UInt8×List UInt8:=((t++List.replicate n 0).take n,t.drop n)
def pM (n:Nat)(t:List UInt8):List UInt8×List UInt8:=if(pB t).1%2=0 then([],t.tail)else pR n t.tail
def pT (b:Int)(t:List UInt8):List UInt8×List UInt8:=pR ((pB t).1%b).toNat t.tail
def pN {α:Type}(p:List UInt8→α×List UInt8):Nat→List UInt8→List α×List UInt8
 |0,t=>([],t)
 |n+1,t=>((p t).1::(pN p n (p t).2).1,(pN p n (p t).2).2)
def pP (t:List UInt8):Aj×List UInt8:=(⟨(pT 17 t).1,(pB (pT 17 t).2).1,(pB (pB (pT 17 t).2).2).1⟩,(pB (pB (pT 17 t).2).2).2)
def pE (n:Int)(t:List UInt8):Al×List UInt8:=(⟨(pB t).1%n,(pW t.tail).1⟩,(pW t.tail).2)
theorem Wf (t:List UInt8):0≤(pB t).1∧(pB t).1<256:=by
 have:=(t.headD 0).toNat_lt
 exact⟨by simp only[pB];omega,by simp only[pB];omega⟩
def Step {α:Type}(s:List UInt8)(p:List UInt8→α×List UInt8)(K a b:Nat):Prop:=s.drop b=(p (s.drop a)).2∧b≤a+K
theorem tail_drop (s:List UInt8)(a:Nat):(s.drop a).tail=s.drop (a+1):=by rw[List.tail_drop]
theorem Step.b {s:List UInt8}{a:Nat}:Step s pB 1 a (a+1):=⟨(tail_drop s a).symm,Nat.le_refl _⟩
theorem Step.w {s:List UInt8}{a:Nat}:Step s pW 2 a (a+2):=⟨by simp only[pW,tail_drop],Nat.le_refl _⟩
theorem Step.r {s:List UInt8}{a n:Nat}:Step s (pR n) n a (a+n):=⟨by simp only[pR,List.drop_drop],Nat.le_refl _⟩
theorem Aar (s:List UInt8)(a k:Nat):(pR (k+1) (s.drop a)).1=(pR k (s.drop a)).1++[(s.drop (a+k)).headD 0]:=by
 simp only[pR]
 have e: ∀(l:List UInt8) (n:Nat),(l++List.replicate n 0).take n=(List.range n).map fun i=>(l[i]?).getD 0:=by
  intro l n
  apply List.ext_getElem
  ·simp
  ·intro i h1 h2
   simp only[List.length_take,List.length_append,List.length_replicate,List.length_map,List.length_range]at h1 h2
   rw[List.getElem_take,List.getElem_map,List.getElem_range]
   by_cases hi:i<l.length
   ·rw[List.getElem_append_left hi,zge hi];rfl
   ·rw[List.getElem_append_right (by omega),List.getElem?_eq_none (by omega)];simp
 rw[e,e,List.range_succ,List.map_append]
 congr 1
 simp only[List.map_cons,List.map_nil,List.getElem?_drop]
 congr 1
 rw[List.headD_eq_head?_getD,List.head?_drop]
theorem jA (n:Nat)(t:List UInt8):(pR n t).1.length=n:=by simp[pR]
abbrev Rm (s:List UInt8)(a:Nat)(c:Ab):Ae:=Ae.mk (Dq.mk s (a:Int)) c
abbrev Lim :Nat:=1000000000000
theorem or0 (z:Int)(h:0≤z)(h1:z<256):orI .i64 0 z=z:=by
 show IntKind.wrap .i64 _=z
 rw[show BitVec.ofInt IntKind.i64.bits 0 ||| BitVec.ofInt IntKind.i64.bits z=BitVec.ofInt IntKind.i64.bits z from by simp,BitVec.toNat_ofInt,
  show(z%((2^IntKind.i64.bits:Nat):Int))=z from Int.emod_eq_of_lt h (by show z<((2^64:Nat):Int);omega),kD ⟨by omega,by omega⟩]
 omega
theorem Axg (z:Int)(h:0≤z)(h1:z<256):Auu .i64 z 0=z:=by
 show IntKind.wrap .i64 _=z
 rw[show z*2^min (0:Int).toNat IntKind.i64.bits=z from by simp,kD ⟨by omega,by omega⟩]
theorem Lv (s:List UInt8)(a:Nat)(c:Ab)(hs:s.length≤Lim)(ha:a≤Lim):A8 (Rm s a c)=some ((pB (s.drop a)).1,Rm s (a+1) c):=by
 have hw:wr ((a:Int)+1)=((a+1:Nat):Int):=by rw[wrM (by omega) (by unfold Lim at ha;omega)];omega
 have hg: ∃r,cG s (a:Int) 1=some r∧(if r.2≠0 then(0:Int)else r.1)=(pB (s.drop a)).1:=by
  unfold cG bA
  rw[if_pos (by decide),zbs,if_neg (by decide),if_neg (by omega)]
  by_cases h1:(s.length:Int)<a
  ·rw[if_pos h1]
   exact⟨_,rfl,by rw[List.drop_eq_nil_of_le (by omega)];rfl⟩
  ·rw[if_neg h1,wrM (by omega) (by unfold Lim at hs;omega)]
   by_cases h2:(s.length:Int)-a<1
   ·rw[if_pos h2]
    exact⟨_,rfl,by rw[List.drop_eq_nil_of_le (by omega)];rfl⟩
   ·rw[if_neg h2]
    have hlt:a<s.length:=by omega
    have hb:=(s[a]).toNat_lt
    have e:Za s (a:Int) 1 0 0=some (((s[a]).toNat:Nat):Int):=by
     unfold Za
     rw[A5 (t:=((((s[a]).toNat:Nat):Int),1)),Av]
     ·simp only[Ju];rw[if_neg (by omega)]
     ·simp only[Ju]
      rw[if_pos (by omega),show wr ((a:Int)+0)=(a:Int)from by rw[Int.add_zero];exact wrM (by omega) (by unfold Lim at ha;omega),Ak (zge hlt),zbs,
       show wr (8*0)=0 from wrM (by decide) (by decide),if_neg (by decide),show wr (0+1)=1 from wrM (by decide) (by decide),wrM (n:=(((s[a]).toNat:Nat):Int)) (by omega) (by omega),
       Axg _ (by omega) (by omega),or0 _ (by omega) (by omega)]
    rw[e,zbs]
    refine⟨_,rfl,?_⟩
    rw[if_neg (by simp),List.drop_eq_getElem_cons hlt]
    rfl
 obtain⟨r,e1,e2⟩:=hg
 unfold A8
 rw[e1,zbs]
 simp only[hw]
 by_cases h:r.2≠0
 ·rw[if_pos h]at e2 ⊢;rw[←e2]
 ·rw[if_neg h]at e2 ⊢;rw[←e2]
theorem cB (s:List UInt8)(a:Nat)(c:Ab)(hs:s.length≤Lim)(ha:a+2≤Lim):Ci (Rm s a c)=some ((pW (s.drop a)).1,Rm s (a+2) c):=by
 have h1:=Wf (s.drop a)
 have h2:=Wf (s.drop (a+1))
 unfold Ci
 rw[Lv s a c hs (by omega),zbs,Lv s (a+1) c hs (by omega),zbs]
 simp only
 rw[wrM (n:=256*(pB (s.drop (a+1))).1) (by omega) (by omega),wrM (by omega) (by omega)]
 simp only[pW,tail_drop]
theorem rX (s:List UInt8)(c:Ab)(n a:Nat)(hs:s.length≤Lim)(ha:a+n≤Lim): ∀(j k:Nat),k+j=n→
 Ai (fun x:Int×(List Int)×Ae=>Cn n (n:Int) x.1 x.2.1 x.2.2) ((k:Int),Hf (pR k (s.drop a)).1++List.replicate j 0,Rm s (a+k) c)
  =some (Hf (pR n (s.drop a)).1,Rm s (a+n) c)
 |0,k,hk=>by
  have:k=n:=by omega
  subst this
  rw[Av]
  simp only[Cn]
  rw[if_neg (by omega)]
  simp
 |j+1,k,hk=>by
  have h1:=Wf (s.drop (a+k))
  rw[A5 (t:=(((k+1:Nat):Int),Hf (pR (k+1) (s.drop a)).1++List.replicate j 0,Rm s (a+(k+1)) c)),rX s c n a hs ha j (k+1) (by omega)]
  simp only[Cn]
  rw[if_pos (by omega),Lv s (a+k) c hs (by omega),zbs,if_pos (by omega),List.replicate_succ,Int.toNat_natCast,O6 _ _ _ _ _ (by rw[uY,jA]),zbs,
   wrM (n:=(k:Int)+1) (by omega) (by unfold Lim at ha;omega),Akp,Int.emod_eq_of_lt h1.1 h1.2,Aar,Alr,List.append_assoc]
  rfl
theorem pQ (s:List UInt8)(a n:Nat)(c:Ab)(hs:s.length≤Lim)(ha:a+n≤Lim)(hn:n≤4000000000):Bm (n:Int) (Rm s a c)=some ((pR n (s.drop a)).1,Rm s (a+n) c):=by
 unfold Bm
 have:=rX s c n a hs ha n 0 (by omega)
 have e:Ih (Int.toNat (n:Int)) (((Int.toNat (n:Int)):Nat):Int) 0 (List.replicate (Int.toNat (n:Int)) 0) (Rm s a c)=some (Hf (pR n (s.drop a)).1,Rm s (a+n) c):=by
  rw[Int.toNat_natCast]
  unfold Ih
  simpa [pR,Hf]using this
 rw[if_pos ⟨by omega,by rw[Kv];omega⟩,e,zbs,Int.toNat_natCast,O7 _ _ (by rw[uY,jA]),zbs,yX]
theorem Aci (s:List UInt8)(a n:Nat)(c:Ab)(hs:s.length≤Lim)(ha:a+1+n≤Lim)(hn:n≤4000000000):
 ∃b,Dd (n:Int) (Rm s a c)=some ((pM n (s.drop a)).1,Rm s b c)∧Step s (pM n) (n+1) a b:=by
 unfold Dd
 rw[Lv s a c hs (by omega),zbs]
 have h1:=Wf (s.drop a)
 simp only[Step,pM,tail_drop]
 rw[Int.tmod_eq_emod_of_nonneg h1.1]
 by_cases h:(pB (s.drop a)).1%2=0
 ·rw[if_pos h,if_pos h]
  exact⟨a+1,rfl,rfl,by omega⟩
 ·rw[if_neg h,if_neg h,pQ s (a+1) n c hs (by omega) hn,zbs]
  exact⟨a+1+n,rfl,by simp only[pR,List.drop_drop],by omega⟩
theorem cC (s:List UInt8)(a:Nat)(m:Int)(c:Ab)(hs:s.length≤Lim)(ha:a+300≤Lim)(hm:0≤m∧m≤200):
 ∃b,C5 m (Rm s a c)=some ((pT (m+1) (s.drop a)).1,Rm s b c)∧Step s (pT (m+1)) (m.toNat+1) a b:=by
 have hw:wr (m+1)=m+1:=wrM (by omega) (by omega)
 have h1:=Wf (s.drop a)
 have h2:=Int.emod_nonneg (pB (s.drop a)).1 (show m+1≠0 by omega)
 have h3:=Int.emod_lt_of_pos (pB (s.drop a)).1 (show 0<m+1 by omega)
 unfold C5
 rw[Lv s a c hs (by omega),zbs,hw,if_neg (by omega)]
 simp only[Step,pT,tail_drop]
 rw[Int.tmod_eq_emod_of_nonneg h1.1]
 obtain⟨k,hk⟩:=Int.eq_ofNat_of_zero_le h2
 rw[hk,Int.toNat_natCast]
 have hk2:(k:Int)<m+1:=by rw[←hk];exact h3
 rw[pQ s (a+1) k c hs (by omega) (by omega),zbs]
 exact⟨a+1+k,rfl,by simp only[pR,List.drop_drop],by omega⟩
theorem vH {α:Type}{f:Int×Ae×Aq→Option ((Int×Ae×Aq)⊕(Ae×Aq))}(s:List UInt8)(c:Ab)(n K:Nat)(p:List UInt8→α×List UInt8)(put:List α→Aq)
 (h: ∀(k a:Nat) (xs:List α),k<n→xs.length=k→a≤1000000→∃b,f ((k:Int),Rm s a c,put xs)=some (.inl ((k:Int)+1,Rm s b c,put (xs++[(p (s.drop a)).1])))∧Step s p K a b)
 (he: ∀o m,f ((n:Int),o,m)=some (.inr (o,m))): ∀(j k a:Nat) (xs:List α),k+j=n→xs.length=k→a+j*K≤1000000→
 ∃b,Ai f ((k:Int),Rm s a c,put xs)=some (Rm s b c,put (xs++(pN p j (s.drop a)).1))∧Step s (pN p j) (j*K) a b
 |0,k,a,xs,hk,hl,ha=>by
  have:k=n:=by omega
  subst this
  exact⟨a,by rw[Av (he _ _)];simp[pN],rfl,by omega⟩
 |j+1,k,a,xs,hk,hl,ha=>by
  have e:(j+1)*K=j*K+K:=Nat.succ_mul j K
  obtain⟨b,h1,h2,h3⟩:=h k a xs (by omega) hl (by omega)
  obtain⟨d,h4,h5,h6⟩:=vH s c n K p put h he j (k+1) b (xs++[(p (s.drop a)).1]) (by omega) (by simp;omega) (by omega)
  refine⟨d,?_,?_,by omega⟩
  ·rw[A5 h1,show((k:Int)+1)=((k+1:Nat):Int) by omega,h4]
   simp only[pN,h2,List.append_assoc,List.singleton_append]
  ·rw[h5,h2];rfl
theorem rports (s:List UInt8)(c:Ab)(m:Aq)(a:Nat)(hs:s.length≤Lim)(ha:a≤100000)(hN:0≤c.N∧c.N≤13)(hm:m.Ports=[]):
 ∃b,G7 c.N 0 (Rm s a c) m=some (Rm s b c,{m with Ports:=(pN pP c.N.toNat (s.drop a)).1})∧Step s (pN pP c.N.toNat) (c.N.toNat*19) a b:=by
 obtain⟨n,hn⟩:=Int.eq_ofNat_of_zero_le hN.1
 rw[hn,Int.toNat_natCast]
 have hn13:n≤13:=by omega
 unfold G7
 refine Exists.imp (fun b hb=> ?_) (vH s c n 19 pP (fun xs=>{m with Ports:=xs}) (f:=fun x=>B7 (n:Int) x.1 x.2.1 x.2.2) (fun k a xs hk hl ha=> ?_) (fun o m=> ?_) n 0 a [] (by omega) rfl (by omega))
 ·obtain⟨h1,h2⟩:=hb
  refine⟨?_,h2⟩
  have hm':({m with Ports:=[]}:Aq)=m:=by cases m;simp at hm;subst hm;rfl
  rw[hm']at h1
  exact h1
 ·obtain⟨b,e1,e2,e3⟩:=cC s a 16 c hs (by unfold Lim;omega) (by omega)
  refine⟨b+1+1,?_,?_,by have:(16:Int).toNat=16:=rfl;omega⟩
  ·simp only[B7]
   rw[if_pos (by omega),e1,zbs,Lv s b c hs (by have:(16:Int).toNat=16:=rfl;unfold Lim;omega),zbs,Lv s (b+1) c hs (by have:(16:Int).toNat=16:=rfl;unfold Lim;omega),zbs,
    if_pos (by rw[Kv];simp;omega),wrM (by omega) (by omega)]
   simp only[show(16:Int)+1=17 from rfl]at e2 ⊢
   rw[←tail_drop s b]
   simp only[pP,←e2]
   rfl
  ·simp only[show(16:Int)+1=17 from rfl]at e2
   rw[←tail_drop,←tail_drop,e2];rfl
 ·simp only[B7];rw[if_neg (by omega)]
theorem rhold (s:List UInt8)(c:Ab)(m:Aq)(a:Nat)(q:Int)(hs:s.length≤Lim)(ha:a≤100000)(hq:0≤q∧q≤52)(hm:m.Hold=[]):
 ∃b,Gz q 0 (Rm s a c) m=some (Rm s b c,{m with Hold:=(pN (pT 41) q.toNat (s.drop a)).1})∧Step s (pN (pT 41) q.toNat) (q.toNat*41) a b:=by
 obtain⟨n,hn⟩:=Int.eq_ofNat_of_zero_le hq.1
 rw[hn,Int.toNat_natCast]
 have hn13:n≤52:=by omega
 unfold Gz
 refine Exists.imp (fun b hb=> ?_) (vH s c n 41 (pT 41) (fun xs=>{m with Hold:=xs}) (f:=fun x=>B9 (n:Int) x.1 x.2.1 x.2.2) (fun k a xs hk hl ha=> ?_) (fun o m=> ?_) n 0 a [] (by omega) rfl (by omega))
 ·obtain⟨h1,h2⟩:=hb
  refine⟨?_,h2⟩
  have hm':({m with Hold:=[]}:Aq)=m:=by cases m;simp at hm;subst hm;rfl
  rw[hm']at h1
  exact h1
 ·obtain⟨b,e1,e2,e3⟩:=cC s a 40 c hs (by unfold Lim;omega) (by omega)
  refine⟨b,?_,e2,by have:(40:Int).toNat=40:=rfl;omega⟩
  simp only[B9]
  rw[if_pos (by omega),e1,zbs,if_pos (by rw[Kv];simp;omega),wrM (by omega) (by omega)]
  rfl
 ·simp only[B9];rw[if_neg (by omega)]
theorem rlog (s:List UInt8)(c:Ab)(m:Aq)(a:Nat)(q:Int)(hs:s.length≤Lim)(ha:a≤100000)(hq:0≤q∧q≤64)(hN:4≤c.N∧c.N≤13)(hm:m.Log=[]):
 ∃b,Ha q 0 (Rm s a c) m=some (Rm s b c,{m with Log:=(pN (pE c.N) q.toNat (s.drop a)).1})∧Step s (pN (pE c.N) q.toNat) (q.toNat*3) a b:=by
 obtain⟨n,hn⟩:=Int.eq_ofNat_of_zero_le hq.1
 rw[hn,Int.toNat_natCast]
 have hn13:n≤64:=by omega
 unfold Ha
 refine Exists.imp (fun b hb=> ?_) (vH s c n 3 (pE c.N) (fun xs=>{m with Log:=xs}) (f:=fun x=>B6 (n:Int) x.1 x.2.1 x.2.2) (fun k a xs hk hl ha=> ?_) (fun o m=> ?_) n 0 a [] (by omega) rfl (by omega))
 ·obtain⟨h1,h2⟩:=hb
  refine⟨?_,h2⟩
  have hm':({m with Log:=[]}:Aq)=m:=by cases m;simp at hm;subst hm;rfl
  rw[hm']at h1
  exact h1
 ·refine⟨a+1+2,?_,?_,by omega⟩
  ·simp only[B6]
   rw[if_pos (by omega),Lv s a c hs (by unfold Lim;omega),zbs,if_pos rfl,if_neg (by simp only;omega),cB s (a+1) c hs (by unfold Lim;omega),zbs,
    if_pos (by rw[Kv];simp;omega),wrM (by omega) (by omega),Int.tmod_eq_emod_of_nonneg (Wf _).1,←tail_drop]
   rfl
  ·rw[Nat.add_assoc,←List.drop_drop]
   simp only[pE,pW,List.drop_drop,tail_drop]
 ·simp only[B6];rw[if_neg (by omega)]
def dset (xs:List Int):Ar6 Int:=⟨xs.getD 0 0,xs.getD 1 0,xs.getD 2 0,xs.getD 3 0,xs.getD 4 0,xs.getD 5 0⟩
theorem tM (xs:List Int)(k:Nat)(v:Int)(hk:k<6)(hl:xs.length=k):(dset xs).set? k v=some (dset (xs++[v])):=by
 rcases(by omega:k=0∨k=1∨k=2∨k=3∨k=4∨k=5)with rfl|rfl|rfl|rfl|rfl|rfl
 ·obtain rfl:=List.eq_nil_of_length_eq_zero hl;rfl
 ·obtain⟨x,rfl⟩:=List.length_eq_one_iff.1 hl;rfl
 ·rcases xs with _|⟨x,_|⟨y,_|⟨z,r⟩⟩⟩<;>first|rfl|(simp at hl)
 ·rcases xs with _|⟨x,_|⟨y,_|⟨z,_|⟨w,r⟩⟩⟩⟩<;>first|rfl|(simp at hl)
 ·rcases xs with _|⟨x,_|⟨y,_|⟨z,_|⟨w,_|⟨u,r⟩⟩⟩⟩⟩<;>first|rfl|(simp at hl)
 ·rcases xs with _|⟨x,_|⟨y,_|⟨z,_|⟨w,_|⟨u,_|⟨t,r⟩⟩⟩⟩⟩⟩<;>first|rfl|(simp at hl)
theorem rdiag (s:List UInt8)(c:Ab)(m:Aq)(a:Nat)(hs:s.length≤Lim)(ha:a≤100000)(hm:m.Diag=⟨0,0,0,0,0,0⟩):
 ∃b,G3 0 (Rm s a c) m=some (Rm s b c,{m with Diag:=dset (pN pW 6 (s.drop a)).1}):=by
 unfold G3
 refine Exists.imp (fun b hb=> ?_) (vH s c 6 2 pW (fun xs=>{m with Diag:=dset xs}) (f:=fun x=>B8 x.1 x.2.1 x.2.2) (fun k a xs hk hl ha=> ?_) (fun o m=> ?_) 6 0 a [] (by omega) rfl (by omega))
 ·obtain⟨h1,h2⟩:=hb
  have hm':({m with Diag:=dset []}:Aq)=m:=by cases m;simp at hm;subst hm;rfl
  rw[hm']at h1
  exact h1
 ·refine⟨a+2,?_,Step.w⟩
  simp only[B8]
  rw[if_pos (by omega),cB s a c hs (by unfold Lim;omega),zbs,if_pos (by omega),Int.toNat_natCast,tM xs k _ hk hl,zbs,wrM (by omega) (by omega)]
 ·simp only[B8];rw[if_neg (by omega)]
theorem sY (s:List UInt8)(a:Nat)(z:Int)(c:Ab)(hs:s.length≤Lim)(ha:a≤1000000)(hz:0≤z∧z≤1000):Bm z (Rm s a c)=some ((pR z.toNat (s.drop a)).1,Rm s (a+z.toNat) c):=by
 obtain⟨n,rfl⟩:=Int.eq_ofNat_of_zero_le hz.1
 rw[pQ s a n c hs (by unfold Lim;omega) (by omega),Int.toNat_natCast]
theorem Aa3 (s:List UInt8)(a:Nat)(z:Int)(c:Ab)(hs:s.length≤Lim)(ha:a≤1000000)(hz:0≤z∧z≤1000):
 ∃b,Dd z (Rm s a c)=some ((pM z.toNat (s.drop a)).1,Rm s b c)∧Step s (pM z.toNat) (z.toNat+1) a b:=by
 obtain⟨n,rfl⟩:=Int.eq_ofNat_of_zero_le hz.1
 rw[Int.toNat_natCast]
 exact Aci s a n c hs (by unfold Lim;omega) (by omega)
def Mo (m:Aq)(t:List UInt8):Aq×List UInt8:=
 let clock:=pW t;let anchor:=pW clock.2;let since:=pW anchor.2;let age:=pB since.2;let number:=pB age.2;let regular:=pB number.2
 (⟨clock.1,anchor.1,since.1,m.Pipe,age.1,m.Vec,m.Agreed,number.1,regular.1,m.Members,m.Seen,m.Heard,m.Sent,m.Out,m.Line,m.Ports,m.Hold,m.Log,m.Diag⟩,regular.2)
def Oh (c:Ab)(m:Aq)(t:List UInt8):Aq×List UInt8:=
 let pipe:=pR (Pp c).toNat t;let vec:=pM (8+c.N).toNat pipe.2;let agreed:=pM (8+c.N).toNat vec.2;let members:=pR c.N.toNat agreed.2;let seen:=pR c.N.toNat members.2
 let heard:=pR c.Table.length seen.2;let sent:=pR c.Table.length heard.2;let out:=pT 17 sent.2;let line:=pT 17 out.2
 (⟨m.Clock,m.Anchor,m.Since,pipe.1,m.Age,vec.1,agreed.1,m.Number,m.Regular,members.1,seen.1,heard.1,sent.1,out.1,line.1,m.Ports,m.Hold,m.Log,m.Diag⟩,line.2)
def X8 (c:Ab)(m:Aq)(t:List UInt8):Aq:=
 let ports:=pN pP c.N.toNat t;let hold:=pN (pT 41) (c.N*c.D).toNat ports.2;let count:=pB hold.2;let log:=pN (pE c.N) (count.1%65).toNat count.2;let diag:=pN pW 6 log.2
 ⟨m.Clock,m.Anchor,m.Since,m.Pipe,m.Age,m.Vec,m.Agreed,m.Number,m.Regular,m.Members,m.Seen,m.Heard,m.Sent,m.Out,m.Line,ports.1,hold.1,log.1,dset diag.1⟩
def Abr (c:Ab)(t:List UInt8):Aq:=X8 c (Oh c (Mo Hj t).1 (Mo Hj t).2).1 (Oh c (Mo Hj t).1 (Mo Hj t).2).2
theorem rnumbers (s:List UInt8)(c:Ab)(m:Aq)(hs:s.length≤Lim):Cr (Rm s 0 c) m=some (Rm s 9 c,(Mo m (s.drop 0)).1)∧s.drop 9=(Mo m (s.drop 0)).2:=by
 unfold Cr
 rw[cB s 0 c hs (by unfold Lim;omega),zbs,cB s _ c hs (by unfold Lim;omega),zbs,cB s _ c hs (by unfold Lim;omega),zbs,
  Lv s _ c hs (by unfold Lim;omega),zbs,Lv s _ c hs (by unfold Lim;omega),zbs,Lv s _ c hs (by unfold Lim;omega),zbs]
 constructor
 ·simp only[Mo,pW,pB,tail_drop]
 ·simp only[Mo,pW,pB,tail_drop]
theorem rtexts (s:List UInt8)(c:Ab)(m:Aq)(a:Nat)(hs:s.length≤Lim)(hc:CIn c)(hp:Pl c)(ha:a≤100):
 ∃b,F4 (Rm s a c) m=some (Rm s b c,(Oh c m (s.drop a)).1)∧s.drop b=(Oh c m (s.drop a)).2∧b≤1000:=by
 have hl:=M3 c hp
 obtain⟨n0,n1',d0,d1,m0,m1,f0,f1,x,y,p0,p1,t0,t1⟩:=Qg c hp
 have ht:c.Table.length≤32:=hp.2.2.2.2.1
 have l1:(Pp c).toNat≤60:=by omega
 have l2:(8+c.N).toNat≤21:=by omega
 have l3:c.N.toNat≤13:=by omega
 obtain⟨b1,e1,s1,k1⟩:=Aa3 s (a+(Pp c).toNat) (8+c.N) c hs (by omega) (by omega)
 obtain⟨b2,e2,s2,k2⟩:=Aa3 s b1 (8+c.N) c hs (by omega) (by omega)
 have k16:(16:Int).toNat=16:=rfl
 obtain⟨b3,e3,s3,k3⟩:=cC s (b2+c.N.toNat+c.N.toNat+c.Table.length+c.Table.length) 16 c hs (by unfold Lim;omega) (by omega)
 obtain⟨b4,e4,s4,k4⟩:=cC s b3 16 c hs (by unfold Lim;omega) (by omega)
 refine⟨b4,?_,?_,by omega⟩
 ·unfold F4
  rw[Tu c hc hp,zbs,sY s a _ c hs (by omega) (by omega),zbs,oU c hc hp,zbs,e1,zbs,oU c hc hp,zbs,e2,zbs,
   sY s b2 _ c hs (by omega) (by simp only;omega),zbs,sY s _ _ c hs (by simp only;omega) (by simp only;omega),zbs,
   sY s _ _ c hs (by simp only;omega) (by simp only;omega),zbs,sY s _ _ c hs (by simp only[Int.toNat_natCast];omega) (by simp only;omega),zbs]
  simp only[Int.toNat_natCast]
  rw[e3,zbs,e4,zbs]
  simp only[show(16:Int)+1=17 from rfl]at s3 s4 ⊢
  simp only[Oh,←(Step.r (s:=s)).1,←s1,←s2,←s3,←s4]
 ·simp only[show(16:Int)+1=17 from rfl]at s3 s4 ⊢
  simp only[Oh,←(Step.r (s:=s)).1,←s1,←s2,←s3,←s4]
theorem rlists (s:List UInt8)(c:Ab)(m:Aq)(a:Nat)(hs:s.length≤Lim)(hp:Pl c)(ha:a≤1000)(h1:m.Ports=[])(h2:m.Hold=[])(h3:m.Log=[])(h4:m.Diag=⟨0,0,0,0,0,0⟩):
 ∃b,Gj (Rm s a c) m=some (Rm s b c,X8 c m (s.drop a)):=by
 obtain⟨n0,n1',d0,d1,m0,m1,f0,f1,x,y,p0,p1,t0,t1⟩:=Qg c hp
 have l3:c.N.toNat≤13:=by omega
 have l4:(c.N*c.D).toNat≤52:=by omega
 have w1:c.N.toNat*19≤300:=by omega
 have w2:(c.N*c.D).toNat*41≤3000:=by omega
 obtain⟨b1,e1,s1,k1⟩:=rports s c m a hs (by omega) (by omega) h1
 obtain⟨b2,e2,s2,k2⟩:=rhold s c {m with Ports:=(pN pP c.N.toNat (s.drop a)).1} b1 (c.N*c.D) hs (by omega) (by omega) h2
 have hb:=Wf (s.drop b2)
 have hq1:=Int.emod_nonneg (pB (s.drop b2)).1 (show(65:Int)≠0 by omega)
 have hq2:=Int.emod_lt_of_pos (pB (s.drop b2)).1 (show(0:Int)<65 by omega)
 obtain⟨b3,e3,s3,k3⟩:=rlog s c {m with Ports:=(pN pP c.N.toNat (s.drop a)).1,Hold:=(pN (pT 41) (c.N*c.D).toNat (s.drop b1)).1} (b2+1) ((pB (s.drop b2)).1%65) hs (by omega) ⟨hq1,by omega⟩ ⟨n0,n1'⟩ h3
 have w3:((pB (s.drop b2)).1%65).toNat*3≤300:=by omega
 obtain⟨b4,e4⟩:=rdiag s c {m with Ports:=(pN pP c.N.toNat (s.drop a)).1,Hold:=(pN (pT 41) (c.N*c.D).toNat (s.drop b1)).1,Log:=(pN (pE c.N) ((pB (s.drop b2)).1%65).toNat (s.drop (b2+1))).1} b3 hs (by omega) h4
 refine⟨b4,?_⟩
 unfold Gj
 rw[e1,zbs,wrM (by simp only;omega) (by simp only;omega),e2,zbs,Lv s b2 c hs (by unfold Lim;omega),zbs,Int.tmod_eq_emod_of_nonneg hb.1,e3,zbs,e4,zbs]
 simp only[X8,←s1,←s2,←(Step.b (s:=s)).1,←s3]
theorem jT {α:Type}(p:List UInt8→α×List UInt8): ∀(n:Nat) (t:List UInt8),(pN p n t).1.length=n
 |0,t=>rfl
 |n+1,t=>by simp only[pN,List.length_cons,jT p n]
theorem Aoi (c:Ab)(t:List UInt8)(hp:Pl c):Sm (Abr c t):=by
 have hl:=M3 c hp
 obtain⟨n0,n1',d0,d1,m0,m1,f0,f1,x,y,p0,p1,t0,t1⟩:=Qg c hp
 have h2: ∀z:Int,(z%65).toNat<65:=fun z=>by have:=Int.emod_nonneg z (show(65:Int)≠0 by omega);have:=Int.emod_lt_of_pos z (show(0:Int)<65 by omega);omega
 refine⟨?_,?_,?_,?_⟩
 ·show(pR (Pp c).toNat _).1.length<10000;rw[jA];omega
 ·show(pN pP c.N.toNat _).1.length<10000;rw[jT];omega
 ·show(pN (pT 41) (c.N*c.D).toNat _).1.length<10000;rw[jT];omega
 ·show(pN (pE c.N) ((pB (pN (pT 41) (c.N*c.D).toNat (pN pP c.N.toNat (Oh c (Mo Hj t).1 (Mo Hj t).2).2).2).2).1%65).toNat _).1.length<10000;rw[jT];have:=h2 (pB (pN (pT 41) (c.N*c.D).toNat (pN pP c.N.toNat (Oh c (Mo Hj t).1 (Mo Hj t).2).2).2).2).1;omega
theorem Aaf (c:Ab)(s:List UInt8)(hc:CIn c)(hs:s.length≤1000000000):Oe c s=some (if Bh c=0 then mB c (Abr c s)else Hj):=by
 have hs':s.length≤Lim:=by unfold Lim;omega
 unfold Oe
 rw[Ch c hc,zbs]
 by_cases h0:Bh c=0
 ·rw[if_neg (by simpa using h0),if_pos h0]
  have hp:=(A7 c).1 h0
  obtain⟨a1,a2⟩:=rnumbers s c Hj hs'
  obtain⟨b,b1,b2,b3⟩:=rtexts s c (Mo Hj (s.drop 0)).1 9 hs' hc hp (by omega)
  obtain⟨d,d1⟩:=rlists s c (Oh c (Mo Hj (s.drop 0)).1 (s.drop 9)).1 b hs' hp b3 rfl rfl rfl rfl
  have e1:Cr (Ae.mk (Dq.mk s 0) c) Hj=some (Rm s 9 c,(Mo Hj (s.drop 0)).1):=a1
  have e2:X8 c (Oh c (Mo Hj (s.drop 0)).1 (s.drop 9)).1 (s.drop b)=Abr c s:=by rw[b2,a2];rfl
  rw[e2]at d1
  show((Cr _ Hj).bind _)=_
  rw[e1,zbs,b1,zbs,d1,zbs]
  simp only
  rw[Apf c _ hc hp (Aoi c s hp).m,zbs]
 ·rw[if_pos (by simpa using h0),if_neg h0];rfl
theorem gS (s:List UInt8)(a:Nat):Hi s (a:Int)=some (pB (s.drop a)).1:=by
 unfold Hi
 by_cases h:(s.length:Int)≤a
 ·rw[if_pos h,List.drop_eq_nil_of_le (by omega)];rfl
 ·have hlt:a<s.length:=by omega
  have hb:=(s[a]).toNat_lt
  rw[if_neg h,Ak (zge hlt),zbs,wrM (by omega) (by omega),List.drop_eq_getElem_cons hlt]
  rfl
theorem sG (s:List UInt8)(a n:Nat)(hn:n≤1000)(ha:a≤1000000): ∀(j k:Nat),k+j=n→
 Ai (fun x:(List UInt8)×Int=>H5 s (a:Int) (n:Int) x.1 x.2) ((pR k (s.drop a)).1,(k:Int))=some (pR n (s.drop a)).1
 |0,k,hk=>by
  have:k=n:=by omega
  subst this
  rw[Av]
  simp only[H5]
  rw[if_neg (by omega)]
 |j+1,k,hk=>by
  have h1:=Wf (s.drop (a+k))
  rw[A5 (t:=((pR (k+1) (s.drop a)).1,((k+1:Nat):Int))),sG s a n hn ha j (k+1) (by omega)]
  simp only[H5]
  rw[if_pos (by omega),show wr ((a:Int)+(k:Int))=((a+k:Nat):Int)from by rw[wrM (by omega) (by omega)];omega,gS,zbs,Ahq _ h1.1 h1.2,zbs,
   if_pos (by rw[jA];simp;omega),wrM (n:=(k:Int)+1) (by omega) (by omega),Aar]
  simp only[pB,Int.toNat_natCast,UInt8.ofNat_toNat]
  rfl
theorem Q2 (s:List UInt8)(a:Nat)(z:Int)(hz:0≤z∧z≤1000)(ha:a≤1000000):Lu s (a:Int) z=some ((pR z.toNat (s.drop a)).1,((a+z.toNat:Nat):Int)):=by
 obtain⟨n,rfl⟩:=Int.eq_ofNat_of_zero_le hz.1
 unfold Lu Y5
 have:=sG s a n (by omega) ha n 0 (by omega)
 have e:Ai (fun x:(List UInt8)×Int=>H5 s (a:Int) (n:Int) x.1 x.2) (([]:List UInt8),0)=some (pR n (s.drop a)).1:=this
 rw[e,zbs,wrM (by omega) (by omega),Int.toNat_natCast]
 simp only[Int.natCast_add]
theorem Avl (b:UInt8):U9 [b] 0 1=some ((b.toNat:Int),0):=by
 have hb:=b.toNat_lt
 unfold U9
 rw[if_neg (by omega),if_neg (by omega),if_neg (by omega),if_neg (by simp),show wr ((List.length [b]:Int)-0)=1 from wrM (by simp) (by simp),if_neg (by omega),show wr (1-1)=0 from wrM (by decide) (by decide)]
 unfold Y8
 rw[A5 (t:=((b.toNat:Int),-1)),Av]
 ·rfl
 ·simp only[Ee];rw[if_neg (by omega)]
 ·simp only[Ee]
  rw[if_pos (by omega),show wr (0+0)=((0:Nat):Int)from wrM (by decide) (by decide),Ak (x:=b) rfl,zbs,show wr (256*0)=0 from wrM (by decide) (by decide),show wr (0-1)= -1 from wrM (by decide) (by decide),
   wrM (n:=(b.toNat:Int)) (by omega) (by omega),wrM (by omega) (by omega),Int.zero_add]
theorem Avk (b d:UInt8):U9 [b,d] 0 2=some ((b.toNat:Int)+256*(d.toNat:Int),0):=by
 have hb:=b.toNat_lt
 have hd:=d.toNat_lt
 unfold U9
 rw[if_neg (by omega),if_neg (by omega),if_neg (by omega),if_neg (by simp),show wr ((List.length [b,d]:Int)-0)=2 from wrM (by simp) (by simp),if_neg (by omega),show wr (2-1)=1 from wrM (by decide) (by decide)]
 unfold Y8
 rw[A5 (t:=((d.toNat:Int),0)),A5 (t:=((b.toNat:Int)+256*(d.toNat:Int),-1)),Av]
 ·rfl
 ·simp only[Ee];rw[if_neg (by omega)]
 ·simp only[Ee]
  rw[if_pos (by omega),show wr (0+0)=((0:Nat):Int)from wrM (by decide) (by decide),Ak (x:=b) rfl,zbs,wrM (n:=256*(d.toNat:Int)) (by omega) (by omega),show wr (0-1)= -1 from wrM (by decide) (by decide),
   wrM (n:=(b.toNat:Int)) (by omega) (by omega),wrM (by omega) (by omega),Int.add_comm]
 ·simp only[Ee]
  rw[if_pos (by omega),show wr (0+1)=((1:Nat):Int)from wrM (by decide) (by decide),Ak (x:=d) rfl,zbs,show wr (256*0)=0 from wrM (by decide) (by decide),show wr (1-1)=0 from wrM (by decide) (by decide),
   wrM (n:=(d.toNat:Int)) (by omega) (by omega),wrM (by omega) (by omega),Int.zero_add]
theorem pR1 (t:List UInt8):(pR 1 t).1=[t.headD 0]:=by cases t<;>rfl
theorem pR2 (t:List UInt8):(pR 2 t).1=[t.headD 0,t.tail.headD 0]:=by rcases t with _|⟨x,_|⟨y,t⟩⟩<;>rfl
theorem bU (s:List UInt8)(a:Nat)(ha:a≤1000000):C7 s (a:Int) 1=some ((pB (s.drop a)).1,((a+1:Nat):Int)):=by
 unfold C7
 rw[Q2 s a 1 (by omega) ha,zbs]
 simp only[show(1:Int).toNat=1 from rfl,pR1,Avl,zbs,pB]
theorem aZ (s:List UInt8)(a:Nat)(ha:a≤1000000):C7 s (a:Int) 2=some ((pW (s.drop a)).1,((a+2:Nat):Int)):=by
 unfold C7
 rw[Q2 s a 2 (by omega) ha,zbs]
 simp only[show(2:Int).toNat=2 from rfl,pR2,Avk,zbs,pW,pB]
theorem eU (s:List UInt8)(a:Nat)(z:Int)(hz:0≤z∧z≤1000)(ha:a≤100000): ∃b:Nat,Mr s (a:Int) z=some ((pM z.toNat (s.drop a)).1,(b:Int))∧Step s (pM z.toNat) (z.toNat+1) a b:=by
 have h1:=Wf (s.drop a)
 have hw:wr ((a:Int)+1)=((a+1:Nat):Int):=by rw[wrM (by omega) (by omega)];omega
 unfold Mr
 rw[gS,zbs,Int.tmod_eq_emod_of_nonneg h1.1,hw]
 simp only[Step,pM,tail_drop]
 by_cases h:(pB (s.drop a)).1%2=0
 ·rw[if_pos h,if_pos h]
  exact⟨a+1,rfl,rfl,by omega⟩
 ·rw[if_neg h,if_neg h,Q2 s (a+1) z hz (by omega),zbs]
  exact⟨a+1+z.toNat,rfl,by simp only[pR,List.drop_drop],by omega⟩
theorem Y1 (s:List UInt8)(a:Nat)(m:Int)(hm:1≤m∧m≤200)(ha:a≤100000): ∃b:Nat,Mi s (a:Int) m=some ((pT m (s.drop a)).1,(b:Int))∧Step s (pT m) m.toNat a b:=by
 have h1:=Wf (s.drop a)
 have hw:wr ((a:Int)+1)=((a+1:Nat):Int):=by rw[wrM (by omega) (by omega)];omega
 have h2:=Int.emod_nonneg (pB (s.drop a)).1 (show m≠0 by omega)
 have h3:=Int.emod_lt_of_pos (pB (s.drop a)).1 (show 0<m by omega)
 unfold Mi
 rw[gS,zbs,if_neg (by omega),Int.tmod_eq_emod_of_nonneg h1.1,hw,Q2 s (a+1) _ ⟨h2,by omega⟩ (by omega),zbs]
 exact⟨a+1+((pB (s.drop a)).1%m).toNat,by simp only[pT,tail_drop],by simp only[pT,pR,List.drop_drop,tail_drop],by omega⟩
theorem vG {α ρ:Type}{f:Int×Int×Aq→Option ((Int×Int×Aq)⊕ρ)}(s:List UInt8)(n K:Nat)(p:List UInt8→α×List UInt8)(put:List α→Aq)(res:Int→Aq→ρ)
 (h: ∀(k a:Nat) (xs:List α),k<n→xs.length=k→a≤10000→∃b:Nat,f ((a:Int),(k:Int),put xs)=some (.inl ((b:Int),(k:Int)+1,put (xs++[(p (s.drop a)).1])))∧Step s p K a b)
 (he: ∀o m,f (o,(n:Int),m)=some (.inr (res o m))): ∀(j k a:Nat) (xs:List α),k+j=n→xs.length=k→a+j*K≤10000→
 ∃b:Nat,Ai f ((a:Int),(k:Int),put xs)=some (res (b:Int) (put (xs++(pN p j (s.drop a)).1)))∧Step s (pN p j) (j*K) a b
 |0,k,a,xs,hk,hl,ha=>by
  have:k=n:=by omega
  subst this
  exact⟨a,by rw[Av (he _ _)];simp[pN],rfl,by omega⟩
 |j+1,k,a,xs,hk,hl,ha=>by
  have e:(j+1)*K=j*K+K:=Nat.succ_mul j K
  obtain⟨b,h1,h2,h3⟩:=h k a xs (by omega) hl (by omega)
  obtain⟨d,h4,h5,h6⟩:=vG s n K p put res h he j (k+1) b (xs++[(p (s.drop a)).1]) (by omega) (by simp;omega) (by omega)
  refine⟨d,?_,?_,by omega⟩
  ·rw[A5 h1,show((k:Int)+1)=((k+1:Nat):Int) by omega,h4]
   simp only[pN,h2,List.append_assoc,List.singleton_append]
  ·rw[h5,h2];rfl
theorem Aob (s:List UInt8)(c:Ab)(x m:Aq)(a:Nat)(ha:a≤1000)(hN:0≤c.N∧c.N≤13)(hm:m.Ports=[]):
 ∃b:Nat,Rs s c x (a:Int) 0 m=some ((b:Int),{m with Ports:=(pN pP c.N.toNat (s.drop a)).1})∧Step s (pN pP c.N.toNat) (c.N.toNat*19) a b:=by
 obtain⟨n,hn⟩:=Int.eq_ofNat_of_zero_le hN.1
 have hn13:n≤13:=by omega
 have hT:c.N.toNat=n:=by omega
 rw[hT]
 unfold Rs
 refine Exists.imp (fun b hb=> ?_) (vG s n 19 pP (fun xs=>{m with Ports:=xs}) (fun o m=>(o,m)) (f:=fun z=>Gs s c x z.1 z.2.1 z.2.2) (fun k a xs hk hl ha=> ?_) (fun o m=> ?_) n 0 a [] (by omega) rfl (by omega))
 ·obtain⟨h1,h2⟩:=hb
  refine⟨?_,h2⟩
  have hm':({m with Ports:=[]}:Aq)=m:=by cases m;simp at hm;subst hm;rfl
  rw[hm']at h1
  exact h1
 ·obtain⟨b,e1,e2,e3⟩:=Y1 s a 17 (by omega) (by omega)
  have k17:(17:Int).toNat=17:=rfl
  refine⟨b+1+1,?_,?_,by omega⟩
  ·simp only[Gs]
   rw[if_pos (by omega),e1,zbs,bU s b (by omega),zbs,bU s (b+1) (by omega),zbs,if_pos (by rw[Kv];simp;omega),wrM (by omega) (by omega)]
   rw[←tail_drop s b]
   simp only[pP,←e2]
   rfl
  ·rw[←tail_drop,←tail_drop,e2];rfl
 ·simp only[Gs];rw[if_neg (by omega)]
theorem Auq (s:List UInt8)(c:Ab)(x m:Aq)(a:Nat)(ha:a≤2000)(hp:Pl c)(hm:m.Hold=[]):
 ∃b:Nat,Rw s c x (a:Int) 0 m=some ((b:Int),{m with Hold:=(pN (pT 41) (c.N*c.D).toNat (s.drop a)).1})∧Step s (pN (pT 41) (c.N*c.D).toNat) ((c.N*c.D).toNat*41) a b:=by
 obtain⟨n0,n1',d0,d1,m0,m1,f0,f1,x',y,p0,p1,t0,t1⟩:=Qg c hp
 obtain⟨n,hn⟩:=Int.eq_ofNat_of_zero_le (show 0≤c.N*c.D by omega)
 have hn13:n≤52:=by omega
 have hT:(c.N*c.D).toNat=n:=by omega
 have hw:wr (c.N*c.D)=(n:Int):=by rw[wrM (by omega) (by omega),hn]
 rw[hT]
 unfold Rw
 refine Exists.imp (fun b hb=> ?_) (vG s n 41 (pT 41) (fun xs=>{m with Hold:=xs}) (fun o m=>(o,m)) (f:=fun z=>Gn s c x z.1 z.2.1 z.2.2) (fun k a xs hk hl ha=> ?_) (fun o m=> ?_) n 0 a [] (by omega) rfl (by omega))
 ·obtain⟨h1,h2⟩:=hb
  refine⟨?_,h2⟩
  have hm':({m with Hold:=[]}:Aq)=m:=by cases m;simp at hm;subst hm;rfl
  rw[hm']at h1
  exact h1
 ·obtain⟨b,e1,e2,e3⟩:=Y1 s a 41 (by omega) (by omega)
  have k41:(41:Int).toNat=41:=rfl
  refine⟨b,?_,e2,by omega⟩
  simp only[Gn]
  rw[hw,if_pos (by omega),e1,zbs,if_pos (by rw[Kv];simp;omega),wrM (by omega) (by omega)]
 ·simp only[Gn];rw[hw,if_neg (by omega)]
theorem Avj (s:List UInt8)(c:Ab)(x m:Aq)(a:Nat)(q:Int)(ha:a≤8000)(hq:0≤q∧q≤64)(hN:4≤c.N∧c.N≤13)(hm:m.Log=[]):
 ∃b:Nat,R7 s c q x (a:Int) 0 m=some ((b:Int),{m with Log:=(pN (pE c.N) q.toNat (s.drop a)).1})∧Step s (pN (pE c.N) q.toNat) (q.toNat*3) a b:=by
 obtain⟨n,hn⟩:=Int.eq_ofNat_of_zero_le hq.1
 rw[hn,Int.toNat_natCast]
 have hn13:n≤64:=by omega
 unfold R7
 refine Exists.imp (fun b hb=> ?_) (vG s n 3 (pE c.N) (fun xs=>{m with Log:=xs}) (fun o m=>(o,m)) (f:=fun z=>Gq s c (n:Int) x z.1 z.2.1 z.2.2) (fun k a xs hk hl ha=> ?_) (fun o m=> ?_) n 0 a [] (by omega) rfl (by omega))
 ·obtain⟨h1,h2⟩:=hb
  refine⟨?_,h2⟩
  have hm':({m with Log:=[]}:Aq)=m:=by cases m;simp at hm;subst hm;rfl
  rw[hm']at h1
  exact h1
 ·refine⟨a+1+2,?_,?_,by omega⟩
  ·simp only[Gq]
   rw[if_pos (by omega),show wr ((a:Int)+1)=((a+1:Nat):Int)from by rw[wrM (by omega) (by omega)];omega,aZ s (a+1) (by omega),zbs,gS,zbs,if_neg (by omega),
    if_pos (by rw[Kv];simp;omega),wrM (n:=(k:Int)+1) (by omega) (by omega),Int.tmod_eq_emod_of_nonneg (Wf _).1,←tail_drop]
   rfl
  ·rw[Nat.add_assoc,←List.drop_drop]
   simp only[pE,pW,List.drop_drop,tail_drop]
 ·simp only[Gq];rw[if_neg (by omega)]
theorem Aul (s:List UInt8)(c:Ab)(x m:Aq)(a:Nat)(ha:a≤9000)(hm:m.Diag=⟨0,0,0,0,0,0⟩):
 R1 s c x (a:Int) 0 m=some {m with Diag:=dset (pN pW 6 (s.drop a)).1}:=by
 unfold R1
 have hx: ∃b:Nat,Ai (fun z:Int×Int×Aq=>Ev s c x z.1 z.2.1 z.2.2) ((a:Int),((0:Nat):Int),{m with Diag:=dset []})=some {m with Diag:=dset ([]++(pN pW 6 (s.drop a)).1)}∧Step s (pN pW 6) (6*2) a b:=by
  refine(vG s 6 2 pW (fun xs=>{m with Diag:=dset xs}) (fun o m=>m) (f:=fun z:Int×Int×Aq=>Ev s c x z.1 z.2.1 z.2.2) (fun k a xs hk hl ha=> ?_) (fun o m=> ?_) 6 0 a [] (by omega) rfl (by omega))
  ·refine⟨a+2,?_,Step.w⟩
   simp only[Ev]
   rw[if_pos (by omega),aZ s a (by omega),zbs,if_pos (by omega),Int.toNat_natCast,tM xs k _ hk hl,zbs,wrM (by omega) (by omega)]
  ·simp only[Ev];rw[if_neg (by omega)]
 obtain⟨b,h1,-⟩:=hx
 have hm':({m with Diag:=dset []}:Aq)=m:=by cases m;simp at hm;subst hm;rfl
 rw[hm']at h1
 exact h1
theorem yJ (c:Ab)(m:Aq)(t:List UInt8)(h:m.Pipe.length≤1000):MIn (X8 c m t):=by
 have h2: ∀z:Int,(z%65).toNat<65:=fun z=>by have:=Int.emod_nonneg z (show(65:Int)≠0 by omega);have:=Int.emod_lt_of_pos z (show(0:Int)<65 by omega);omega
 refine⟨by show m.Pipe.length≤_;omega,?_⟩
 show(pN (pE c.N) ((pB (pN (pT 41) (c.N*c.D).toNat (pN pP c.N.toNat t).2).2).1%65).toNat _).1.length≤4294967295
 rw[jT]
 have:=h2 (pB (pN (pT 41) (c.N*c.D).toNat (pN pP c.N.toNat t).2).2).1
 omega
theorem Avx (s:List UInt8)(c:Ab)(m:Aq)(a:Nat)(hc:CIn c)(hp:Pl c)(ha:a≤1000)(h1:m.Ports=[])(h2:m.Hold=[])(h3:m.Log=[])(h4:m.Diag=⟨0,0,0,0,0,0⟩)(h5:m.Pipe.length≤1000):
 ((Rs s c Hj (a:Int) 0 m).bind fun r23=>(Rw s c Hj r23.1 0 r23.2).bind fun r25=>(Hi s r25.1).bind fun r26=>(R7 s c (Int.tmod r26 65) Hj (wr (r25.1+1)) 0 r25.2).bind fun r29=>
   (R1 s c Hj r29.1 0 r29.2).bind fun r31=>(Tp c r31).bind fun r32=>some r32)=some (mB c (X8 c m (s.drop a))):=by
 obtain⟨n0,n1',d0,d1,m0,m1,f0,f1,x,y,p0,p1,t0,t1⟩:=Qg c hp
 have l3:c.N.toNat≤13:=by omega
 have l4:(c.N*c.D).toNat≤52:=by omega
 have w1:c.N.toNat*19≤300:=by omega
 have w2:(c.N*c.D).toNat*41≤3000:=by omega
 obtain⟨b5,e5,s5,k5⟩:=Aob s c Hj m a (by omega) ⟨by omega,n1'⟩ h1
 obtain⟨b6,e6,s6,k6⟩:=Auq s c Hj {m with Ports:=(pN pP c.N.toNat (s.drop a)).1} b5 (by omega) hp h2
 have hb:=Wf (s.drop b6)
 have hq1:=Int.emod_nonneg (pB (s.drop b6)).1 (show(65:Int)≠0 by omega)
 have hq2:=Int.emod_lt_of_pos (pB (s.drop b6)).1 (show(0:Int)<65 by omega)
 obtain⟨b7,e7,s7,k7⟩:=Avj s c Hj {m with Ports:=(pN pP c.N.toNat (s.drop a)).1,Hold:=(pN (pT 41) (c.N*c.D).toNat (s.drop b5)).1} (b6+1) ((pB (s.drop b6)).1%65) (by omega) ⟨hq1,by omega⟩ ⟨n0,n1'⟩ h3
 have w3:((pB (s.drop b6)).1%65).toNat*3≤300:=by omega
 have e8:=Aul s c Hj {m with Ports:=(pN pP c.N.toNat (s.drop a)).1,Hold:=(pN (pT 41) (c.N*c.D).toNat (s.drop b5)).1,Log:=(pN (pE c.N) ((pB (s.drop b6)).1%65).toNat (s.drop (b6+1))).1} b7 (by omega) h4
 have hw:wr ((b6:Int)+1)=((b6+1:Nat):Int):=by rw[wrM (by omega) (by omega)];omega
 have hl:({m with Ports:=(pN pP c.N.toNat (s.drop a)).1,Hold:=(pN (pT 41) (c.N*c.D).toNat (s.drop b5)).1,Log:=(pN (pE c.N) ((pB (s.drop b6)).1%65).toNat (s.drop (b6+1))).1,Diag:=dset (pN pW 6 (s.drop b7)).1}:Aq)=X8 c m (s.drop a):=by
  simp only[X8,←s5,←s6,←(Step.b (s:=s)).1,←s7]
 rw[e5,zbs]
 simp only
 rw[e6,zbs]
 simp only
 rw[gS,zbs,Int.tmod_eq_emod_of_nonneg hb.1,hw,e7,zbs]
 simp only
 rw[e8,zbs,hl,Ame c _ hc hp (yJ c m _ h5)]
 rfl
theorem sR (c:Ab)(s:List UInt8)(hc:CIn c):Ur c s=some (if Bh c=0 then mB c (Abr c s)else Hj):=by
 unfold Ur
 rw[Ce c hc,zbs]
 by_cases h0:Bh c=0
 ·rw[if_neg (by simpa using h0),if_pos h0]
  have hp:=(A7 c).1 h0
  have hl:=M3 c hp
  obtain⟨n0,n1',d0,d1,m0,m1,f0,f1,x,y,p0,p1,t0,t1⟩:=Qg c hp
  have ht:c.Table.length≤32:=hp.2.2.2.2.1
  have l1:(Pp c).toNat≤60:=by omega
  have l2:(8+c.N).toNat≤21:=by omega
  have l3:c.N.toNat≤13:=by omega
  have k17:(17:Int).toNat=17:=rfl
  obtain⟨b1,e1,s1,k1⟩:=eU s (9+(Pp c).toNat) (8+c.N) (by omega) (by omega)
  obtain⟨b2,e2,s2,k2⟩:=eU s b1 (8+c.N) (by omega) (by omega)
  obtain⟨b3,e3,s3,k3⟩:=Y1 s (b2+c.N.toNat+c.N.toNat+c.Table.length+c.Table.length) 17 (by omega) (by omega)
  obtain⟨b4,e4,s4,k4⟩:=Y1 s b3 17 (by omega) (by omega)
  rw[show C7 s 0 2=C7 s ((0:Nat):Int) 2 from rfl,aZ s 0 (by omega),zbs,aZ s _ (by omega),zbs,aZ s _ (by omega),zbs,bU s _ (by omega),zbs,
   bU s _ (by omega),zbs,bU s _ (by omega),zbs,aC c hc hp,zbs,Q2 s _ _ (by omega) (by omega),zbs,tI c hc hp,zbs,e1,zbs,
   zbs,e2,zbs,Q2 s _ _ (by omega) (by omega),zbs,Q2 s _ _ (by omega) (by omega),zbs,Q2 s _ _ (by omega) (by omega),zbs,
   Q2 s _ _ (by omega) (by simp only[Int.toNat_natCast];omega),zbs]
  simp only[Int.toNat_natCast]
  rw[e3,zbs,e4,zbs]
  refine(Avx s c _ b4 hc hp (by omega) rfl rfl rfl rfl (by simp only[jA];omega)).trans ?_
  congr 2
  have hn:s.drop 9=(Mo Hj s).2:=by
   have ht: ∀t:List UInt8,t.tail=t.drop 1:=fun t=>List.drop_one.symm
   simp only[Mo,pW,pB,ht,List.drop_drop]
  have ht2:s.drop b4=(Oh c (Mo Hj s).1 (s.drop 9)).2:=by
   simp only[Oh,←(Step.r (s:=s)).1,←s1,←s2,←s3,←s4]
  unfold Abr
  rw[←hn,←ht2]
  congr 1
  simp only[Oh,←(Step.r (s:=s)).1,←s1,←s2,←s3,←s4]
  have w0:(pW s).2=s.drop 2:=(Step.w (s:=s) (a:=0)).1.symm
  simp only[Mo,w0,←(Step.w (s:=s)).1,←(Step.b (s:=s)).1,List.drop_zero,Nat.reduceAdd]
  rfl
 ·rw[if_pos (by simpa using h0),if_neg h0];rfl
theorem notb {α:Type}{p:Prop} [Decidable p]{a b:α}:(if(!decide p)=true then a else b)=if p then b else a:=by by_cases h:p<;>simp[h]
theorem sV (c:Ab):E7 c=some (clV c.N):=by
 unfold E7 Fo clV
 split
 ·rfl
 ·rw[if_neg (by omega)]
  split<;>rfl
theorem iR (n:Int):Dk n 0 13=some (clV n):=by
 unfold Dk clV
 split
 ·rfl
 ·rw[if_neg (by omega)]
  congr 1
  rw[Int.min_def]
  split<;>split<;>omega
theorem Abj (n:Int):0≤clV n∧clV n≤13:=by
 unfold clV
 split
 ·omega
 ·split<;>omega
theorem Gd {α:Type}{l:List α}{i:Int}(h0:0≤i)(h:i<(l.length:Int)): ∃x,idx? l i=some x∧l[i.toNat]? =some x∧x∈l:=by
 have hk:i.toNat<l.length:=by omega
 refine⟨l[i.toNat],?_,zge hk,List.getElem_mem hk⟩
 have:=Ak (zge hk)
 rw[show((i.toNat:Nat):Int)=i by omega]at this
 exact this
theorem zF {s:Aa}(h:SIn s)(n:Int):Lc s n=some (decide (n∈s.Faulty)):=by
 unfold Lc
 rw[Sw _ _ (by have:=h.f;omega)];rfl
theorem jY {s:Aa}(h:SIn s)(n:Int):Od s n=some (decide (n∈s.Faulty)):=by
 unfold Od
 rw[Ak6 _ _ (by have:=h.f;omega)];rfl
def Zz (s:Aa)(k:Nat):List Int:=if(k:Int)∈s.Faulty then []else [(k:Int)]
def Bc (s:Aa):List Int:=(List.range (clV s.Conf.N).toNat).flatMap (Zz s)
theorem fZ (s:Aa)(k:Nat):((List.range k).flatMap (Zz s)).length≤k:=by
 have:=Lm (Zz s) 1 (fun k=>by unfold Zz;split<;>simp) k
 omega
theorem It (s:Aa):(Bc s).length≤13:=by
 have:=fZ s (clV s.Conf.N).toNat
 have:=Abj s.Conf.N
 unfold Bc
 omega
theorem Yr {s:Aa}{n:Int}(h:n∈Bc s):IsN s.Conf n∧n∉s.Faulty:=by
 unfold Bc at h
 obtain⟨k,hk,h⟩:=List.mem_flatMap.1 h
 unfold Zz at h
 have:=List.mem_range.1 hk
 split at h
 ·cases h
 ·rename_i hm
  simp only[List.mem_singleton]at h
  subst h
  exact⟨⟨by omega,by omega⟩,hm⟩
theorem mG {s:Aa}(h:SIn s):Jb s=some (Bc s):=by
 have hc:=Abj s.Conf.N
 have L:=L9 (f:=fun p:List Int×Int=>Dp s (clV s.Conf.N) p.1 p.2) (clV s.Conf.N).toNat (Zz s) (fun k hk=>by
  simp only[Dp]
  have:=fZ s k
  rw[if_pos (by omega),zF h,zbs,wrI rfl (by omega),notb,show Zz s k=if(k:Int)∈s.Faulty then []else [(k:Int)]from rfl]
  by_cases hm:(k:Int)∈s.Faulty
  ·rw[if_pos hm,if_pos hm,List.append_nil]
  ·rw[if_neg hm,if_neg hm,if_pos (by simp only[List.length_cons,List.length_nil,Ar];omega)]) (by
  simp only[Dp]
  rw[if_neg (by omega)])
 unfold Jb
 rw[sV,zbs]
 unfold Qb
 rw[L]
 rfl
theorem Z0 {s:Aa}(h:SIn s):J3 s=some (Bc s):=by
 have hc:=Abj s.Conf.N
 have L:=L9 (f:=fun p:List Int×Int=>En s p.1 p.2) (clV s.Conf.N).toNat (Zz s) (fun k hk=>by
  simp only[En]
  have:=fZ s k
  rw[iR,zbs,if_pos (by omega),jY h,zbs,wrI rfl (by omega),notb,show Zz s k=if(k:Int)∈s.Faulty then []else [(k:Int)]from rfl]
  by_cases hm:(k:Int)∈s.Faulty
  ·rw[if_pos hm,if_pos hm,List.append_nil]
  ·rw[if_neg hm,if_neg hm,if_pos (by simp only[List.length_cons,List.length_nil,Ar];omega)]) (by
  simp only[En]
  rw[iR,zbs,if_neg (by omega)])
 unfold J3 Vy
 rw[L]
 rfl
def unV (s:Aa)(t n:Int):Int:=
 if t<0 then 0 else if(s.Ticks.length:Int)≤t then 0 else if¬IsN s.Conf n then 0 else((idx? s.Ticks t).bind fun z=>if n<(z.Units.length:Int)then idx? z.Units n else some s.Conf.Rate).getD 0
def dlV (s:Aa)(t a b:Int):Int:=
 if t<0 then 0 else if(s.Ticks.length:Int)≤t then 0 else if¬IsN s.Conf a then 0 else if¬IsN s.Conf b then 0 else
  ((idx? s.Ticks t).bind fun z=>if a*clV s.Conf.N+b<(z.Delays.length:Int)then idx? z.Delays (a*clV s.Conf.N+b)else some s.Conf.D).getD 0
theorem Ale (s:Aa)(t n:Int):Mw s t n=some (unV s t n):=by
 unfold Mw Q4 unV
 by_cases h1:t<0
 ·rw[if_pos h1,if_pos h1];rfl
 rw[if_neg h1,if_neg h1]
 by_cases h2:(s.Ticks.length:Int)≤t
 ·rw[if_pos h2,if_pos h2];rfl
 rw[if_neg h2,if_neg h2]
 obtain⟨z,hz,-,-⟩:=Gd (l:=s.Ticks) (i:=t) (by omega) (by omega)
 rw[hz]
 simp only[zbs,Bool.not_true,Bool.false_eq_true,if_false,eW,notd]
 by_cases h3:IsN s.Conf n
 ·rw[decide_eq_true h3]
  simp only[Bool.not_true,Bool.false_eq_true,if_false,h3,not_true]
  unfold Ek
  by_cases h4:n<(z.Units.length:Int)
  ·obtain⟨u,hu,-,-⟩:=Gd (l:=z.Units) (i:=n) h3.1 h4
   rw[if_pos h4,if_pos h4,hu];rfl
  ·rw[if_neg h4,if_neg h4];rfl
 ·rw[decide_eq_false h3]
  simp[h3]
theorem Adi (s:Aa)(t n:Int):T6 s t n=some (unV s t n):=by
 unfold T6 unV
 by_cases h1:t<0
 ·rw[if_pos h1,if_pos h1]
 rw[if_neg h1,if_neg h1]
 by_cases h2:(s.Ticks.length:Int)≤t
 ·rw[if_pos h2,if_pos h2]
 rw[if_neg h2,if_neg h2]
 obtain⟨z,hz,-,-⟩:=Gd (l:=s.Ticks) (i:=t) (by omega) (by omega)
 rw[hz]
 simp only[zbs,O9]
 by_cases h3:IsN s.Conf n
 ·rw[decide_eq_true h3]
  simp only[Bool.not_true,Bool.false_eq_true,if_false,h3,not_true]
  by_cases h4:n<(z.Units.length:Int)
  ·obtain⟨u,hu,-,-⟩:=Gd (l:=z.Units) (i:=n) h3.1 h4
   rw[if_pos h4,if_pos h4,hu];rfl
  ·rw[if_neg h4,if_neg h4];rfl
 ·rw[decide_eq_false h3]
  simp[h3]
theorem vU {c:Ab}{a b:Int}(ha:IsN c a)(hb:IsN c b):wr (wr (a*clV c.N)+b)=a*clV c.N+b∧0≤a*clV c.N+b:=by
 have hc:=Abj c.N
 obtain⟨a0,a1⟩:=ha
 obtain⟨b0,b1⟩:=hb
 have h:=fT (A:=13) (B:=13) a0 (by omega) hc.1 hc.2
 rw[wrI (n:=a*clV c.N) rfl (by omega),wrI rfl (by omega)]
 exact⟨rfl,by omega⟩
theorem Ah6 (s:Aa)(t a b:Int):M1 s t a b=some (dlV s t a b):=by
 unfold M1 Q4 dlV
 by_cases h1:t<0
 ·rw[if_pos h1,if_pos h1];rfl
 rw[if_neg h1,if_neg h1]
 by_cases h2:(s.Ticks.length:Int)≤t
 ·rw[if_pos h2,if_pos h2];rfl
 rw[if_neg h2,if_neg h2]
 obtain⟨z,hz,-,-⟩:=Gd (l:=s.Ticks) (i:=t) (by omega) (by omega)
 rw[hz]
 simp only[zbs,Bool.not_true,Bool.false_eq_true,if_false,eW]
 by_cases h3:IsN s.Conf a
 ·rw[decide_eq_true h3]
  by_cases h4:IsN s.Conf b
  ·rw[decide_eq_true h4]
   simp only[Bool.not_true,Bool.false_eq_true,if_false,h3,h4,not_true,sV,zbs]
   obtain⟨e,h0⟩:=vU h3 h4
   rw[e]
   unfold Ek
   by_cases h5:a*clV s.Conf.N+b<(z.Delays.length:Int)
   ·obtain⟨u,hu,-,-⟩:=Gd (l:=z.Delays) h0 h5
    rw[if_pos h5,if_pos h5,hu];rfl
   ·rw[if_neg h5,if_neg h5];rfl
  ·rw[decide_eq_false h4]
   simp[h3,h4]
 ·rw[decide_eq_false h3]
  simp[h3]
theorem Acz (s:Aa)(t a b:Int):Tx s t a b=some (dlV s t a b):=by
 unfold Tx dlV
 by_cases h1:t<0
 ·rw[if_pos h1,if_pos h1]
 rw[if_neg h1,if_neg h1]
 by_cases h2:(s.Ticks.length:Int)≤t
 ·rw[if_pos h2,if_pos h2]
 rw[if_neg h2,if_neg h2]
 obtain⟨z,hz,-,-⟩:=Gd (l:=s.Ticks) (i:=t) (by omega) (by omega)
 rw[hz]
 simp only[zbs,O9]
 by_cases h3:IsN s.Conf a
 ·rw[decide_eq_true h3]
  by_cases h4:IsN s.Conf b
  ·rw[decide_eq_true h4]
   simp only[Bool.not_true,Bool.false_eq_true,if_false,h3,h4,not_true,iR,zbs]
   obtain⟨e,h0⟩:=vU h3 h4
   rw[e]
   by_cases h5:a*clV s.Conf.N+b<(z.Delays.length:Int)
   ·obtain⟨u,hu,-,-⟩:=Gd (l:=z.Delays) h0 h5
    rw[if_pos h5,if_pos h5,hu];rfl
   ·rw[if_neg h5,if_neg h5];rfl
  ·rw[decide_eq_false h4]
   simp[h3,h4]
 ·rw[decide_eq_false h3]
  simp[h3]
def Swift (s:Aa)(t a:Int):Prop:= ∀b∈Bc s,1≤dlV s t a b∧dlV s t a b≤s.Conf.D
def Steady (s:Aa)(t a:Int):Prop:=wr (s.Conf.Rate-s.Conf.Drift)≤unV s t a∧unV s t a≤wr (s.Conf.Rate+s.Conf.Drift)
instance (s :Aa)(t a:Int):Decidable (Swift s t a):=by unfold Swift;infer_instance
instance (s :Aa)(t a:Int):Decidable (Steady s t a):=by unfold Steady;infer_instance
def mI (s:Aa)(t:Int)(z:Am):Prop:=z.Bursts.length=0∧z.Strays.length=0∧∀a∈Bc s,Steady s t a∧Swift s t a
instance (s :Aa)(t:Int)(z:Am):Decidable (mI s t z):=by unfold mI;infer_instance
theorem Agn (s:Aa)(t a:Int):Jm (An.mk s) t a (Bc s)=some (decide (Swift s t a)):=by
 have hl:=It s
 refine Fz (fun p=>C9 t a (An.mk s) (Bc s) ((Bc s).length:Int) p) (Bc s) (fun b=>1≤dlV s t a b∧dlV s t a b≤s.Conf.D) (fun k x hk hx=> ?_) ?_
 ·simp only[C9]
  rw[if_pos (by omega),Ak hx,zbs,Ah6,zbs,wrI rfl (by omega)]
  by_cases h1:dlV s t a x<1
  ·rw[if_pos h1,if_neg (by omega)]
  ·rw[if_neg h1]
   by_cases h2:s.Conf.D<dlV s t a x
   ·rw[if_pos h2,if_neg (by omega)]
   ·rw[if_neg h2,if_pos (by omega)]
 ·simp only[C9];rw[if_neg (by omega)]
theorem Aek (s:Aa)(t a:Int):Fs (An.mk s) t a=some (decide (Steady s t a)):=by
 unfold Fs
 rw[Ale,zbs]
 exact Yn
theorem Ap5 {s:Aa}(h:SIn s){t:Int}{z:Am}(hz:idx? s.Ticks t=some z):H7 (An.mk s) t=some (decide (mI s t z)):=by
 have hl:=It s
 unfold H7 Jn
 rw[hz,zbs]
 by_cases h1:z.Bursts.length=0
 ·rw[if_pos (by omega),zbs,zbs]
  by_cases h2:z.Strays.length=0
  ·rw[decide_eq_true (by omega),if_neg (by simp),mG h,zbs]
   rw[show(Ik t (An.mk s) (Bc s) (Bc s) ((Bc s).length:Int) 0)=Ai (fun p=>Co t (An.mk s) (Bc s) (Bc s) ((Bc s).length:Int) p) 0 from rfl]
   refine(Fz (fun p=>Co t (An.mk s) (Bc s) (Bc s) ((Bc s).length:Int) p) (Bc s) (fun a=>Steady s t a∧Swift s t a) (fun k x hk hx=> ?_) ?_).trans ?_
   ·simp only[Co]
    rw[if_pos (by omega),Ak hx,zbs,Aek,zbs,Agn,zbs,wrI rfl (by omega),notb,notb]
    by_cases h3:Steady s t x
    ·by_cases h4:Swift s t x<;>simp[h3,h4]
    ·simp[h3]
   ·simp only[Co];rw[if_neg (by omega)]
   ·congr 1
    exact Bool.eq_iff_iff.2 (by simp only[decide_eq_true_eq];exact⟨fun h=>⟨h1,h2,h⟩,fun h=>h.2.2⟩)
  ·rw[decide_eq_false (by omega),if_pos (by simp),decide_eq_false fun h=>h2 h.2.1]
 ·rw[if_neg (by omega),zbs,if_pos (by simp),decide_eq_false fun h=>h1 h.1]
theorem Ac4 (s:Aa)(t a:Int)(x4:List Int)(x5 x6:Int):Vz t s (Bc s) a x4 x5 x6 (Bc s) ((Bc s).length:Int) s.Conf 0=some (if Swift s t a then .inr ()else .inl false):=by
 have hl:=It s
 refine Dz (f:=fun p=>I5 t s (Bc s) a x4 x5 x6 (Bc s) ((Bc s).length:Int) s.Conf p) (Bc s) (fun b=>1≤dlV s t a b∧dlV s t a b≤s.Conf.D) (fun k x hk hx=> ?_) ?_ |>.trans ?_
 ·simp only[I5]
  rw[if_pos (by omega),Ak hx,zbs,Acz,zbs,wrI rfl (by omega)]
  by_cases h1:dlV s t a x<1
  ·rw[if_pos h1,if_neg (by omega)]
  ·rw[if_neg h1]
   by_cases h2:s.Conf.D<dlV s t a x
   ·rw[if_pos h2,if_neg (by omega)]
   ·rw[if_neg h2,if_pos (by omega)]
 ·simp only[I5];rw[if_neg (by omega)]
 ·congr 1
  by_cases h:Swift s t a
  ·rw[if_pos (show∀b∈Bc s,1≤dlV s t a b∧dlV s t a b≤s.Conf.D from h),if_pos h]
  ·rw[if_neg (show¬∀b∈Bc s,1≤dlV s t a b∧dlV s t a b≤s.Conf.D from h),if_neg h]
theorem Akj {s:Aa}(h:SIn s)(hp:Bh s.Conf=0){t:Int}(h0:0≤t)(h9:t<(s.Ticks.length:Int)){z:Am}(hz:idx? s.Ticks t=some z):Wz s t=some (decide (mI s t z)):=by
 have hl:=It s
 unfold Wz
 rw[if_neg (by omega),if_neg (by omega),Ce _ h.conf,zbs,if_neg (by simp[hp]),hz,zbs]
 by_cases h1:z.Bursts.length=0
 ·rw[if_neg (by omega),zbs]
  by_cases h2:z.Strays.length=0
  ·rw[if_neg (by omega),Z0 h,zbs]
   rw[show(Vd t s (Bc s) (Bc s) ((Bc s).length:Int) s.Conf 0)=Ai (fun p=>Gt t s (Bc s) (Bc s) ((Bc s).length:Int) s.Conf p) 0 from rfl]
   refine(Fz (fun p=>Gt t s (Bc s) (Bc s) ((Bc s).length:Int) s.Conf p) (Bc s) (fun a=>Steady s t a∧Swift s t a) (fun k x hk hx=> ?_) ?_).trans ?_
   ·simp only[Gt]
    rw[if_pos (by omega),Ak hx,zbs,Adi,zbs,Ac4,zbs,wrI (n:=(k:Int)+1) rfl (by omega)]
    by_cases h3:unV s t x<wr (s.Conf.Rate-s.Conf.Drift)
    ·rw[if_pos h3,if_neg (fun hh=>by have:=hh.1.1;omega)]
    ·rw[if_neg h3]
     by_cases h4:wr (s.Conf.Rate+s.Conf.Drift)<unV s t x
     ·rw[if_pos h4,if_neg (fun hh=>by have:=hh.1.2;omega)]
     ·rw[if_neg h4]
      by_cases h5:Swift s t x
      ·rw[if_pos h5,if_pos ⟨⟨by omega,by omega⟩,h5⟩];rfl
      ·rw[if_neg h5,if_neg (fun hh=>h5 hh.2)];rfl
   ·simp only[Gt];rw[if_neg (by omega)]
   ·congr 1
    exact Bool.eq_iff_iff.2 (by simp only[decide_eq_true_eq];exact⟨fun h=>⟨h1,h2,h⟩,fun h=>h.2.2⟩)
  ·rw[if_pos (by omega),decide_eq_false fun h=>h2 h.2.1]
 ·rw[if_pos (by omega),decide_eq_false fun h=>h1 h.1]
open Classical in
def Wk (p:Nat→Prop):Nat→Int
 |0=> -1
 |k+1=>if p k then Wk p k else(k:Int)
def eG (s:Aa)(k:Nat):Prop:= ∃z,s.Ticks[k]? =some z∧mI s (k:Int) z
def K1 (s:Aa):Int:=Wk (eG s) s.Ticks.length
theorem mJ {s:Aa}{k:Nat}{z:Am}(hz:s.Ticks[k]? =some z):eG s k↔mI s (k:Int) z:=
 ⟨fun⟨z',h1,h2⟩=>by rw[hz]at h1;injection h1 with h1;subst h1;exact h2,fun h=>⟨z,hz,h⟩⟩
theorem pY {s:Aa}(h:SIn s):Ec (An.mk s)=some (K1 s):=by
 have hT:=h.t
 have key: ∀k:Nat,k≤s.Ticks.length→Ai (fun p=>Cl (An.mk s) p) ((k:Int)-1)=some (Wk (eG s) k):=by
  intro k
  induction k with
  |zero=>intro _;exact Av (by simp only[Cl];rw[if_neg (by omega)];rfl)
  |succ k ih=>
   intro hk
   have hz:=zge (l:=s.Ticks) (i:=k) (by omega)
   have hc:=Ap5 h (Ak hz)
   have hi:=mJ hz
   rw[show((k+1:Nat):Int)-1=(k:Int) by omega]
   by_cases hp:eG s k
   ·rw[A5 (by simp only[Cl];rw[if_pos (by omega),hc,zbs,if_pos (by simp[hi.1 hp])]),wrI rfl (by omega),ih (by omega)]
    simp only[Wk,if_pos hp]
   ·rw[Av (by simp only[Cl];rw[if_pos (by omega),hc,zbs,if_neg (by simp only[decide_eq_true_eq];exact fun hh=>hp (hi.2 hh))])]
    simp only[Wk,if_neg hp]
 unfold Ec
 rw[wrI (m:=(s.Ticks.length:Int)-1) rfl (by omega)]
 have:=key s.Ticks.length (Nat.le_refl _)
 rw[show Il (An.mk s) ((s.Ticks.length:Int)-1)=some (K1 s)from this]
 rfl
theorem Al3 {s:Aa}(h:SIn s)(hp:Bh s.Conf=0):Vi s (-1) 0=some (K1 s):=by
 have hT:=h.t
 refine Y3 (f:=fun p:Int×Int=>I2 s p.1 p.2) (inv:=fun k=>(Wk (eG s) k,(k:Int))) s.Ticks.length (fun k hk=> ?_) ?_
 ·have hz:=zge (l:=s.Ticks) (i:=k) hk
  have hc:=Akj h hp (by omega) (by omega) (Ak hz)
  have hi:=mJ hz
  simp only[I2]
  rw[if_pos (by omega),hc,zbs,wrI rfl (by omega),notb]
  by_cases hq:eG s k
  ·rw[if_pos (hi.1 hq)]
   simp only[Wk,if_pos hq];rfl
  ·rw[if_neg fun hh=>hq (hi.2 hh)]
   simp only[Wk,if_neg hq];rfl
 ·simp only[I2];rw[if_neg (by omega)];rfl
theorem Ga {s:Aa}(h:E6 s=0):Bh s.Conf=0:=by
 unfold E6 at h
 by_cases h1:Tc s.Conf≠0
 ·rw[if_pos h1]at h;exact absurd h h1
 ·unfold Tc at h1
  by_cases h2:Bh s.Conf≠0
  ·rw[if_pos h2]at h1;exact absurd h2 h1
  ·exact Classical.not_not.1 h2
def Ew (s:Aa):Int:=if E6 s≠0 then E6 s else if s.Conf.F<(s.Faulty.length:Int)then 7 else 0
theorem Aha {s:Aa}(h:SIn s):Li s=some (Ew s):=by
 unfold Li Ew
 rw[Qv s h,zbs]
 split
 ·rfl
 ·split<;>rfl
theorem nS {s:Aa}(h:SIn s):Q8 s=some (Ew s):=by
 unfold Q8 Ew
 rw[Yz s h,zbs]
 split
 ·rfl
 ·split<;>rfl
def lE (c:Ab):Int:=wr (wr (1+wr (4*Pp c))+wr (2*c.Period))
def dT (c:Ab):Int:=wr (lE c+wr (4*c.Period))
theorem Aba {c:Ab}(hc:CIn c)(hp:Bh c=0):Kx c=some (lE c):=by
 unfold Kx Lk
 rw[Ch c hc,zbs,zbs,if_neg (by simp[hp]),Tu c hc ((A7 c).1 hp),zbs]
 rfl
theorem Aat {c:Ab}(hc:CIn c)(hp:Bh c=0):Ol c=some (lE c):=by
 unfold Ol
 rw[Ce c hc,zbs,if_neg (by simp[hp]),aC c hc ((A7 c).1 hp),zbs]
 rfl
theorem Aph {c:Ab}(hc:CIn c)(hp:Bh c=0):Uj c=some (dT c):=by
 unfold Uj Lk
 rw[Ch c hc,zbs,zbs,if_neg (by simp[hp]),Aba hc hp,zbs]
 rfl
theorem Ao2 {c:Ab}(hc:CIn c)(hp:Bh c=0):aO c=some (dT c):=by
 unfold aO
 rw[Ce c hc,zbs,if_neg (by simp[hp]),Aat hc hp,zbs]
 rfl
theorem Ahs {s:Aa}(h:SIn s)(h0:E6 s=0):Mx s=some (K1 s):=by
 unfold Mx
 rw[Qv s h,zbs,if_neg (by simp[h0]),pY h];rfl
theorem iJ {s:Aa}(h:SIn s)(h0:E6 s=0):Pk s=some (K1 s):=by
 unfold Pk
 rw[Yz s h,zbs,if_neg (by simp[h0]),Al3 h (Ga h0)];rfl
theorem Aqo {s:Aa}(h:SIn s)(h0:E6 s=0):I7 s=some (wr (K1 s+lE s.Conf)):=by
 unfold I7
 rw[Qv s h,zbs,if_neg (by simp[h0]),pY h,zbs,Aba h.conf (Ga h0)];rfl
theorem Aop {s:Aa}(h:SIn s)(h0:E6 s=0):Mt s=some (wr (K1 s+lE s.Conf)):=by
 unfold Mt
 rw[Yz s h,zbs,if_neg (by simp[h0]),iJ h h0,zbs,Aat h.conf (Ga h0)];rfl
theorem zW {s:Aa}(h:SIn s)(h0:E6 s=0):Mn s=some (wr (K1 s+dT s.Conf)):=by
 unfold Mn
 rw[Qv s h,zbs,if_neg (by simp[h0]),pY h,zbs,Aph h.conf (Ga h0)];rfl
theorem bE {s:Aa}(h:SIn s)(h0:E6 s=0):Pa s=some (wr (K1 s+dT s.Conf)):=by
 unfold Pa
 rw[Yz s h,zbs,if_neg (by simp[h0]),iJ h h0,zbs,Ao2 h.conf (Ga h0)];rfl
abbrev Rows :=List (List Ac)
def atV (rows:Rows)(t n:Int):Ac:=
 if t<0 then Ac.mk false false 0 0 [] 0 []else if n<0 then Ac.mk false false 0 0 [] 0 []else((rows[t.toNat]?).bind fun l=>l[n.toNat]?).getD (Ac.mk false false 0 0 [] 0 [])
theorem jQ (rows:Rows)(t n:Int):Dc rows t n=some (atV rows t n):=by
 unfold Dc atV
 by_cases h1:t<0
 ·rw[if_pos h1,if_pos h1]
 rw[if_neg h1,if_neg h1]
 by_cases h2:(rows.length:Int)≤t
 ·have e:rows[t.toNat]? =none:=List.getElem?_eq_none (by omega)
  rw[if_pos h2,e]
  split<;>rfl
 rw[if_neg h2]
 by_cases h3:n<0
 ·rw[if_pos h3,if_pos h3]
 rw[if_neg h3,if_neg h3]
 obtain⟨z,hz,hz2,-⟩:=Gd (l:=rows) (i:=t) (by omega) (by omega)
 rw[hz,zbs,hz2,zbs]
 by_cases h4:(z.length:Int)≤n
 ·have e:z[n.toNat]? =none:=List.getElem?_eq_none (by omega)
  rw[if_pos h4,zbs,e];rfl
 ·obtain⟨r,hr,hr2,-⟩:=Gd (l:=z) (i:=n) (by omega) (by omega)
  rw[if_neg h4,zbs,hr,hr2];rfl
theorem Ww (rows:Rows)(t n:Int):R5 rows t n=some (atV rows t n):=by
 unfold R5 atV
 by_cases h1:t<0
 ·rw[if_pos h1,if_pos h1]
 rw[if_neg h1,if_neg h1]
 by_cases h2:(rows.length:Int)≤t
 ·have e:rows[t.toNat]? =none:=List.getElem?_eq_none (by omega)
  rw[if_pos h2,e]
  split<;>rfl
 rw[if_neg h2]
 by_cases h3:n<0
 ·rw[if_pos h3,if_pos h3]
 rw[if_neg h3,if_neg h3]
 obtain⟨z,hz,hz2,-⟩:=Gd (l:=rows) (i:=t) (by omega) (by omega)
 rw[hz,zbs,hz2,zbs]
 by_cases h4:(z.length:Int)≤n
 ·have e:z[n.toNat]? =none:=List.getElem?_eq_none (by omega)
  rw[if_pos h4,zbs,e];rfl
 ·obtain⟨r,hr,hr2,-⟩:=Gd (l:=z) (i:=n) (by omega) (by omega)
  rw[if_neg h4,zbs,hr,hr2];rfl
theorem Hq {σ ρ:Type}{f:σ→Option (σ⊕ρ)}{s:σ}{r:ρ}(inv:Nat→σ)(n:Nat)(h0:inv 0=s)(h: ∀k,k<n→f (inv k)=some (.inl (inv (k+1))))(he:f (inv n)=some (.inr r)):Ai f s=some r:=h0▸Y3 inv n h he
theorem Je {c:Ab}(hp:Bh c=0):1≤c.Period∧c.Period≤400:=by
 obtain⟨⟨_,_,f0,_,_⟩,⟨d0,_⟩,⟨p0,p1,_⟩,-⟩:=(A7 c).1 hp
 have:0≤6*(c.F+1)*c.D:=Int.mul_nonneg (by omega) (by omega)
 omega
def stG (rows:Rows)(n f:Int)(k:Nat):List Int:=if(atV rows (f+(k:Int)) n).Pulse then [f+(k:Int)]else []
def stV (c:Ab)(rows:Rows)(n f:Int):List Int:=(List.range ((rows.length:Int)-c.Period+1-max f 0).toNat).flatMap (stG rows n (max f 0))
theorem Aks (rows:Rows)(n f:Int)(k:Nat):((List.range k).flatMap (stG rows n f)).length≤k:=by
 have:=Lm (stG rows n f) 1 (fun k=>by unfold stG;split<;>simp) k
 omega
theorem Ab2 {c:Ab}(hc:CIn c)(hp:Bh c=0){rows:Rows}(hr:rows.length≤100000000)(n f:Int)(hf:f≤1000000000):Lb c rows n f=some (stV c rows n f):=by
 have p1:=Je hp
 unfold Lb
 rw[Ch c hc,zbs,if_neg (by simp[hp])]
 obtain⟨m,hm⟩: ∃m,((rows.length:Int)-c.Period+1-max f 0).toNat=m:=⟨_,rfl⟩
 have hw:wr ((rows.length:Int)-c.Period)=(rows.length:Int)-c.Period:=wrI rfl (by omega)
 have L:Ai (fun p:List Int×Int=>Cq rows n c p.1 p.2) ([],max f 0)=some ((List.range m).flatMap (stG rows n (max f 0))):=by
  refine Hq (f:=fun p:List Int×Int=>Cq rows n c p.1 p.2) (inv:=fun k=>((List.range k).flatMap (stG rows n (max f 0)),max f 0+(k:Int))) m (by simp) (fun k hk=> ?_) ?_
  ·have:=Aks rows n (max f 0) k
   simp only[Cq]
   rw[hw,if_pos (by omega),jQ,zbs,wrI (n:=max f 0+(k:Int)+1) rfl (by omega)]
   rw[List.range_succ,List.flatMap_append,List.flatMap_singleton,show stG rows n (max f 0) k=if(atV rows (max f 0+(k:Int)) n).Pulse then [max f 0+(k:Int)]else []from rfl,
    show max f 0+((k+1:Nat):Int)=max f 0+(k:Int)+1 by omega]
   by_cases hq:(atV rows (max f 0+(k:Int)) n).Pulse=true
   ·rw[if_pos hq,if_pos hq,if_pos (by simp only[List.length_cons,List.length_nil,Ar];omega)]
   ·rw[if_neg hq,if_neg hq,List.append_nil]
  ·simp only[Cq]
   rw[hw,if_neg (by omega)]
 unfold P6
 rw[L,zbs]
 unfold stV
 rw[hm]
theorem Ag8 (g:Nat→List Int)(m:Nat): ∀n,m≤n→(List.range n).flatMap (fun k=>if k<m then g k else [])=(List.range m).flatMap g:=by
 intro n hn
 obtain⟨d,rfl⟩:=Nat.le.dest hn
 induction d with
 |zero=>
  rw[Nat.add_zero,List.flatMap_def,List.flatMap_def]
  congr 1
  exact List.map_congr_left fun k hk=>by rw[if_pos (List.mem_range.1 hk)]
 |succ d ih=>
  rw[←Nat.add_assoc,List.range_succ,List.flatMap_append,ih (by omega),List.flatMap_singleton,if_neg (by omega),List.append_nil]
theorem yF {c:Ab}(hc:CIn c)(hp:Bh c=0){rows:Rows}(hr:rows.length≤100000000)(n f:Int)(hf:f≤1000000000):Rx c rows n f=some (stV c rows n f):=by
 have p1:=Je hp
 unfold Rx
 rw[Ce c hc,zbs,if_neg (by simp[hp])]
 obtain⟨m,hm⟩: ∃m,((rows.length:Int)-c.Period+1-max f 0).toNat=m:=⟨_,rfl⟩
 have L:Ai (fun p:List Int×Int=>Du rows n c p.1 p.2) ([],max f 0)=some ((List.range ((rows.length:Int)-max f 0).toNat).flatMap (fun k=>if k<m then stG rows n (max f 0) k else [])):=by
  have hl: ∀k,((List.range k).flatMap (fun k=>if k<m then stG rows n (max f 0) k else [])).length≤k:=fun k=>by
   have:=Lm (fun k=>if k<m then stG rows n (max f 0) k else []) 1 (fun k=>by unfold stG;split<;>(try split)<;>simp) k
   omega
  refine Hq (f:=fun p:List Int×Int=>Du rows n c p.1 p.2) (inv:=fun k=>((List.range k).flatMap (fun k=>if k<m then stG rows n (max f 0) k else []),max f 0+(k:Int))) ((rows.length:Int)-max f 0).toNat (by simp) (fun k hk=> ?_) ?_
  ·have:=hl k
   simp only[Du]
   rw[if_pos (by omega),Ww,zbs,wrI (n:=max f 0+(k:Int)+1) rfl (by omega),wrI (n:=max f 0+(k:Int)+c.Period) rfl (by omega)]
   rw[List.range_succ,List.flatMap_append,List.flatMap_singleton,show stG rows n (max f 0) k=if(atV rows (max f 0+(k:Int)) n).Pulse then [max f 0+(k:Int)]else []from rfl,
    show max f 0+((k+1:Nat):Int)=max f 0+(k:Int)+1 by omega]
   by_cases hq:(atV rows (max f 0+(k:Int)) n).Pulse=true
   ·rw[if_pos hq,if_pos hq]
    by_cases hk2:k<m
    ·rw[if_pos hk2,if_pos (by omega),if_pos (by simp only[List.length_cons,List.length_nil,Ar];omega)]
    ·rw[if_neg hk2,if_neg (by omega),List.append_nil]
   ·rw[if_neg hq,if_neg hq,ite_self,List.append_nil]
  ·simp only[Du]
   rw[if_neg (by omega)]
 unfold Wa
 rw[L,zbs,Ag8 _ _ _ (by omega)]
 unfold stV
 rw[hm]
end
end Go.Proofs.YtaoijbibmcgdaaaGreat
set_option linter.unusedSimpArgs false
