/-
  PF, parts 20 to 31: a small machine with values, and that Go's code does what it tells. Conditions: none beyond each theorem's own.
-/
import Derived.Test.YtaoijbibmcgdaaaGreatPFc
import Derived.Test.YtaoijbibmcgdaaaGreatPFa
import Derived.Orders
import Derived.LoopN
import Derived.ScopeJumps
set_option linter.unusedVariables false
set_option linter.unusedSimpArgs false
namespace Go.Proofs.PF
section
variable {P:Program} {Γ:Glob} {N0:Base Γ} {w:World} {F X:Cell→Prop} {β:Nat→Cell} {Ow:Key→Cell→Prop} {env env':Env} {h h':Heap} {v:Value} {a a':AV} {act:Act} {R:CallF} {o:Oper}
theorem run_cp {t u ty et:TypeId}{e:Nat}(ht:P.underlying t=some (.slice et))(hz:szT P et=some e){A:Option Addr}{dLen dCap n:Nat}{x:Value}{news:List Value}{w':World}
 (hl:(Builtin.lenOf x).run P w= .ok n w) (hf:(Builtin.firstCells e (Nat.min n dLen) x).run P w= .ok news.toArray w)
 (hst:(A.elim (pure ()) fun a=>storeCells a news:Sem Unit).run P w= .ok () w'):
 (Builtin.copy_ #[t,u] ty #[.slice A dLen dCap,x]).run P w= .ok (goInt (Nat.min n dLen)) w':=by
 cases A with
 |none=>
  simp only[Option.elim,Sem.run_pure,Result.ok.injEq,true_and]at hst
  subst hst
  simp[Builtin.copy_,run_underlying ht,run_sizeOf hz,hl,hf]
 |some a=>
  simp only[Option.elim]at hst
  simp[Builtin.copy_,run_underlying ht,run_sizeOf hz,hl,hf,hst]
theorem snd_copy (g:GR N0 w F β Ow (slots act) env h v a){t u et:TypeId}{e:Nat}{d x:Operand}{d' x':Opd}(h1:okT d d'=true)(h2:okT x x'=true)(ht:P.underlying t=some (.slice et))(hz:szT P et=some e)
 (hop:o.op= .call {callee:=.builtin .copy,args:= #[d,x],argTypes:= #[t,u]})
 (ho:opv R env h (.copy e d' x')=some (a',env',h')):Out P N0 w F β h (XX F Ow) act env' h' ((execOp act.eval o).run P w) a':=by
 obtain⟨q1,-,-⟩:=g.opT h1
 simp only[opv]at ho
 cases hb:evo env d' with
 |arr nm off len e' ag=>
  rw[hb]at ho q1
  simp only at ho
  split at ho
  case isFalse=>cases ho
  rename_i hee
  subst hee
  obtain⟨ys,hys,ho⟩:=zbi ho
  obtain⟨ob,hob,ho⟩:=zbi ho
  split at ho
  ·rename_i hcond
   obtain⟨hw,c2⟩:=hcond
   simp only[Option.map_eq_some_iff,zpi]at ho
   obtain⟨cs,hcs,rfl,rfl,rfl⟩:=ho
   have hmn:min ys.length len≤ys.length:=Nat.min_le_left _ _
   obtain⟨news,n1,n2,n3,n4⟩:=src_run (P:=P) g h2 hys c2 hmn
   obtain⟨A,cap,ex,hlc,hA⟩:=q1.toArr
   have hel: ∀y∈ys,y.delem=true∧y.cells.length=e:=by
    intro y hm
    have:=List.all_eq_true.1 c2 y hm
    simp only[zba,decide_eq_true_eq]at this
    exact this.1
   have lt:((ys.take (min ys.length len)).flatMap AV.cells).length=min ys.length len*e:=by
    have:=lenF (xs:=ys.take (min ys.length len)) (e:=e) fun x hm=>(hel x (List.mem_of_mem_take hm)).2
    rw[List.length_take,Nat.min_eq_left hmn]at this
    exact this
   have hdc: ∀c∈(ys.take (min ys.length len)).flatMap AV.cells,c.dcell=true:=delem_flat fun y hy=>(hel y (List.mem_of_mem_take hy)).1
   have hisc: ∀c:AV,c.dcell=true→c.isCell=true∧c.notOwn=true:=by
    intro c hd
    cases c with
    |lst gg ys=>cases gg<;>first|exact⟨rfl,rfl⟩|cases hd
    |_=>first|exact⟨rfl,rfl⟩|cases hd
   obtain⟨g2,k2,f2⟩:=g.store hob hw off news _ cs (by rw[n1,lt]) hcs (by
    intro i hi
    have hm:=hdc _ (List.getElem_mem (by rw[lt,←n1];exact hi))
    exact⟨n4 i hi _,(hisc _ hm).1,fun r hr=>by(rw[dcell_refs2 hm]at hr;cases hr),.inl (hisc _ hm).2⟩) undef
   have hst:(A.elim (pure ()) fun a=>storeCells a news:Sem Unit).run P w= .ok () (wput w (β nm).1 ((β nm).2+off) news):=by
    rcases Nat.eq_zero_or_pos len with h0|h0
    ·subst h0
     have:news=[]:=List.eq_nil_of_length_eq_zero (by rw[n1];simp)
     subst this
     cases A<;>rfl
    ·have:=hA h0
     subst this
     have:=run_put (P:=P) (β nm).1 ((β nm).2+off) news 0 w (fun u hu=> ?_) (fun j hj=> ?_)
     ·exact this
     ·obtain⟨i,hi,rfl⟩:=List.getElem_of_mem hu
      exact(n4 i hi (by omega)).oneCell (hisc _ (hdc _ (List.getElem_mem _))).1
     ·have hlt:=(storeC_get off _ _ _ hcs).2.1
      have:=(g.obj nm ob hob).wr hw (off+j) (by rw[lt]at hlt;omega)
      have:=g.inv.live _ (.inr ⟨_,this⟩)
      simpa [place,Nat.add_assoc]using this
   have hr:=run_cp (dCap:=cap) (ty:=o.type) (u:=u) ht hz n2 (n3 w fun _ _ h=>h) hst
   refine⟨.int .i64 (min ys.length len:Nat),_,β,_,.inl ?_,g2.pend' (.int _ _) (.of rfl) (fun r hr=>by simp[refs]at hr),k2,f2,fun _ _ _=>rfl⟩
   rw[run_bi hop]
   simp only[builtin,List.map_toArray,List.map_cons,List.map_nil,ex]
   rw[Sem.run_bind,hr];rfl
  ·cases ho
 |_=>rw[hb]at ho;cases ho
theorem snd_s2b (g:GR N0 w F β Ow (slots act) env h v a){src dst et:TypeId}{x:Operand}{x':Opd}(h1:okT x x'=true)(hs: ∃d,P.underlying src=some d)(hd:P.underlying dst=some (.slice et))(he:P.underlying et=some (.int .u8))
 (hop:o.op= .convert src dst x) (ho:opv R env h (.s2b x')=some (a',env',h')):Out P N0 w F β h (XX F Ow) act env' h' ((execOp act.eval o).run P w) a':=by
 obtain⟨q1,-,-⟩:=g.opT h1
 obtain⟨sd,hsd⟩:=hs
 simp only[opv]at ho
 cases hx:evo env x' with
 |str s=>
  rw[hx]at ho q1
  simp only at ho
  split at ho
  ·simp only[zsi,zpi]at ho
   obtain⟨rfl,rfl,rfl⟩:=ho
   obtain⟨by_,ex,rfl⟩:=q1.toStr
   have hr:=Lib.run_convert_string_bytes (P:=P) w src dst et by_ hsd hd he
   have hge:by_.size≤grownCap w by_.size 0 et:=grownCap_ge w by_.size 0 et
   have hsz:(Lib.bytesCells w et by_).size=grownCap w by_.size 0 et:=by
    simp only[Lib.bytesCells,Array.size_append,Array.size_map,Array.size_replicate]
    have:by_.data.size=by_.size:=rfl
    omega
   have hle:(by_.data.toList.map byteAV).length=by_.size:=by rw[List.length_map,size_list]
   have hflat:(by_.data.toList.map byteAV).flatMap AV.cells=by_.data.toList.map byteAV:=by
    rw[List.flatMap_map]
    induction by_.data.toList with
    |nil=>rfl
    |cons c r ih=>rw[List.flatMap_cons,ih];rfl
   refine out_lst g (Lib.bytesCells w et by_) et 1 (grownCap w by_.size 0 et) (.own 1) (by_.data.toList.map byteAV) (by rw[hle,hsz];omega) (by rw[hle];exact hge) (by simp) (fun e' he'=> ?_) ?_ ?_ (w':=Lib.bytesWorld w et by_) ?_ ?_ ?_
   ·injection he' with he';subst he';exact⟨rfl,by rw[hsz];omega⟩
   ·intro y hy
    obtain⟨c,-,rfl⟩:=List.mem_map.1 hy
    exact⟨rfl,rfl⟩
   ·intro j j1 j2
    simp only[hflat,List.getElem_map]
    rw[hflat,List.length_map]at j1
    have:(Lib.bytesCells w et by_)[j]= .int .u8 (by_.data.toList[j]).toNat:=by
     simp only[Lib.bytesCells]
     rw[Array.getElem_append_left (by simpa using j1)]
     simp
    rw[this]
    exact .int _ _
   ·exact⟨rfl,rfl,rfl,by rw[Lib.bytesWorld_size];omega,fun k hk=>Lib.bytesWorld_at_old w et by_ k hk⟩
   ·intro j hj
    have hn:=Lib.bytesWorld_at_new w et by_
    refine⟨?_,?_⟩
    ·simp only[cat,World.cell?,hn,Array.getElem?_eq_getElem hj];rfl
    ·simp only[cfz,World.frozen?,hn]
     simp;omega
   ·rw[hle]
    simp only[execOp,hop,Sem.run_bind,ex,hr,Result.andThen_ok,Sem.run_pure]
  ·cases ho
 |_=>rw[hx]at ho;cases ho
theorem out_newG (g:GR N0 w F β Ow (slots act) env h v a){nm:Nat}(hn:hget h nm=none)(cs:Array Value)(as:List AV)(hl:as.length≤cs.size)
 (hv: ∀j (h1:j<as.length) (h2:j<cs.size),as[j].isCell=true∧(∀S,OwnOk S cs[j] as[j])∧(∀r∈refs2 as[j],(hget h r).isSome)∧VRel w (XX F Ow) β cs[j] as[j])
 {w':World} (hw:Ext w w') (hat: ∀j (h2:j<cs.size),cat w' (w.heap.size,j)=some cs[j]∧cfz w' (w.heap.size,j)=false)
 {r:Result Next} {u:Value} {x:AV} (hr:r= .ok (.value u) w') (hu: ∀w' X' β',β' nm=(w.heap.size,0)→VRel w' X' β' u x) (hx:refs x=[nm]) (hx2:x.notOwn=true):Out P N0 w F β h (XX F Ow) act env ((nm,⟨true,as⟩)::h) r x:=by
 have g1:=g.forget hn undef
 have hX1: ∀c,XX F (dropK Ow fun k=>k= .val∨k= .obj nm∨∃j,k= .cell nm j) c→XX F Ow c:=fun _ h=>XX_drop h
 have k1:=(Kp.refl N0 w (XX F Ow)).shrink hX1
 obtain⟨g2,k2,f2⟩:=g1.grow hw (.obj nm) (fun c=>c.1=w.heap.size∧c.2<as.length) (fun c hc=>hc.1 (.inr (.inl rfl))) (by
  rintro⟨c1,c2⟩ ⟨h1,h2⟩
  simp only at h1 h2
  subst h1
  have:=hat c2 (by omega)
  exact⟨Nat.le_refl _,⟨_,this.1⟩,this.2⟩)
 obtain⟨g3,-⟩:=g2.newObj hn w.heap.size 0 ⟨true,as⟩ (by
  intro j hj
  simp only at hj ⊢
  obtain⟨q1,q2,q3,q4⟩:=hv j hj (by omega)
  refine⟨q1,q3,cs[j]'(by omega),?_,(q4.mono k1).mono k2,q2⟩
  rw[Nat.zero_add];exact(hat j (by omega)).1) rfl (by
  intro j hj
  simp only[addOw,if_true,Nat.zero_add]
  exact⟨trivial,hj⟩)
 refine⟨u,_,_,_,.inl hr,g3.pend' (hu _ _ _ (by simp)) (.of hx2) (fun r hr=> ?_),k1.trans k2,f2,fun j hj=> ?_⟩
 ·rw[hx]at hr
  simp only[List.mem_singleton]at hr
  subst hr
  rw[hget_cons,if_pos rfl];rfl
 ·have:j≠nm:=fun e=>by subst e;rw[hn]at hj;cases hj
  simp[this]
theorem snd_s2bA (g:GR N0 w F β Ow (slots act) env h v a){src dst et:TypeId}{nm:Nat}{x:Operand}{x':Opd}(h1:okT x x'=true)(hs: ∃d,P.underlying src=some d)(hd:P.underlying dst=some (.slice et))(he:P.underlying et=some (.int .u8))
 (hop:o.op= .convert src dst x) (ho:opv R env h (.s2bA nm x')=some (a',env',h')):Out P N0 w F β h (XX F Ow) act env' h' ((execOp act.eval o).run P w) a':=by
 obtain⟨q1,-,-⟩:=g.opT h1
 obtain⟨sd,hsd⟩:=hs
 simp only[opv]at ho
 cases hnm:hget h nm with
 |some ob=>rw[hnm]at ho;cases ho
 |none=>
 rw[hnm]at ho
 cases hx:evo env x' with
 |str s=>
  rw[hx]at ho q1
  simp only at ho
  split at ho
  ·simp only[zsi,zpi]at ho
   obtain⟨rfl,rfl,rfl⟩:=ho
   obtain⟨by_,ex,rfl⟩:=q1.toStr
   have hr:=Lib.run_convert_string_bytes (P:=P) w src dst et by_ hsd hd he
   have hge:by_.size≤grownCap w by_.size 0 et:=grownCap_ge w by_.size 0 et
   have hsz:(Lib.bytesCells w et by_).size=grownCap w by_.size 0 et:=by
    simp only[Lib.bytesCells,Array.size_append,Array.size_map,Array.size_replicate]
    have:by_.data.size=by_.size:=rfl
    omega
   have hle:(by_.data.toList.map byteAV).length=by_.size:=by rw[List.length_map,size_list]
   have hle2:by_.data.toList.length=by_.size:=size_list by_
   refine out_newG g hnm (Lib.bytesCells w et by_) (by_.data.toList.map byteAV) (by rw[hle,hsz];omega) ?_ (w':=Lib.bytesWorld w et by_) ?_ ?_ (u:=.slice (some ⟨w.heap.size,0,none⟩) by_.size (grownCap w by_.size 0 et)) ?_ (fun w' X' β' hb=> ?_) rfl rfl
   ·intro j j1 j2
    simp only[List.getElem_map]
    rw[List.length_map]at j1
    have:(Lib.bytesCells w et by_)[j]= .int .u8 (by_.data.toList[j]).toNat:=by
     simp only[Lib.bytesCells]
     rw[Array.getElem_append_left (by simpa using j1)]
     simp
    rw[this]
    exact⟨rfl,fun S=>.of rfl,fun r hr=>(by cases hr),.int _ _⟩
   ·exact⟨rfl,rfl,rfl,by rw[Lib.bytesWorld_size];omega,fun k hk=>Lib.bytesWorld_at_old w et by_ k hk⟩
   ·intro j hj
    have hn:=Lib.bytesWorld_at_new w et by_
    refine⟨?_,?_⟩
    ·simp only[cat,World.cell?,hn,Array.getElem?_eq_getElem hj];rfl
    ·simp only[cfz,World.frozen?,hn]
     simp;omega
   ·simp only[execOp,hop,Sem.run_bind,ex,hr,Result.andThen_ok,Sem.run_pure]
   ·rw[hle2]
    exact .arr _ nm 0 _ _ 1 false hge fun _=>by rw[hb]
  ·cases ho
 |_=>rw[hx]at ho;cases ho
theorem mapM_bytes : ∀(xs:List AV) (s:List UInt8),xs.mapM avByte=some s→∃ns:List Int,xs=ns.map (AV.int .u8)∧s=ns.map fun n=>UInt8.ofNat n.toNat:=by
 intro xs
 induction xs with
 |nil=>intro s h;simp at h;subst h;exact⟨[],rfl,rfl⟩
 |cons x xs ih=>
  intro s h
  rw[List.mapM_cons]at h
  obtain⟨b,hb,h⟩:=zbi h
  obtain⟨r,hr,h⟩:=zbi h
  simp only[Option.pure_def,zsi]at h
  subst h
  obtain⟨ns,rfl,rfl⟩:=ih r hr
  unfold avByte at hb
  split at hb
  ·rename_i n
   injection hb with hb
   exact⟨n::ns,rfl,by rw[←hb];rfl⟩
  ·cases hb
theorem fold_push : ∀(ns:List Int) (s:ByteArray),(ns.foldl (fun r n=>r.push (UInt8.ofNat n.toNat)) s).data.toList=s.data.toList++ns.map fun n=>UInt8.ofNat n.toNat:=by
 intro ns
 induction ns with
 |nil=>intro s;simp
 |cons n r ih=>intro s;rw[List.foldl_cons,ih];simp
theorem flat_ints (ns:List Int):(ns.map (AV.int .u8)).flatMap AV.cells=ns.map (AV.int .u8):=by
 induction ns with
 |nil=>rfl
 |cons c r ih=>rw[List.map_cons,List.flatMap_cons,ih];rfl
theorem snd_b2s (g:GR N0 w F β Ow (slots act) env h v a){src dst et:TypeId}{x:Operand}{x':Opd}(h1:okT x x'=true)(hs:P.underlying src=some (.slice et))(he:P.underlying et=some (.int .u8))(hd:P.underlying dst=some .string)
 (hop:o.op= .convert src dst x) (ho:opv R env h (.b2s x')=some (a',env',h')):Out P N0 w F β h (XX F Ow) act env' h' ((execOp act.eval o).run P w) a':=by
 obtain⟨q1,-,-⟩:=g.opT h1
 simp only[opv]at ho
 have fin: ∀(A:Option Addr) (len cap:Nat) (ns:List Int),act.eval x= .slice A len cap→ns.length=len→(∀b,A=some b→(loadCells b len).run P w= .ok (ns.map (Value.int .u8)).toArray w)→(A=none→len=0)→
  Out P N0 w F β h (XX F Ow) act env h ((execOp act.eval o).run P w) (.str (ns.map fun n=>UInt8.ofNat n.toNat)):=by
  intro A len cap ns ex hl hload hnone
  refine same_plain g (u:=.string (ns.foldl (fun r n=>r.push (UInt8.ofNat n.toNat)) ByteArray.empty)) ?_ (.str _ _ ?_) rfl rfl
  ·simp only[execOp,hop,Sem.run_bind,ex,run_convert_bytes_string (P:=P) w src dst et A len cap hs he hd]
   cases A with
   |none=>
    have:=hnone rfl
    subst this
    have:ns=[]:=List.eq_nil_of_length_eq_zero hl
    subst this
    rfl
   |some b=>rw[run_bytesToString w b len cap ns (hload b rfl)];rfl
  ·rw[fold_push];rfl
 cases hx:evo env x' with
 |lst gg xs=>
  rw[hx]at ho q1
  simp only[Option.map_eq_some_iff,zpi]at ho
  obtain⟨s,hm,rfl,rfl,rfl⟩:=ho
  obtain⟨ns,rfl,rfl⟩:=mapM_bytes xs s hm
  obtain⟨A,cap,ex,hlc⟩:=q1.toLst
  rw[ex]at q1
  have hflat:(ns.map (AV.int .u8)).flatMap AV.cells=ns.map (AV.int .u8):=flat_ints ns
  by_cases hnil:ns=[]
  ·subst hnil
   refine fin A _ cap [] ex rfl (fun b hb=>run_loadCells_list (P:=P) w b [] (by simp)) fun _=>rfl
  ·obtain⟨bb,oo,e',val,rfl,hxs,hvv,hval⟩:=q1.lstInv.2.2.2 (by simpa using hnil)
   have he1:e'=1:=by
    cases ns with
    |nil=>exact absurd rfl hnil
    |cons n r=>rw[←(hxs (.int .u8 n) (by simp)).2];rfl
   subst he1
   refine fin _ _ cap ns ex (by simp) (fun b hb=> ?_) (fun h=>by cases h)
   injection hb with hb
   subst hb
   refine run_load_at _ _ _ _ (by simp) fun j hj=> ?_
   have hj':j<ns.length:=by simpa using hj
   have h3:=(hvv j (by simpa using hj')).1
   have h4:=hval j (by rw[hflat];simpa using hj')
   simp only[hflat,List.getElem_map]at h4 ⊢
   rw[h3,h4.toInt]
 |arr nm off len e0 ag=>
  rw[hx]at ho q1
  obtain⟨A,cap,ex,hlc,hA⟩:=q1.toArr
  split at ho
  ·cases ‹AV.arr nm off len e0 ag=_›
  ·rename_i o2 off2 len2 heq
   injection heq with z1 z2 z3 z4 z5
   subst z1 z2 z3
   obtain⟨ob,hob,ho⟩:=zbi ho
   split at ho
   ·rename_i hle
    simp only[Option.map_eq_some_iff,zpi]at ho
    obtain⟨s,hm,rfl,rfl,rfl⟩:=ho
    obtain⟨ns,hns,rfl⟩:=mapM_bytes _ s hm
    have hnl:ns.length=len:=by
     have:=congrArg List.length hns
     simp at this;omega
    have qo:=(g.obj nm ob hob).cells.drop off
    refine fin A len cap ns ex hnl (fun b hb=> ?_) (fun hn=> ?_)
    ·subst hb
     rcases Nat.eq_zero_or_pos len with h0|h0
     ·have:ns=[]:=List.eq_nil_of_length_eq_zero (by omega)
      subst this;subst h0
      exact run_loadCells_list (P:=P) w b [] (by simp)
     ·have:=hA h0
      injection this with this
      subst this
      refine run_load_at _ _ _ _ (by simpa using hnl) fun j hj=> ?_
      have hj':j<ns.length:=by simpa using hj
      obtain⟨-,u,c1,c2⟩:=qo j (by simp;omega)
      rw[c1]
      have:(ob.cells.drop off)[j]'(by simp;omega)= .int .u8 ns[j]:=by
       have h5:((ob.cells.drop off).take len)[j]? =some (.int .u8 ns[j]):=by rw[hns,List.getElem?_map,zge hj'];rfl
       rw[List.getElem?_take,if_pos (by omega),zge (by simp;omega)]at h5
       injection h5
      rw[this]at c2
      rw[c2.toInt];simp
    ·rcases Nat.eq_zero_or_pos len with h0|h0
     ·exact h0
     ·have:=hA h0;rw[hn]at this;cases this
   ·cases ho
  ·cases ho
 |_=>rw[hx]at ho;cases ho
theorem GR.eqH {sl:Nat→Value}{env2:Env}{h2:Heap}(g:GR N0 w F β Ow sl env h v a)(he: ∀k,get env2 k=get env k)(hq: ∀k,hget h2 k=hget h k):GR N0 w F β Ow sl env2 h2 v a where
 inv:=g.inv
 slot:=fun k=>by rw[he];exact g.slot k
 val:=g.val
 obj:=fun nm ob ho=>g.obj nm ob (by rw[←hq];exact ho)
 refE:=fun k o ho=>by rw[hq];exact g.refE k o (by rw[←he];exact ho)
 refV:=fun o ho=>by rw[hq];exact g.refV o ho
 refH:=fun nm ob ho c hc o hr=>by rw[hq];exact g.refH nm ob (by rw[←hq];exact ho) c hc o hr
theorem killE_get (nm:Nat)(env:Env)(k:Nat):get (killE nm env) k=if(refs (get env k)).contains nm then .undef else get env k:=by
 induction env with
 |nil=>simp[killE,get]
 |cons p r ih=>
  obtain⟨j,x⟩:=p
  simp only[killE]
  rw[get_cons,get_cons]
  by_cases e:j=k
  ·rw[if_pos e,if_pos e];cases(refs x).contains nm<;>rfl
  ·rw[if_neg e,if_neg e];exact ih
theorem GR.kill {sl:Nat→Value}(g:GR N0 w F β Ow sl env h v a)(nm:Nat):GR N0 w F β Ow sl (killE nm env) h v a where
 inv:=g.inv
 slot:=fun k=>by
  rw[killE_get]
  split
  ·exact⟨.undef _,.of rfl⟩
  ·exact g.slot k
 val:=g.val
 obj:=g.obj
 refE:=fun k o ho=>by
  rw[killE_get]at ho
  split at ho
  ·cases ho
  ·exact g.refE k o ho
 refV:=g.refV
 refH:=g.refH
theorem killE_no (nm:Nat)(env:Env)(k:Nat):nm∉refs (get (killE nm env) k):=by
 rw[killE_get]
 split
 ·exact fun h=>by cases h
 ·rename_i hc;simpa using hc
def mvOw (Ow:Key→Cell→Prop)(nm:Nat)(R:Cell→Prop):Key→Cell→Prop:=fun k c=>if k= .val then Ow .val c∧¬R c else if k= .obj nm then Ow (.obj nm) c∨(Ow .val c∧R c)else Ow k c
theorem mvOw_le {nm:Nat}{R:Cell→Prop}{k:Key}{c:Cell}(hk:mvOw Ow nm R k c): ∃k',Ow k' c:=by
 simp only[mvOw]at hk
 split at hk
 ·exact⟨_,hk.1⟩
 ·split at hk
  ·rcases hk with hk|hk
   ·exact⟨_,hk⟩
   ·exact⟨_,hk.1⟩
  ·exact⟨_,hk⟩
theorem mvOw_X {nm:Nat}{R:Cell→Prop}{c:Cell}(h:XX F (mvOw Ow nm R) c):XX F Ow c:=h.imp id fun⟨_,hk⟩=>mvOw_le hk
theorem mvOw_apart {nm:Nat}{R:Cell→Prop}(hap: ∀k k' c,Ow k c→Ow k' c→k=k')(k k':Key)(c:Cell)(h1:mvOw Ow nm R k c)(h2:mvOw Ow nm R k' c):k=k':=by
 have cases_: ∀k,mvOw Ow nm R k c→(Ow k c∧(k= .val→¬R c))∨(k= .obj nm∧Ow .val c∧R c):=by
  intro k hk
  simp only[mvOw]at hk
  split at hk
  ·rename_i e;subst e;exact .inl ⟨hk.1,fun _=>hk.2⟩
  ·rename_i e
   split at hk
   ·rename_i e2;subst e2
    rcases hk with hk|hk
    ·exact .inl ⟨hk,fun h=>by cases h⟩
    ·exact .inr ⟨rfl,hk.1,hk.2⟩
   ·exact .inl ⟨hk,fun h=>absurd h e⟩
 rcases cases_ k h1 with⟨a1,a2⟩|⟨a1,a2,a3⟩<;>rcases cases_ k' h2 with⟨b1,b2⟩|⟨b1,b2,b3⟩
 ·exact hap _ _ _ a1 b1
 ·have:=hap _ _ _ a1 b2;exact absurd b3 (a2 this)
 ·have:=hap _ _ _ b1 a2;exact absurd a3 (b2 this)
 ·rw[a1,b1]
theorem mvOw_up {nm:Nat}{R:Cell→Prop}{k:Key}(hk:k≠.val){c:Cell}(h:Ow k c):mvOw Ow nm R k c:=by
 simp only[mvOw]
 rw[if_neg hk]
 split
 ·rename_i e;subst e;exact .inl h
 ·exact h
theorem GR.extend {sl:Nat→Value}(g:GR N0 w F β Ow sl env h v a){nm:Nat}{ob:Obj}(hob:hget h nm=some ob)(hw:ob.wr=true)(us:List Value)(ys:List AV)(hl:us.length=ys.length)
 (hown: ∀j,j<us.length→Ow .val (place β nm (ob.cells.length+j)))
 (hy: ∀j (h1:j<us.length) (h2:j<ys.length),ys[j].isCell=true∧ys[j].notOwn=true∧refs2 ys[j]=[]∧VRel w (XX F Ow) β us[j] ys[j]) (u0:Value):
 GR N0 (wput w (β nm).1 ((β nm).2+ob.cells.length) us) F β (mvOw Ow nm fun c=>c.1=(β nm).1∧(β nm).2+ob.cells.length≤c.2∧c.2<(β nm).2+ob.cells.length+us.length) sl env (hset h nm {ob with cells:=ob.cells++ys}) u0 .undef∧
  Kp N0 w (XX F Ow) (wput w (β nm).1 ((β nm).2+ob.cells.length) us) (XX F (mvOw Ow nm fun c=>c.1=(β nm).1∧(β nm).2+ob.cells.length≤c.2∧c.2<(β nm).2+ob.cells.length+us.length))∧FF F w (wput w (β nm).1 ((β nm).2+ob.cells.length) us):=by
 obtain⟨R,hR⟩: ∃R:Cell→Prop,R=fun c=>c.1=(β nm).1∧(β nm).2+ob.cells.length≤c.2∧c.2<(β nm).2+ob.cells.length+us.length:=⟨_,rfl⟩
 rw[←hR]
 have hreg: ∀c:Cell,R c→Ow .val c:=by
  rintro⟨c1,c2⟩ hc
  rw[hR]at hc
  obtain⟨h1,h2,h3⟩:=hc
  simp only at h1 h2 h3
  have:=hown (c2-((β nm).2+ob.cells.length)) (by omega)
  simp only[place]at this
  rw[show(β nm).2+(ob.cells.length+(c2-((β nm).2+ob.cells.length)))=c2 from by omega]at this
  rw[h1];exact this
 have hx: ∀c,XX F (mvOw Ow nm R) c→XX F Ow c:=fun c h=>mvOw_X h
 have hcat: ∀c,¬Ow .val c→cat (wput w (β nm).1 ((β nm).2+ob.cells.length) us) c=cat w c:=by
  intro c hc
  rw[wput_cat,if_neg (fun e=>hc (hreg c (by rw[hR];exact e)))]
 have kp:Kp N0 w (XX F Ow) (wput w (β nm).1 ((β nm).2+ob.cells.length) us) (XX F (mvOw Ow nm R)):=by
  obtain⟨e1,e2,e3⟩:=wput_rest (β nm).1 us w ((β nm).2+ob.cells.length)
  refine⟨e1,e2,e3,by rw[wput_size];exact Nat.le_refl _,fun c _=>wput_cfz _ _ _ _ _,fun k hk=> ?_,fun c u hc hx'=>⟨?_,fun h2=>hx' (hx c h2)⟩⟩
  ·cases us with
   |nil=>rfl
   |cons u r=>
    refine wput_blk _ _ w _ k ?_
    have:=g.inv.low _ (.inr ⟨_,hown 0 (by simp)⟩)
    simp only[place]at this
    omega
  ·rw[hcat c fun e=>hx' (.inr ⟨_,e⟩)];exact hc
 refine⟨?_,kp,fun c hc=>⟨hcat c fun e=>g.inv.apartF _ _ e hc,wput_cfz _ _ _ _ _⟩⟩
 have old: ∀nm' ob',hget h nm'=some ob'→∀j (hj:j<ob'.cells.length),ob'.cells[j].isCell=true∧∃u,cat (wput w (β nm).1 ((β nm).2+ob.cells.length) us) (place β nm' j)=some u∧VRel (wput w (β nm).1 ((β nm).2+ob.cells.length) us) (XX F (mvOw Ow nm R)) β u ob'.cells[j]∧OwnOk (mvOw Ow nm R (.cell nm' j)) u ob'.cells[j]:=by
  intro nm' ob' hob' j hj
  have q:=g.obj nm' ob' hob'
  obtain⟨c1,u,c2,c3,c4⟩:=q.cell j hj
  refine⟨c1,u,?_,c3.mono kp,c4.mono fun c hc=>mvOw_up (by simp) hc⟩
  rw[hcat]
  ·exact c2
  ·intro e2
   cases hw':ob'.wr with
   |true=>
    have:=g.inv.apart _ _ _ e2 (q.wr hw' j hj)
    cases this
   |false=>exact q.rd hw' j hj (.inr ⟨_,e2⟩)
 have hgs: ∀k,hget (hset h nm {ob with cells:=ob.cells++ys}) k=if k=nm then some {ob with cells:=ob.cells++ys}else hget h k:=fun k=>hget_hset h nm _ ob hob k
 have hsome: ∀k,(hget h k).isSome=true→(hget (hset h nm {ob with cells:=ob.cells++ys}) k).isSome=true:=by
  intro k hk
  rw[hgs];split
  ·rfl
  ·exact hk
 exact{
  inv:={
   apart:=mvOw_apart g.inv.apart
   apartF:=fun k c hk=>let⟨k',h'⟩:=mvOw_le hk;g.inv.apartF k' c h'
   live:=by
    intro c hc
    obtain⟨⟨u,hu⟩,hz⟩:=g.inv.live c (hx c hc)
    refine⟨?_,by rw[wput_cfz];exact hz⟩
    rw[wput_cat]
    split
    ·rw[hu];exact⟨_,rfl⟩
    ·exact⟨u,hu⟩
   low:=fun c hc=>g.inv.low c (hx c hc)
   base:=by rw[wput_size];exact g.inv.base
   glob:=fun k hk=>(kp.blk k hk).trans (g.inv.glob k hk)}
  slot:=fun k=>⟨(g.slot k).1.mono kp,(g.slot k).2.mono fun c hc=>mvOw_up (by simp) hc⟩
  val:=⟨.undef _,.of rfl⟩
  obj:=by
   intro nm' ob' hob'
   rw[hgs]at hob'
   split at hob'
   ·rename_i e
    subst e
    injection hob' with hob'
    subst hob'
    have q:=g.obj nm' ob hob
    refine⟨fun j hj=> ?_,fun _ j hj=> ?_,fun hwf=>by simp only at hwf;rw[hw]at hwf;cases hwf⟩
    ·simp only at hj ⊢
     rcases Nat.lt_or_ge j ob.cells.length with h3|h3
     ·have:=old nm' ob hob j h3
      rw[List.getElem_append_left h3]
      exact this
     ·have hj2:j-ob.cells.length<us.length:=by rw[List.length_append]at hj;omega
      obtain⟨y1,y2,y3,y4⟩:=hy (j-ob.cells.length) hj2 (by omega)
      rw[List.getElem_append_right h3]
      refine⟨y1,us[j-ob.cells.length],?_,y4.mono kp,.of y2⟩
      have hin:=hown (j-ob.cells.length) hj2
      obtain⟨⟨u0,hu0⟩,_⟩:=g.inv.live _ (.inr ⟨_,hin⟩)
      rw[show ob.cells.length+(j-ob.cells.length)=j from by omega]at hu0
      rw[wput_cat,if_pos ⟨rfl,by show(β nm').2+ob.cells.length≤(β nm').2+j;omega,by show(β nm').2+j<_;omega⟩,hu0]
      simp only[Option.map_some,zsi,place]
      rw[show(β nm').2+j-((β nm').2+ob.cells.length)=j-ob.cells.length from by omega,List.getD_eq_getElem?_getD,zge hj2];rfl
    ·simp only at hj
     simp only[mvOw,reduceCtorEq,if_false,if_true]
     rcases Nat.lt_or_ge j ob.cells.length with h3|h3
     ·exact .inl (q.wr hw j h3)
     ·have hj2:j-ob.cells.length<us.length:=by rw[List.length_append]at hj;omega
      have hin:=hown (j-ob.cells.length) hj2
      rw[show ob.cells.length+(j-ob.cells.length)=j from by omega]at hin
      refine .inr ⟨hin,?_⟩
      rw[hR]
      exact⟨rfl,by show(β nm').2+ob.cells.length≤(β nm').2+j;omega,by show(β nm').2+j<_;omega⟩
   ·exact⟨old nm' ob' hob',fun hw' j hj=>mvOw_up (by simp) ((g.obj nm' ob' hob').wr hw' j hj),fun hw' j hj hx'=>(g.obj nm' ob' hob').rd hw' j hj (hx _ hx')⟩
  refE:=fun k o ho=>hsome o (g.refE k o ho)
  refV:=by simp
  refH:=by
   intro nm' ob' hob' c hc o hr
   rw[hgs]at hob'
   split at hob'
   ·injection hob' with hob'
    subst hob'
    rcases List.mem_append.1 hc with hc|hc
    ·exact hsome o (g.refH nm ob hob c hc o hr)
    ·obtain⟨j,hj,rfl⟩:=List.getElem_of_mem hc
     rw[(hy j (by omega) hj).2.2.1]at hr;cases hr
   ·exact hsome o (g.refH nm' ob' hob' c hc o hr)}
theorem GR.erase {sl:Nat→Value}(g:GR N0 w F β Ow sl env h v .undef)(nm:Nat)(hE: ∀k,nm∉refs (get env k))(hH:noRef nm h=true)(u0:Value):
 GR N0 w F β (dropK Ow fun k=>k= .val∨k= .obj nm∨∃j,k= .cell nm j) sl env (h.filter fun p=>decide (p.1≠nm)) u0 .undef:=by
 have hx: ∀c,XX F (dropK Ow fun k=>k= .val∨k= .obj nm∨∃j,k= .cell nm j) c→XX F Ow c:=fun _ h=>XX_drop h
 have kx:=(Kp.refl N0 w (XX F Ow)).shrink hx
 have hf: ∀k,hget (h.filter fun p=>decide (p.1≠nm)) k=if k=nm then none else hget h k:=by
  intro k
  have:=hget_filter h (fun n=>decide (n≠nm)) k
  rw[this]
  by_cases e:k=nm
  ·rw[if_pos e,if_neg (by simp[e])]
  ·rw[if_neg e,if_pos (by simp[e])]
 have hno: ∀nm' ob',hget h nm'=some ob'→∀c∈ob'.cells,nm∉refs2 c:=by
  have mem: ∀(h:Heap) nm' ob',hget h nm'=some ob'→(nm',ob')∈h:=by
   intro h
   induction h with
   |nil=>intro nm' ob' hb;cases hb
   |cons p r ih=>
    intro nm' ob' hb
    obtain⟨j,x⟩:=p
    rw[hget_cons]at hb
    split at hb
    ·rename_i e;injection hb with hb;subst e;subst hb;exact List.mem_cons_self
    ·exact List.mem_cons_of_mem _ (ih _ _ hb)
  intro nm' ob' hb c hc
  have h1:=List.all_eq_true.1 hH _ (mem h nm' ob' hb)
  have h2:=List.all_eq_true.1 h1 c hc
  simpa using h2
 exact{
  inv:=g.inv.drop _
  slot:=fun j=>⟨(g.slot j).1.mono kx,(g.slot j).2.mono fun c hc=>⟨by simp,hc⟩⟩
  val:=⟨.undef _,.of rfl⟩
  obj:=fun n2 ob ho=>by
   rw[hf]at ho
   split at ho
   ·cases ho
   ·rename_i hne
    exact(g.obj n2 ob ho).le hx (fun j c hc=>⟨by simp[hne],hc⟩) fun c hc=>⟨by simp[hne],hc⟩
  refE:=fun k o ho=>by
   have hne:o≠nm:=fun e=>by subst e;exact hE k ho
   rw[hf,if_neg hne];exact g.refE k o ho
  refV:=by simp
  refH:=fun nm' ob' hb c hc o hr=>by
   rw[hf]at hb
   split at hb
   ·cases hb
   ·have hne:o≠nm:=fun e=>by subst e;exact hno nm' ob' hb c hc hr
    rw[hf,if_neg hne];exact g.refH nm' ob' hb c hc o hr}
theorem GR.rebind {sl:Nat→Value}(g:GR N0 w F β Ow sl env h v .undef)(nm:Nat)(hE: ∀k,nm∉refs (get env k))(hH:noRef nm h=true){w':World}(x:Ext w w')(cs:Array Value)
 (hat: ∀j (h2:j<cs.size),cat w' (w.heap.size,j)=some cs[j]∧cfz w' (w.heap.size,j)=false) (as:List AV) (hl:as.length≤cs.size)
 (hv: ∀j (h1:j<as.length) (h2:j<cs.size),as[j].isCell=true∧as[j].notOwn=true∧refs2 as[j]=[]∧VRel w (XX F (dropK Ow fun k=>k= .val∨k= .obj nm∨∃j,k= .cell nm j)) β cs[j] as[j]) (u0:Value):
 ∃Ow',GR N0 w' F (fun k=>if k=nm then(w.heap.size,0)else β k) Ow' sl env ((nm,⟨true,as⟩)::h.filter fun p=>decide (p.1≠nm)) u0 .undef∧Kp N0 w (XX F Ow) w' (XX F Ow')∧FF F w w'∧∀j,as.length≤j→j<cs.size→Ow' .val (w.heap.size,j):=by
 have g1:=g.erase nm hE hH u0
 obtain⟨O1,hO1⟩: ∃O1,O1=dropK Ow fun k=>k= .val∨k= .obj nm∨∃j,k= .cell nm j:=⟨_,rfl⟩
 rw[←hO1]at g1 hv
 have hX1: ∀c,XX F O1 c→XX F Ow c:=by rw[hO1];exact fun _ h=>XX_drop h
 have k1:=(Kp.refl N0 w (XX F Ow)).shrink hX1
 have hnone:hget (h.filter fun p=>decide (p.1≠nm)) nm=none:=by
  have:=hget_filter h (fun n=>decide (n≠nm)) nm
  rw[this,if_neg (by simp)]
 obtain⟨g2,k2,f2⟩:=g1.grow x .val (fun c=>c.1=w.heap.size∧c.2<cs.size) (fun c hc=>by rw[hO1]at hc;exact hc.1 (.inl rfl)) (by
  rintro⟨c1,c2⟩ ⟨h1,h2⟩
  simp only at h1 h2
  subst h1
  have:=hat c2 h2
  exact⟨Nat.le_refl _,⟨_,this.1⟩,this.2⟩)
 obtain⟨O2,hO2⟩: ∃O2,O2=addOw O1 .val (fun c=>c.1=w.heap.size∧c.2<cs.size):=⟨_,rfl⟩
 rw[←hO2]at g2 k2
 obtain⟨R,hR⟩: ∃R:Cell→Prop,R=fun c=>c.2<as.length:=⟨_,rfl⟩
 have hX3: ∀c,XX F (mvOw O2 nm R) c→XX F O2 c:=fun c h=>mvOw_X h
 have k3:=(Kp.refl N0 w' (XX F O2)).shrink hX3
 have g3:GR N0 w' F β (mvOw O2 nm R) sl env (h.filter fun p=>decide (p.1≠nm)) u0 .undef:={
  inv:=⟨mvOw_apart g2.inv.apart,fun k c hk=>let⟨k',h'⟩:=mvOw_le hk;g2.inv.apartF k' c h',fun c hc=>g2.inv.live c (hX3 c hc),fun c hc=>g2.inv.low c (hX3 c hc),g2.inv.base,g2.inv.glob⟩
  slot:=fun k=>⟨(g2.slot k).1.mono k3,(g2.slot k).2.mono fun c hc=>mvOw_up (by simp) hc⟩
  val:=⟨.undef _,.of rfl⟩
  obj:=fun nm' ob' hb=>(g2.obj nm' ob' hb).le hX3 (fun j c hc=>mvOw_up (by simp) hc) fun c hc=>mvOw_up (by simp) hc
  refE:=g2.refE
  refV:=by simp
  refH:=g2.refH}
 obtain⟨g4,-⟩:=g3.newObj hnone w.heap.size 0 ⟨true,as⟩ (by
  intro j hj
  simp only at hj ⊢
  obtain⟨q1,q2,q3,q4⟩:=hv j hj (by omega)
  refine⟨q1,fun r hr=>(by rw[q3]at hr;cases hr),cs[j]'(by omega),?_,(q4.mono k2).mono k3,fun S=>.of q2⟩
  rw[Nat.zero_add];exact(hat j (by omega)).1) rfl (by
  intro j hj
  simp only at hj
  simp only[mvOw,reduceCtorEq,if_false,if_true,Nat.zero_add]
  refine .inr ⟨?_,by rw[hR];exact hj⟩
  rw[hO2]
  simp only[addOw,if_true]
  exact⟨trivial,by show j<cs.size;omega⟩)
 refine⟨_,g4,(k1.trans k2).trans k3,f2,fun j h1 h2=> ?_⟩
 simp only[mvOw,if_true]
 rw[hO2,hR]
 refine⟨?_,by show¬j<as.length;omega⟩
 simp only[addOw,if_true]
 exact⟨trivial,h2⟩
theorem out_arw {h0:Heap}{r:Result Next}(q:Out P N0 w F β h X act env h0 r (.lst .full [])){nm:Nat}(hn:hget h0 nm=none)(hs: ∀k,(hget h k).isSome=true→(hget h0 k).isSome=true)(e:Nat)(ag:Bool):
 Out P N0 w F β h X act env ((nm,⟨true,[]⟩)::h0) r (.arw nm 0 e ag):=by
 obtain⟨v,w',β',Ow',hr,g,kp,ff,hb⟩:=q
 obtain⟨A,ex⟩: ∃A,v= .slice A 0 0:=by
  have q1:=g.val.1
  cases q1 with
  |lst0 A cap g hg=>exact⟨A,by rw[hg rfl]⟩
  |lst b o e cap g xs val hc hg hx hv h=>exact⟨some ⟨b,o,none⟩,by rw[hg rfl];rfl⟩
 subst ex
 have g1:=g.noval undef
 obtain⟨g2,-⟩:=g1.newObj hn 0 0 ⟨true,[]⟩ (fun j hj=>by simp at hj) rfl (fun j hj=>by simp at hj)
 refine⟨_,w',_,_,hr,g2.pend' (.arw A nm 0 0 e ag (Nat.le_refl _) fun h=>absurd h (Nat.lt_irrefl _)) (.arw fun A' len cap hv hl=> ?_) (fun r hr=> ?_),kp.shrink fun _ hc=>XX_drop hc,ff,fun k hk h100=> ?_⟩
 ·injection hv with h1 h2 h3;omega
 ·simp only[refs,refs3,refs2,refs1,List.mem_singleton]at hr
  rw[hr,hget_cons,if_pos rfl];rfl
 ·have:k≠nm:=fun e=>by subst e;have:=hs k hk;rw[hn]at this;cases this
  simp only[this,if_false]
  exact hb k hk h100
theorem snd_litZ (g:GR N0 w F β Ow (slots act) env h v a){t et:TypeId}{nm e:Nat}{ag:Bool}{zero:List AV}{z:Value}{ps:Array (Nat×Operand)}(q:ElemT P t et e z)(hk:okConsts z.cells.toList zero=true)
 (hag:ag=false→e=1) (hps:ps.toList=[]) (hop:o.op= .buildSlice t 0 ps)
 (ho:opv R env h (.litZ nm e ag zero)=some (a',env',h')):Out P N0 w F β h (XX F Ow) act env' h' ((execOp act.eval o).run P w) a':=by
 simp only[opv]at ho
 split at ho
 ·rename_i hn
  simp only[zsi,zpi]at ho
  obtain⟨rfl,rfl,rfl⟩:=ho
  refine out_arw ?_ hn (fun k hk=>hk) e ag
  exact snd_lit (R:=R) g q hk hag (len:=0) (qs:=[]) (by simp) (by rw[hps];rfl) hop (by rfl)
 ·cases ho
theorem snd_nilA (g:GR N0 w F β Ow (slots act) env h v a){nm e:Nat}{ag:Bool}{x:Operand}{x':Opd}(h1:okT x x'=true)(hop:o.op= .move x∨o.op= .assign x)
 (ho:opv R env h (.nilA nm e ag x')=some (a',env',h')):Out P N0 w F β h (XX F Ow) act env' h' ((execOp act.eval o).run P w) a':=by
 obtain⟨q1,-,-⟩:=g.opT h1
 simp only[opv]at ho
 split at ho
 ·rename_i hn hx
  simp only[zsi,zpi]at ho
  obtain⟨rfl,rfl,rfl⟩:=ho
  rw[hx]at q1
  obtain⟨A,ex⟩: ∃A,act.eval x= .slice A 0 0:=by
   generalize act.eval x=u at q1
   cases q1 with
   |lst0 A cap g hg=>exact⟨A,by rw[hg rfl]⟩
   |lst b o e cap g xs val hc hg hx hv h=>exact⟨some ⟨b,o,none⟩,by rw[hg rfl];rfl⟩
  have g1:=g.noval undef
  obtain⟨g2,-⟩:=g1.newObj hn 0 0 ⟨true,[]⟩ (fun j hj=>by simp at hj) rfl (fun j hj=>by simp at hj)
  have hr:(execOp act.eval o).run P w= .ok (.value (.slice A 0 0)) w:=by
   rcases hop with hop|hop<;>simp only[execOp,hop,ex,Sem.run_pure]
  refine⟨_,w,_,_,.inl hr,g2.pend' (.arw A nm 0 0 e ag (Nat.le_refl _) fun h=>absurd h (Nat.lt_irrefl _)) (.arw fun A' len cap hv hl=> ?_) (fun r hr=> ?_),(Kp.refl N0 w _).shrink fun _ hc=>XX_drop hc,FF.refl _ _,fun k hk _=> ?_⟩
  ·injection hv with h1 h2 h3;omega
  ·simp only[refs,ren3,refs3,refs2,refs1,List.mem_singleton]at hr
   subst hr
   rw[hget_cons,if_pos rfl];rfl
  ·have:k≠nm:=fun e=>by subst e;rw[hn]at hk;cases hk
   simp[this]
 ·cases ho
set_option maxHeartbeats 2000000 in
theorem snd_appA (g:GR N0 w F β Ow (slots act) env h v a){t u et:TypeId}{e:Nat}{ag:Bool}{z:Value}{b x:Operand}{b' x':Opd}(q:ElemT P t et e z)(hu:srcT P u=true)(h1:okX b b'=true)(h2:okT x x'=true)
 (hop:o.op= .call {callee:=.builtin .append,args:= #[b,x],argTypes:= #[t,u]})
 (ho:opv R env h (.appA e ag b' x')=some (a',env',h')):Out P N0 w F β h (XX F Ow) act env' h' ((execOp act.eval o).run P w) a':=by
 simp only[opv]at ho
 cases hb:evo env b' with
 |arw nm len e0 ag0=>
  rw[hb]at ho
  simp only at ho
  split at ho
  rotate_left
  ·cases ho
  rename_i heq
  obtain⟨rfl,rfl⟩:=heq
  obtain⟨ys,hys,ho⟩:=zbi ho
  obtain⟨ob,hob,ho⟩:=zbi ho
  split at ho
  rotate_left
  ·cases ho
  rename_i hcond
  obtain⟨hwr,hlen,hel0,hmax,hnr,hda,ho100⟩:=hcond
  simp only[zsi,zpi]at ho
  obtain⟨rfl,rfl,rfl⟩:=ho
  obtain⟨news,n1,n2,n3,n4⟩:=src_run (P:=P) g h2 hys hel0 (Nat.le_refl ys.length)
  rw[List.take_length]at n4
  have hel: ∀y∈ys,y.delem=true∧y.cells.length=e:=by
   intro y hm
   have:=List.all_eq_true.1 hel0 y hm
   simp only[zba,decide_eq_true_eq]at this
   exact this.1
  have ly:=lenF fun y hy=>(hel y hy).2
  have hdc: ∀c∈ys.flatMap AV.cells,c.isCell=true∧c.notOwn=true∧refs2 c=[]:=by
   intro c hc
   have hd:=delem_flat (fun y hy=>(hel y hy).1) c hc
   refine⟨?_,?_,dcell_refs2 hd⟩
   ·cases c<;>first|rfl|cases hd
   ·cases c with
    |lst gg zs=>cases gg<;>first|rfl|cases hd
    |_=>first|rfl|cases hd
  obtain⟨Ow',hX,g'⟩:=g.opX h1
  rw[hb]at g'
  have k0:=(Kp.refl N0 w (XX F Ow)).shrink hX
  obtain⟨A,cap,ex,hlc,hA⟩: ∃A cap,act.eval b= .slice A len cap∧len≤cap∧(0<cap→A=some ⟨(β nm).1,(β nm).2,none⟩):=by
   have:=g'.val.1
   generalize act.eval b=u at this
   cases this with
   |arw A nm len cap e ag hc hA=>exact⟨A,cap,rfl,hc,hA⟩
  have hroom:len<cap→∀j,len*e≤j→j<cap*e→Ow' .val (place β nm j):=by
   intro hlt j j1 j2
   obtain⟨bb,oo,hA2,hS⟩:=g'.val.2.2 nm len e ag rfl A len cap ex hlt
   rw[hA (by omega)]at hA2
   injection hA2 with hA2
   injection hA2 with h5 h6 h7
   simp only[place]
   rw[h5,h6]
   exact hS j j1 j2
  have run: ∀{r:Value} {w':World},(Builtin.append_ #[t,u] o.type #[.slice A len cap,act.eval x]).run P w= .ok r w'→(execOp act.eval o).run P w= .ok (.value r) w':=by
   intro r w' hr
   rw[run_bi hop]
   simp only[builtin,List.map_toArray,List.map_cons,List.map_nil,ex,Sem.run_bind,hr,Result.andThen_ok,Sem.run_pure]
  have hkE: ∀k,get (killE nm env) k=get (killE nm (evoE env b')) k:=by
   intro k
   have hkk: ∀(x y:AV),(x=y∨((refs x).contains nm=true∧(refs y).contains nm=true))→(if(refs x).contains nm then AV.undef else x)=if(refs y).contains nm then AV.undef else y:=by
    rintro x y (rfl|⟨e1,e2⟩)
    ·rfl
    ·rw[if_pos e1,if_pos e2]
   rw[killE_get,killE_get]
   refine hkk _ _ ?_
   cases b' with
   |t j=>exact .inl rfl
   |c u=>exact .inl rfl
   |x j=>
    simp only[evoE]
    rw[get_cons]
    by_cases ej:j=k
    ·subst ej
     rw[if_pos rfl]
     have hg:get env j= .arw nm len e ag:=hb
     rw[hg]
     exact .inr ⟨by simp,by simp⟩
    ·rw[if_neg ej];exact .inl rfl
  have gk:=(g'.pend' (v':=undef) (.undef _) (.of rfl) (fun r hr=>by cases hr)).kill nm
  have hqo:=g.obj nm ob hob
  by_cases hfit:len+ys.length≤cap
  ·by_cases hy0:ys=[]
   ·subst hy0
    have hn0:news=[]:=List.eq_nil_of_length_eq_zero (by rw[n1];simp)
    subst hn0
    have hst:(match(generalizing:=false) A with|some a=>storeCells (a.add (len*e)) []|none=>pure ():Sem Unit).run P w= .ok () w:=by cases A<;>rfl
    have hr:=run (run_app_room (ty:=o.type) q.under q.size hu n2 (n3 w fun _ _ h=>h) hfit hst)
    simp only[List.length_nil,Nat.add_zero]at hr
    have hh: ∀k,hget (hset h nm {ob with cells:=ob.cells++List.flatMap AV.cells []}) k=hget h k:=by
     intro k
     rw[hget_hset h nm _ ob hob]
     by_cases ek:k=nm
     ·rw[if_pos ek,ek,hob];simp
     ·rw[if_neg ek]
    refine⟨_,w,β,Ow',.inl hr,(gk.eqH hkE hh).pend' (.arw A nm len cap e ag hlc hA) (.arw fun A1 len1 cap1 hv1 hlt=> ?_) (fun r hr=> ?_),k0,FF.refl _ _,fun _ _ _=>rfl⟩
    ·injection hv1 with hA1 hl1 hc1
     subst hA1 hl1 hc1
     exact⟨_,_,hA (by omega),fun j j1 j2=>hroom hlt j j1 j2⟩
    ·simp only[refs,refs3,refs2,refs1,List.mem_singleton]at hr
     rw[hr,hh,hob];rfl
   ·have hpos:0<ys.length:=List.length_pos_iff.2 hy0
    have hcap:0<cap:=by omega
    have hAs:=hA hcap
    subst hAs
    have hcapm:(len+ys.length)*e≤cap*e:=Nat.mul_le_mul_right _ hfit
    have mulA:(len+ys.length)*e=len*e+ys.length*e:=Nat.add_mul _ _ _
    have hin: ∀j,j<news.length→Ow' .val (place β nm (ob.cells.length+j)):=fun j hj=>hroom (by omega) _ (by omega) (by omega)
    obtain⟨g2,k2,f2⟩:=gk.extend hob hwr news (ys.flatMap AV.cells) (by rw[n1,ly]) hin (fun j j1 j2=>by
     have:=hdc _ (List.getElem_mem j2)
     exact⟨this.1,this.2.1,this.2.2,(n4 j j1 j2).mono k0⟩) undef
    have hst:(storeCells ((⟨(β nm).1,(β nm).2,none⟩:Addr).add (len*e)) news).run P w= .ok () (wput w (β nm).1 ((β nm).2+ob.cells.length) news):=by
     rw[add_at,hlen]
     have:=run_put (P:=P) (β nm).1 ((β nm).2+len*e) news 0 w (fun u hu=> ?_) (fun j hj=> ?_)
     ·exact this
     ·obtain⟨i,hi,rfl⟩:=List.getElem_of_mem hu
      exact(n4 i hi (by omega)).oneCell (hdc _ (List.getElem_mem _)).1
     ·have:=gk.inv.live _ (.inr ⟨_,hin j hj⟩)
      rw[hlen]at this
      simpa [place,Nat.add_assoc]using this
    have hr:=run (run_app_room (ty:=o.type) q.under q.size hu n2 (n3 w fun _ _ h=>h) hfit hst)
    refine⟨_,_,β,_,.inl hr,(g2.eqH hkE (fun _=>rfl)).pend' (.arw _ nm (len+ys.length) cap e ag hfit fun _=>rfl) (.arw fun A1 len1 cap1 hv1 hlt=> ?_) (fun r hr=> ?_),k0.trans k2,f2,fun _ _ _=>rfl⟩
    ·injection hv1 with hA1 hl1 hc1
     subst hl1 hc1
     refine⟨_,_,hA1.symm,fun j j1 j2=> ?_⟩
     simp only[mvOw,if_true]
     refine⟨hroom (by omega) j (by omega) j2,?_⟩
     rintro⟨-,-,h5⟩
     simp only[n1]at h5
     omega
    ·simp only[refs,refs3,refs2,refs1,List.mem_singleton]at hr
     rw[hr,hget_hset h nm _ ob hob,if_pos rfl];rfl
  ·have hExt:=Ext.drew w
   have hup: ∀c u,cat w c=some u→cat w.drew c=some u:=fun c u hc=>by rw[hExt.cat (cat_lt hc)];exact hc
   let O1:=dropK Ow' fun k=>k= .val∨k= .obj nm∨∃j,k= .cell nm j
   have kd:=(Kp.refl N0 w (XX F Ow')).shrink (X2:=XX F O1) fun _ h=>XX_drop h
   have olds: ∀j (hj:j<ob.cells.length),∃u,cat w (place β nm j)=some u∧VRel w (XX F O1) β u ob.cells[j]∧ob.cells[j].isCell=true:=by
    intro j hj
    obtain⟨c1,u,c2,c3,-⟩:=(gk.obj nm ob hob).cell j hj
    exact⟨u,c2,c3.mono kd,c1⟩
   let f:Nat→Value:=fun j=>(cat w (place β nm j)).getD undef
   have hfo:(Builtin.firstCells e len (.slice A len cap)).run P w.drew= .ok ((List.range (len*e)).map f).toArray w.drew:=by
    rcases Nat.eq_zero_or_pos cap with hc0|hc0
    ·have hl0:len=0:=by omega
     subst hl0
     cases A with
     |none=>simp only[Builtin.firstCells,Nat.zero_mul];rfl
     |some A=>simp only[Builtin.firstCells,Nat.zero_mul];exact run_loadCells_list (P:=P) w.drew A [] (by simp)
    ·rw[hA hc0]
     simp only[Builtin.firstCells]
     refine run_load_at _ _ _ _ (by simp) fun j hj=> ?_
     simp only[List.getElem_map,List.getElem_range]
     obtain⟨u,h5,-,-⟩:=olds j (by rw[hlen];simpa using hj)
     have h5':=hup _ _ h5
     simp only[f,h5]
     exact h5'
   have hr:=run (run_app_grow (ty:=o.type) q hu n2 (n3 w.drew hup) hfo (by omega) hmax)
   have hge:=grownCap_ge w (len+ys.length) cap et
   obtain⟨rest,hrest⟩: ∃r,r=Builtin.zeroCells z.cells (grownCap w (len+ys.length) cap et-(len+ys.length)):=⟨_,rfl⟩
   rw[←hrest]at hr
   have hrs:rest.size=(grownCap w (len+ys.length) cap et-(len+ys.length))*e:=by rw[hrest,size_zeroCells,q.zs]
   have mulA:(len+ys.length)*e=len*e+ys.length*e:=Nat.add_mul _ _ _
   have hsz:(((List.range (len*e)).map f).toArray++news.toArray++rest).size=grownCap w (len+ys.length) cap et*e:=by
    simp only[Array.size_append,List.size_toArray,List.length_map,List.length_range,n1,hrs,Nat.sub_mul]
    have:(len+ys.length)*e≤grownCap w (len+ys.length) cap et*e:=Nat.mul_le_mul_right _ hge
    omega
   have hal:(ob.cells++ys.flatMap AV.cells).length=(len+ys.length)*e:=by rw[List.length_append,hlen,ly,mulA]
   have hgem:(len+ys.length)*e≤grownCap w (len+ys.length) cap et*e:=Nat.mul_le_mul_right _ hge
   obtain⟨O3,g2,k2,f2,hv2⟩:=gk.rebind nm (killE_no nm _) hnr (hExt.trans (ext_block w.drew (((List.range (len*e)).map f).toArray++news.toArray++rest) et)) (((List.range (len*e)).map f).toArray++news.toArray++rest) (fun j hj=>alloc_at w.drew _ et j hj)
    (ob.cells++ys.flatMap AV.cells) (by rw[hal,hsz];exact hgem) (by
      intro j j1 j2
      have hj0:j<len*e+ys.length*e:=by rw[hal]at j1;omega
      rcases Nat.lt_or_ge j (len*e)with h3|h3
      ·have hj':j<ob.cells.length:=by rw[hlen];exact h3
       obtain⟨u,h5,h6,h7⟩:=olds j hj'
       have eq:(ob.cells++ys.flatMap AV.cells)[j]=ob.cells[j]:=List.getElem_append_left hj'
       have eq2:(((List.range (len*e)).map f).toArray++news.toArray++rest)[j]=u:=by
        rw[Array.getElem_append_left (by simp;omega),Array.getElem_append_left (by simp;omega)]
        simp only[List.getElem_toArray,List.getElem_map,List.getElem_range,f,h5];rfl
       have hd:=List.all_eq_true.1 hda _ (List.getElem_mem hj')
       simp only[zba,List.isEmpty_iff]at hd
       rw[eq,eq2]
       exact⟨h7,hd.1,hd.2,h6⟩
      ·have hi:j-len*e<news.length:=by omega
       have hi2:j-len*e<(ys.flatMap AV.cells).length:=by omega
       have eq:(ob.cells++ys.flatMap AV.cells)[j]=(ys.flatMap AV.cells)[j-len*e]:=by
        rw[List.getElem_append_right (by omega)]
        simp only[hlen]
       have eq2:(((List.range (len*e)).map f).toArray++news.toArray++rest)[j]=news[j-len*e]:=by
        rw[Array.getElem_append_left (by simp;omega),Array.getElem_append_right (by simp;omega)]
        simp
       have hd:=hdc _ (List.getElem_mem hi2)
       rw[eq,eq2]
       exact⟨hd.1,hd.2.1,hd.2.2,((n4 _ hi hi2).mono k0).mono kd⟩) undef
   have hh: ∀k,hget (hset h nm {ob with cells:=ob.cells++ys.flatMap AV.cells}) k=hget ((nm,(⟨true,ob.cells++ys.flatMap AV.cells⟩:Obj))::h.filter fun p=>decide (p.1≠nm)) k:=by
    intro k
    rw[hget_hset h nm _ ob hob,hget_cons]
    have:=hget_filter h (fun n=>decide (n≠nm)) k
    by_cases ek:k=nm
    ·rw[if_pos ek,if_pos ek.symm,hwr]
    ·rw[if_neg ek,if_neg (Ne.symm ek),this,if_pos (by simp[ek])]
   refine⟨_,_,_,O3,.inl hr,(g2.eqH hkE hh).pend' (.arw _ nm (len+ys.length) _ e ag hge fun _=>by simp) (.arw fun A1 len1 cap1 hv1 hlt=> ?_) (fun r hr=> ?_),k0.trans k2,f2,fun k hk hk100=> ?_⟩
   ·injection hv1 with hA1 hl1 hc1
    subst hl1 hc1
    refine⟨_,_,hA1.symm,fun j j1 j2=> ?_⟩
    rw[Nat.zero_add]
    exact hv2 j (by rw[hal];exact j1) (by rw[hsz];exact j2)
   ·simp only[refs,refs3,refs2,refs1,List.mem_singleton]at hr
    rw[hr,hh,hget_cons,if_pos rfl];rfl
   ·have:k≠nm:=by omega
    simp[this]
 |_=>rw[hb]at ho;cases ho
end
@[simp] def opds :MOp→List Opd
  | .mv x| .boxE x| .box _ x| .ld _ _ x| .nilc x| .un _ x| .toInt _ x| .same x| .s2b x| .s2bA _ x| .b2s x| .makeL _ x| .makeA _ _ _ _ x| .fa _ x| .fld _ _ _ x| .len _ x| .ext x _| .ldx x| .frz x| .nilA _ _ _ x=>[x]
  | .pick c a b=>[c,a,b]
  | .new .. | .lenA _| .litZ .. =>[]
  | .build _ ps=>ps.map (·.2.2)
  | .lit _ _ _ _ ps| .litF _ _ _ _ ps| .litA _ _ _ _ _ ps=>ps.map (·.2)
  | .st _ x y| .bin _ x y| .eqA _ _ x y| .eqB _ x y| .eqP _ x y| .ia _ x y| .iaA _ _ x y| .ixS x y| .ixA _ _ _ x y| .app _ _ x y| .appA _ _ x y| .copy _ x y=>[x,y]
  | .mk _ cap=>cap
  | .mkB _ cap=>cap
  | .slc _ x lo hi mx=>x::(lo.toList++hi.toList++mx.toList)
  | .slcS x lo hi| .slcA _ _ _ x lo hi=>x::(lo.toList++hi.toList)
  | .mm _ x r=>x::r
  | .call _ _ as=>as
  | .callv x _ as=>x::as
  | .callk _ _ as ks=>as++ks.map (·.1)
  | .ldk a b _=>[a,b]
  | .ldd _ _ x=>[x]
@[simp] def Opd.plain :Opd→Bool
  | .x _=>false
  |_=>true
theorem plain_evoE {x:Opd}(h:x.plain=true)(env:Env):evoE env x=env:=by
 cases x<;>first|rfl|cases h
theorem plain_args {as:List Opd}(h: ∀x∈as,x.plain=true)(env:Env):argsV env as=as.map (evo env)∧argsE env as=env:=by
 induction as with
 |nil=>exact⟨rfl,rfl⟩
 |cons a r ih=>
  obtain⟨i1,i2⟩:=ih fun x hx=>h x (List.mem_cons_of_mem _ hx)
  have:=plain_evoE (h a List.mem_cons_self) env
  exact⟨by rw[argsV,this,i1,List.map_cons],by rw[argsE,this,i2]⟩
inductive HK where
 |pure
 |rd
 |ld (sz:Nat) (a:Opd)
 |st (sz:Nat) (a:Opd)
 |al (nm:Nat)
 |ldx (a:Opd)
 |cl
 |ldk (b:Opd) (d:Nat)
 |clk (ks:List (Opd×Nat))
 |oth
@[simp] def hk :MOp→HK
  | .mv _| .boxE _| .pick .. | .build .. | .lit .. | .litF .. | .nilc _| .bin .. | .eqA .. | .eqB .. | .eqP .. | .un .. | .toInt .. | .same _| .s2b _| .mk .. | .mkB .. | .makeL .. | .slc .. | .slcS .. | .slcA .. | .fa .. | .fld .. | .ia .. | .iaA .. | .ixS .. | .ixA .. | .len .. | .lenA _| .mm .. | .ext .. | .ldd .. =>.pure
  | .call _ .data _| .callv _ .data _=>.pure
  | .b2s _| .app .. =>.rd
  | .ld sz ag a=>.ld (if ag then sz else 1) a
  | .st sz a _=>.st sz a
  | .ldx a=>.ldx a
  | .new nm _| .box nm _| .litA nm .. | .makeA nm .. =>.al nm
  | .call .. | .callv .. =>.cl
  | .callk _ _ _ ks=>.clk ks
  | .ldk _ b d=>.ldk b d
  |_=>.oth
section
variable {R:Nat→List AV→List Obj→Option (AV×List Obj)} {env env2:Env} {h h2 h':Heap} {op:MOp} {v:AV} {e:Env}
theorem bound_congr {o:Option Opd}{d n:Nat}(ha: ∀x∈o.toList,evo env2 x=evo env x):bound env2 o d n=bound env o d n:=by
 cases o with
 |none=>rfl
 |some x=>simp only[bound];rw[ha x (by simp)]
theorem pure_frame (hp:hk op= .pure)(hx: ∀x∈opds op,x.plain=true)(ha: ∀x∈opds op,evo env2 x=evo env x)(ho:opv R env h op=some (v,e,h')):
 e=env∧h'=h∧∀h2,opv R env2 h2 op=some (v,env2,h2):=by
 have fin: ∀{r:Option AV},(r.map fun v=>(v,env,h))=some (v,e,h')→e=env∧h'=h∧∀h2:Heap,(r.map fun v=>(v,env2,h2))=some (v,env2,h2):=by
  intro r hr
  cases r with
  |none=>cases hr
  |some u=>simp only[Option.map_some,zsi,zpi]at hr;obtain⟨rfl,rfl,rfl⟩:=hr;exact⟨rfl,rfl,fun _=>rfl⟩
 cases op<;>(try(cases hp;done))
 case mv x=>
  have h1:=ha x (by simp)
  have p1:=plain_evoE (hx x (by simp))
  simp only[opv,p1,h1]at ho ⊢
  exact fin (r:=some (evo env x)) ho
 case pick c a b=>
  have h1:=ha c (by simp)
  have h2:=ha a (by simp)
  have h3:=ha b (by simp)
  simp only[opv,h1,h2,h3]at ho ⊢
  split at ho
  ·exact fin (r:=some _) ho
  ·exact fin (r:=some _) ho
  ·cases ho
 case boxE x=>
  have h1:=ha x (by simp)
  simp only[opv,h1]at ho ⊢
  split at ho
  ·rename_i hc;simp only[hc,if_true];exact fin (r:=some _) ho
  ·cases ho
 case build zero ps=>
  have h1:(ps.map fun p=>(p.1,p.2.1,evo env2 p.2.2))=ps.map fun p=>(p.1,p.2.1,evo env p.2.2):=by
   refine List.map_congr_left fun p hp=> ?_
   rw[ha p.2.2 (List.mem_map.2 ⟨p,hp,rfl⟩)]
  simp only[opv,h1]at ho ⊢
  cases hq:putParts zero (ps.map fun p=>(p.1,p.2.1,evo env p.2.2))with
  |none=>rw[hq]at ho;cases ho
  |some cs=>rw[hq]at ho;(try simp only[hq]);exact fin (r:=some _) ho
 case lit e0 ag zero len ps=>
  have h1:(ps.map fun p=>(p.1,evo env2 p.2))=ps.map fun p=>(p.1,evo env p.2):=by
   refine List.map_congr_left fun p hp=> ?_
   rw[ha p.2 (List.mem_map.2 ⟨p,hp,rfl⟩)]
  simp only[opv,h1]at ho ⊢
  cases hq:putElems e0 (List.replicate len (zeroElem ag zero)) (ps.map fun p=>(p.1,evo env p.2))with
  |none=>rw[hq]at ho;cases ho
  |some xs=>
   rw[hq]at ho
   simp only[zbs]at ho ⊢
   split at ho
   ·rename_i hk;simp only[hk,if_true];exact fin (r:=some _) ho
   ·cases ho
 case litF e0 ag zero len ps=>
  have h1:(ps.map fun p=>(p.1,evo env2 p.2))=ps.map fun p=>(p.1,evo env p.2):=by
   refine List.map_congr_left fun p hp=> ?_
   rw[ha p.2 (List.mem_map.2 ⟨p,hp,rfl⟩)]
  simp only[opv,h1]at ho ⊢
  cases hq:putElems e0 (List.replicate len (zeroElem ag zero)) (ps.map fun p=>(p.1,evo env p.2))with
  |none=>rw[hq]at ho;cases ho
  |some xs=>
   rw[hq]at ho
   simp only[zbs]at ho ⊢
   split at ho
   ·rename_i hk;simp only[hk,if_true];exact fin (r:=some _) ho
   ·cases ho
 case nilc x=>
  have h1:=ha x (by simp)
  simp only[opv,h1]at ho ⊢
  split at ho
  ·exact fin (r:=some _) ho
  ·exact fin (r:=some _) ho
  ·cases ho
 case bin b x y=>
  have h1:=ha x (by simp)
  have h2:=ha y (by simp)
  simp only[opv,h1,h2]at ho ⊢
  exact fin ho
 case eqA n ks x y=>
  have h1:=ha x (by simp)
  have h2:=ha y (by simp)
  simp only[opv,h1,h2]at ho ⊢
  split at ho
  ·rename_i cs ds e1 e2
   cases hq:eqCells ks cs ds with
   |none=>rw[hq]at ho;cases ho
   |some b=>rw[hq]at ho;(try simp only[e1,e2,hq]);exact fin (r:=some _) ho
  ·cases ho
 case eqB n x y=>
  have h1:=ha x (by simp)
  have h2:=ha y (by simp)
  simp only[opv,h1,h2]at ho ⊢
  split at ho
  ·exact fin (r:=some _) ho
  ·cases ho
 case eqP n x y=>
  have h1:=ha x (by simp)
  have h2:=ha y (by simp)
  simp only[opv,h1,h2]at ho ⊢
  split at ho
  ·exact fin (r:=some _) ho
  ·exact fin (r:=some _) ho
  ·exact fin (r:=some _) ho
  ·cases ho
 case un u x=>
  have h1:=ha x (by simp)
  simp only[opv,h1]at ho ⊢
  split at ho
  ·exact fin (r:=some _) ho
  ·exact fin (r:=some _) ho
  ·exact fin ho
  ·cases ho
 case toInt k x=>
  have h1:=ha x (by simp)
  simp only[opv,h1]at ho ⊢
  cases hq:intV (evo env x)with
  |none=>rw[hq]at ho;cases ho
  |some n=>rw[hq]at ho;exact fin (r:=some _) ho
 case same x=>
  have h1:=ha x (by simp)
  simp only[opv,h1]at ho ⊢
  split at ho
  ·exact fin (r:=some _) ho
  ·cases ho
 case s2b x=>
  have h1:=ha x (by simp)
  simp only[opv,h1]at ho ⊢
  split at ho
  ·split at ho
   ·rename_i hl;simp only[hl,if_true];exact fin (r:=some _) ho
   ·cases ho
  ·cases ho
 case mk f cap=>
  have h1:cap.map (evo env2)=cap.map (evo env):=List.map_congr_left fun x hx=>ha x hx
  simp only[opv,h1]at ho ⊢
  split at ho
  ·rename_i hl;simp only[hl,if_true];exact fin (r:=some _) ho
  ·cases ho
 case mkB f cap=>
  have h1:cap.map (evo env2)=cap.map (evo env):=List.map_congr_left fun x hx=>ha x hx
  simp only[opv,h1]at ho ⊢
  split at ho
  ·rename_i hl;simp only[hl,if_true];exact fin (r:=some _) ho
  ·cases ho
 case makeL e0 x=>
  have h1:=ha x (by simp)
  simp only[opv,h1]at ho ⊢
  cases hq:intV (evo env x)with
  |none=>rw[hq]at ho;cases ho
  |some n=>
   rw[hq]at ho
   simp only[zbs]at ho ⊢
   split at ho
   ·rename_i hl;simp only[hl,and_self,if_true];exact fin (r:=some _) ho
   ·cases ho
 case slcS x lo hi=>
  have h1:=ha x (by simp)
  have h2: ∀d n,bound env2 lo d n=bound env lo d n:=fun d n=>bound_congr fun y hy=>ha y (by simp[hy])
  have h3: ∀d n,bound env2 hi d n=bound env hi d n:=fun d n=>bound_congr fun y hy=>ha y (by simp[hy])
  simp only[opv,h1,h2,h3]at ho ⊢
  split at ho
  ·rename_i s hs
   try simp only[hs]
   cases hq:bound env hi s.length s.length with
   |none=>rw[hq]at ho;cases ho
   |some b=>
    rw[hq]at ho
    simp only[zbs]at ho ⊢
    cases hq2:bound env lo 0 b with
    |none=>rw[hq2]at ho;cases ho
    |some c=>rw[hq2]at ho;exact fin (r:=some _) ho
  ·cases ho
 case slcA n e0 ag x lo hi=>
  have h1:=ha x (by simp)
  have h2: ∀d n,bound env2 lo d n=bound env lo d n:=fun d n=>bound_congr fun y hy=>ha y (by simp[hy])
  have h3: ∀d n,bound env2 hi d n=bound env hi d n:=fun d n=>bound_congr fun y hy=>ha y (by simp[hy])
  simp only[opv,h1,h2,h3]at ho ⊢
  split at ho
  ·rename_i s off hs
   try simp only[hs]
   cases hq:bound env hi n n with
   |none=>rw[hq]at ho;cases ho
   |some b=>
    rw[hq]at ho
    simp only[zbs]at ho ⊢
    cases hq2:bound env lo 0 b with
    |none=>rw[hq2]at ho;cases ho
    |some c=>rw[hq2]at ho;exact fin (r:=some _) ho
  ·cases ho
 case slc e0 x lo hi mx=>
  have h1:=ha x (by simp)
  have p1:=plain_evoE (hx x (by simp))
  have h2: ∀d n,bound env2 lo d n=bound env lo d n:=fun d n=>bound_congr fun y hy=>ha y (by simp[hy])
  have h3: ∀d n,bound env2 hi d n=bound env hi d n:=fun d n=>bound_congr fun y hy=>ha y (by simp[hy])
  have h4: ∀d n,bound env2 mx d n=bound env mx d n:=fun d n=>bound_congr fun y hy=>ha y (by simp[hy])
  simp only[opv,h1,h2,h3,h4,p1]at ho ⊢
  split at ho
  ·rename_i g xs hs
   try simp only[hs]
   split at ho
   ·rename_i hh
    simp only[hh,if_true]
    cases hq:bound env mx xs.length xs.length with
    |none=>rw[hq]at ho;cases ho
    |some m=>
     rw[hq]at ho
     simp only[zbs]at ho ⊢
     cases hq1:bound env hi xs.length m with
     |none=>rw[hq1]at ho;cases ho
     |some b=>
      rw[hq1]at ho
      simp only[zbs]at ho ⊢
      cases hq2:bound env lo 0 b with
      |none=>rw[hq2]at ho;cases ho
      |some c=>rw[hq2]at ho;exact fin (r:=some _) ho
   ·cases ho
  ·rename_i o off len e1 ag hs
   try simp only[hs]
   split at ho
   ·rename_i hh
    simp only[hh,if_true]
    cases hq:bound env mx len len with
    |none=>rw[hq]at ho;cases ho
    |some m=>
     rw[hq]at ho
     simp only[zbs]at ho ⊢
     cases hq1:bound env hi len m with
     |none=>rw[hq1]at ho;cases ho
     |some b=>
      rw[hq1]at ho
      simp only[zbs]at ho ⊢
      cases hq2:bound env lo 0 b with
      |none=>rw[hq2]at ho;cases ho
      |some c=>rw[hq2]at ho;subst hh;exact fin (r:=some _) ho
   ·cases ho
  ·cases ho
 case fa off x=>
  have h1:=ha x (by simp)
  simp only[opv,h1]at ho ⊢
  split at ho
  ·exact fin (r:=some _) ho
  ·exact fin (r:=some _) ho
  ·cases ho
 case fld off sz ag x=>
  have h1:=ha x (by simp)
  simp only[opv,h1]at ho ⊢
  split at ho
  ·exact fin ho
  ·cases ho
 case ldd sz ag x=>
  have h1:=ha x (by simp)
  simp only[opv,h1]at ho ⊢
  split at ho
  ·exact fin ho
  ·cases ho
 case ia e0 x i=>
  have h1:=ha x (by simp)
  have h2:=ha i (by simp)
  simp only[opv,h1,h2]at ho ⊢
  cases hq:intV (evo env i)with
  |none=>rw[hq]at ho;cases ho
  |some n=>
   rw[hq]at ho
   simp only[zbs]at ho ⊢
   split at ho
   ·rename_i g xs hs
    try simp only[hs]
    cases hq1:within n xs.length with
    |none=>rw[hq1]at ho;cases ho
    |some j=>
     rw[hq1]at ho
     simp only[zbs]at ho ⊢
     cases hq2:xs[j]? with
     |none=>rw[hq2]at ho;cases ho
     |some y=>
      rw[hq2]at ho
      simp only[zbs]at ho ⊢
      split at ho
      ·rename_i hh;simp only[hh,if_true];exact fin (r:=some _) ho
      ·cases ho
   ·rename_i o off len e1 ag hs
    try simp only[hs]
    split at ho
    ·rename_i hh
     simp only[hh,if_true]
     cases hq1:within n len with
     |none=>rw[hq1]at ho;cases ho
     |some j=>rw[hq1]at ho;subst hh;exact fin (r:=some _) ho
    ·cases ho
   ·cases ho
 case iaA n e0 x i=>
  have h1:=ha x (by simp)
  have h2:=ha i (by simp)
  simp only[opv,h1,h2]at ho ⊢
  cases hq:intV (evo env i)with
  |none=>rw[hq]at ho;cases ho
  |some m=>
   rw[hq]at ho
   simp only[zbs]at ho ⊢
   split at ho
   ·cases hq1:within m n with
    |none=>rw[hq1]at ho;cases ho
    |some j=>rw[hq1]at ho;exact fin (r:=some _) ho
   ·cases hq1:within m n with
    |none=>rw[hq1]at ho;cases ho
    |some j=>rw[hq1]at ho;exact fin (r:=some _) ho
   ·cases ho
 case ixS x i=>
  have h1:=ha x (by simp)
  have h2:=ha i (by simp)
  simp only[opv,h1,h2]at ho ⊢
  cases hq:intV (evo env i)with
  |none=>rw[hq]at ho;cases ho
  |some m=>
   rw[hq]at ho
   simp only[zbs]at ho ⊢
   split at ho
   ·rename_i s hs
    try simp only[hs]
    cases hq1:within m s.length with
    |none=>rw[hq1]at ho;cases ho
    |some j=>
     rw[hq1]at ho
     simp only[zbs]at ho ⊢
     cases hq2:s[j]? with
     |none=>rw[hq2]at ho;cases ho
     |some y=>rw[hq2]at ho;exact fin (r:=some _) ho
   ·cases ho
 case ixA n e0 ag x i=>
  have h1:=ha x (by simp)
  have h2:=ha i (by simp)
  simp only[opv,h1,h2]at ho ⊢
  cases hq:intV (evo env i)with
  |none=>rw[hq]at ho;cases ho
  |some m=>
   rw[hq]at ho
   simp only[zbs]at ho ⊢
   split at ho
   ·rename_i cs hs
    try simp only[hs]
    cases hq1:within m n with
    |none=>rw[hq1]at ho;cases ho
    |some j=>
     rw[hq1]at ho
     simp only[zbs]at ho ⊢
     exact fin ho
   ·cases ho
 case len st x=>
  have h1:=ha x (by simp)
  simp only[opv,h1]at ho ⊢
  split at ho
  ·exact fin (r:=some _) ho
  ·exact fin (r:=some _) ho
  ·exact fin (r:=some _) ho
  ·cases ho
 case lenA n=>exact fin (r:=some _) ho
 case mm mx x r=>
  have h1:=ha x (by simp)
  have h2:(r.mapM fun y=>intV (evo env2 y))=r.mapM fun y=>intV (evo env y):=by
   have: ∀l:List Opd,(∀y∈l,evo env2 y=evo env y)→(l.mapM fun y=>intV (evo env2 y))=l.mapM fun y=>intV (evo env y):=by
    intro l
    induction l with
    |nil=>intro _;rfl
    |cons y l ih=>intro hy;rw[List.mapM_cons,List.mapM_cons,ih fun z hz=>hy z (List.mem_cons_of_mem _ hz),hy y List.mem_cons_self]
   exact this r fun y hy=>ha y (by simp[hy])
  simp only[opv,h1,h2]at ho ⊢
  split at ho
  ·rename_i k a hs
   try simp only[hs]
   cases hq:r.mapM fun y=>intV (evo env y)with
   |none=>rw[hq]at ho;cases ho
   |some l=>rw[hq]at ho;exact fin (r:=some _) ho
  ·cases ho
 case ext x i=>
  have h1:=ha x (by simp)
  simp only[opv,h1]at ho ⊢
  split at ho
  ·rename_i vs hs
   try simp only[hs]
   cases hq:vs[i]? with
   |none=>rw[hq]at ho;cases ho
   |some u=>rw[hq]at ho;exact fin (r:=some _) ho
  ·cases ho
 case call f m as=>
  cases m with
  |data=>
   obtain⟨q1,q2⟩:=plain_args (as:=as) hx env
   obtain⟨r1,r2⟩:=plain_args (as:=as) hx env2
   have h1:as.map (evo env2)=as.map (evo env):=List.map_congr_left fun x hx=>ha x hx
   simp only[opv,q1,q2,r1,r2,h1]at ho ⊢
   have: ∀h,callR R h f .data (as.map (evo env))=(((as.map (evo env)).mapM (tree [])).bind fun l=>(R f l []).bind fun p=>back p.1 p.2).map fun v=>(v,h):=by
    intro h
    simp only[callR,Option.bind_eq_bind,Option.pure_def]
    cases(as.map (evo env)).mapM (tree [])with
    |none=>rfl
    |some l=>
     simp only[zbs]
     cases R f l []with
     |none=>rfl
     |some p=>obtain⟨v,o⟩:=p;simp only[zbs];cases back v o<;>rfl
   simp only[this,Option.map_map]at ho ⊢
   exact fin ho
  |_=>cases hp
 case callv x m as=>
  cases m with
  |data=>
   obtain⟨q1,q2⟩:=plain_args (as:=as) (fun y hy=>hx y (List.mem_cons_of_mem _ hy)) env
   obtain⟨r1,r2⟩:=plain_args (as:=as) (fun y hy=>hx y (List.mem_cons_of_mem _ hy)) env2
   have h0:=ha x List.mem_cons_self
   have h1:as.map (evo env2)=as.map (evo env):=List.map_congr_left fun y hy=>ha y (List.mem_cons_of_mem _ hy)
   simp only[opv,q1,q2,r1,r2,h0,h1]at ho ⊢
   split at ho
   ·rename_i f cap hs
    try simp only[hs]
    have: ∀h,callR R h f .data (fnArgs cap (as.map (evo env)))=(((fnArgs cap (as.map (evo env))).mapM (tree [])).bind fun l=>(R f l []).bind fun p=>back p.1 p.2).map fun v=>(v,h):=by
     intro h
     simp only[callR,Option.bind_eq_bind,Option.pure_def]
     cases(fnArgs cap (as.map (evo env))).mapM (tree [])with
     |none=>rfl
     |some l=>
      simp only[zbs]
      cases R f l []with
      |none=>rfl
      |some p=>obtain⟨v,o⟩:=p;simp only[zbs];cases back v o<;>rfl
    simp only[this,Option.map_map]at ho ⊢
    exact fin ho
   ·cases ho
  |_=>cases hp
end
@[simp] def slotsO :Opd→List Nat
  | .t k| .x k=>[k]
  | .c _=>[]
@[simp] def MI.reads (i:MI):List Nat:=(opds i.op).flatMap slotsO++(match i.guard with|some (k,_)=>[k]|none=>[])
@[simp] def HK.isOth :HK→Bool
  | .oth=>true
  |_=>false
@[simp] def xOf :MOp→Option Nat
  | .mv (.x k)| .app _ _ (.x k) _| .st _ _ (.x k)=>some k
  |_=>none
@[simp] def okRt :MOp→Bool
  | .mv _=>true
  | .app _ _ _ a=>a.plain
  | .st _ a _=>a.plain
  |op=>(opds op).all Opd.plain
def dropX (x:Option Nat)(env:Env):Env:=
 match x with
 |some k=>(k,(get env k).cp)::env
 |none=>env
@[simp] def okMI (i:MI):Bool:= !(hk i.op).isOth&&okRt i.op&&((xOf i.op).isNone||i.guard.isNone)
def MI.outs (i:MI):List Nat:=i.dst.toList++(xOf i.op).toList
@[simp] def indep (i j:MI):Bool:=
  i.outs.all (fun d=> !(j.reads.contains d)&&j.dst !=some d)&&j.outs.all (fun d=> !(i.reads.contains d))
section
variable {R:Nat→List AV→List Obj→Option (AV×List Obj)} {env env2:Env} {h h1 h2 h':Heap} {op:MOp} {v:AV} {e:Env}
theorem evo_congr {x:Opd}(hs: ∀k∈slotsO x,get env2 k=get env k):evo env2 x=evo env x:=by
 cases x with
 |t k=>simp only[evo];rw[hs k (by simp)]
 |x k=>simp only[evo];rw[hs k (by simp)]
 |c v=>rfl
def putC (cs:List AV)(off:Nat)(vs:List AV):List AV:=(storeC cs off vs).getD cs
def EffK (k:HK)(env:Env)(f:Heap→Option (AV×Heap))(h:Heap)(v:AV)(h1:Heap):Prop:=
 match k with
 | .pure=>h1=h∧∀h2,f h2=some (v,h2)
 | .rd=>h1=h∧∀h2,(∀o ob,hget h o=some ob→hget h2 o=some ob)→f h2=some (v,h2)
 | .ld n a=>h1=h∧((∃cs off,evo env a= .ept cs off∧∀h2,f h2=some (v,h2))∨∃o off ob,evo env a= .ptr o off∧hget h o=some ob∧
    ∀h2 ob2,hget h2 o=some ob2→(∀j,off≤j→j<off+n→(ob2.cells[j]?).map AV.cp=(ob.cells[j]?).map AV.cp)→f h2=some (v,h2))
 | .ldx a=> ∃o off ob,evo env a= .ptr o off∧hget h o=some ob∧ob.wr=true∧ob.cells[off]? =some v∧h1=hset h o {ob with cells:=ob.cells.set off v.cp}∧
    ∀h2 ob2,hget h2 o=some ob2→ob2.wr=true→ob2.cells[off]? =some v→f h2=some (v,hset h2 o {ob2 with cells:=ob2.cells.set off v.cp})
 | .st n a=> ∃o off vs ob,evo env a= .ptr o off∧vs.length=n∧hget h o=some ob∧ob.wr=true∧off+n≤ob.cells.length∧h1=hset h o {ob with cells:=putC ob.cells off vs}∧
    ∀h2 ob2,hget h2 o=some ob2→ob2.wr=true→off+n≤ob2.cells.length→f h2=some (v,hset h2 o {ob2 with cells:=putC ob2.cells off vs})
 | .al nm=> ∃ob,hget h nm=none∧h1=(nm,ob)::h∧∀h2,hget h2 nm=none→f h2=some (v,(nm,ob)::h2)
 | .cl=> ∀h2,(∀k,hget h k=hget h2 k)→∃h3,f h2=some (v,h3)∧∀k,hget h1 k=hget h3 k
 | .clk ks=>(∀h2,(∀k,hget h k=hget h2 k)→∃h3,f h2=some (v,h3)∧∀k,hget h1 k=hget h3 k)∧
    ∀p∈ks,∃o off ob ob1,evo env p.1= .ptr o off∧hget h o=some ob∧hget h1 o=some ob1∧(ob1.cells[off+p.2]?).map AV.cp=(ob.cells[off+p.2]?).map AV.cp
 | .ldk b d=>h1=h∧∃o off ob,evo env b= .ptr o off∧hget h o=some ob∧
    ∀h2 ob2,hget h2 o=some ob2→(ob2.cells[off+d]?).map AV.cp=(ob.cells[off+d]?).map AV.cp→f h2=some (v,h2)
 | .oth=>False
def iv (R:Nat→List AV→List Obj→Option (AV×List Obj))(i:MI)(env:Env)(h:Heap):Option (AV×Heap):=
 match wanted env i.guard with
 |some true=>(opv R env h i.op).map fun p=>(p.1,p.2.2)
 |some false=>some (.nov,h)
 |none=>none
theorem takeN_congr (n:Nat): ∀(a b:List AV) (r:List AV),takeN n a=some r→(∀j,j<n→(b[j]?).map AV.cp=(a[j]?).map AV.cp)→takeN n b=some r:=by
 induction n with
 |zero=>intro a b r h _;cases a<;>cases b<;>exact h
 |succ n ih=>
  intro a b r h hc
  cases a with
  |nil=>cases h
  |cons x a=>
   cases b with
   |nil=>have:=hc 0 (by omega);simp at this
   |cons y b=>
    have h0:=hc 0 (by omega)
    simp only[List.getElem?_cons_zero,Option.map_some,zsi]at h0
    simp only[takeN,h0]at h ⊢
    split at h
    ·rename_i r' hr
     rw[ih a b r' hr (fun j hj=>by have:=hc (j+1) (by omega);simpa using this)]
     exact h
    ·cases h
@[simp] def eff (sz:Nat)(ag:Bool):Nat:=if ag then sz else 1
theorem loadC_congr {a b:List AV}{off sz:Nat}{ag:Bool}{v:AV}(h:loadC a off sz ag=some v)(hc: ∀j,off≤j→j<off+eff sz ag→(b[j]?).map AV.cp=(a[j]?).map AV.cp):loadC b off sz ag=some v∧(eff sz ag≤a.length-off):=by
 cases ag with
 |true=>
  simp only[loadC,eff,if_true]at h hc ⊢
  split at h
  ·rename_i r hr
   have:=takeN_congr sz (a.drop off) (b.drop off) r hr (fun j hj=>by rw[List.getElem?_drop,List.getElem?_drop];exact hc (off+j) (by omega) (by omega))
   rw[this]
   refine⟨h,?_⟩
   obtain⟨-,h3,-⟩:=takeN_get _ _ _ hr
   simpa using h3
  ·cases h
 |false=>
  simp only[loadC,eff,Bool.false_eq_true,if_false]at h hc ⊢
  split at h
  ·rename_i c r hr
   have h0:=hc off (Nat.le_refl _) (by omega)
   have ha:a[off]? =some c:=by
    have:(a.drop off)[0]? =some c:=by rw[hr];rfl
    rwa [List.getElem?_drop,Nat.add_zero]at this
   rw[ha]at h0
   obtain⟨c2,hb2,hc2⟩:=Option.map_eq_some_iff.1 h0
   have hb:(b.drop off)[0]? =some c2:=by rw[List.getElem?_drop,Nat.add_zero];exact hb2
   have hlt:off<a.length:=by
    rcases Nat.lt_or_ge off a.length with hh|hh
    ·exact hh
    ·rw[List.getElem?_eq_none hh]at ha;cases ha
   refine⟨?_,by omega⟩
   cases hbd:b.drop off with
   |nil=>rw[hbd]at hb;cases hb
   |cons y s=>rw[hbd]at hb;simp only[List.getElem?_cons_zero,zsi]at hb;subst hb;simp only[hc2];exact h
  ·cases h
@[simp] def placeOf :HK→Option (Nat×Opd)
  | .ld n a=>some (n,a)
  | .st n a=>some (n,a)
  |_=>none
theorem storeC_some (off:Nat): ∀(cs vs:List AV),off+vs.length≤cs.length→∃r,storeC cs off vs=some r:=by
 have ov: ∀(vs cs:List AV),vs.length≤cs.length→∃r,over cs vs=some r:=by
  intro vs
  induction vs with
  |nil=>intro cs _;cases cs<;>exact⟨_,rfl⟩
  |cons v vs ih=>
   intro cs hl
   cases cs with
   |nil=>simp at hl
   |cons c cs=>
    obtain⟨r,hr⟩:=ih cs (by simpa using hl)
    exact⟨v::r,by simp only[over,hr]⟩
 induction off with
 |zero=>intro cs vs hl;obtain⟨r,hr⟩:=ov vs cs (by omega);exact⟨r,by cases cs<;>exact hr⟩
 |succ n ih=>
  intro cs vs hl
  cases cs with
  |nil=>simp at hl
  |cons c cs=>
   obtain⟨r,hr⟩:=ih cs vs (by simp at hl;omega)
   exact⟨c::r,by simp only[storeC,hr]⟩
theorem storeC_at {cs vs:List AV}{off:Nat}(hl:off+vs.length≤cs.length):storeC cs off vs=some (putC cs off vs):=by
 obtain⟨r,hr⟩:=storeC_some off cs vs hl
 rw[putC,hr];rfl
theorem elems_congr {h h2:Heap}{ag:Bool}{x:AV}{ys:List AV}(hm: ∀o ob,hget h o=some ob→hget h2 o=some ob)(hs:srcElems h ag x=some ys):srcElems h2 ag x=some ys:=by
 unfold srcElems at hs ⊢
 split at hs
 ·exact hs
 ·exact hs
 ·split at hs
  ·rename_i hag
   rw[if_pos hag]
   obtain⟨ob,h1,h2'⟩:=zbi hs
   rw[hm _ _ h1];exact h2'
  ·cases hs
 ·cases hs
theorem hget_fr (h:Heap)(ns:List Nat)(k:Nat):hget (freeze h ns) k=(hget h k).map fun ob=>if ns.contains k then{ob with wr:=false}else ob:=by
 induction h with
 |nil=>rfl
 |cons p r ih=>
  obtain⟨q,x⟩:=p
  simp only[freeze]
  rw[hget_cons,hget_cons]
  by_cases e:q=k
  ·subst e;rw[if_pos rfl,if_pos rfl];rfl
  ·rw[if_neg e,if_neg e];exact ih
theorem hget_hp (h:Heap)(k:Nat)(o:Obj)(j:Nat):hget (hput h k o) j=if k=j then some o else hget h j:=by
 induction h with
 |nil=>simp only[hput];rw[hget_cons]
 |cons p r ih=>
  obtain⟨q,x⟩:=p
  simp only[hput]
  cases hb:Nat.beq q k with
  |true=>
   have:=Nat.eq_of_beq_eq_true hb
   subst this
   simp only
   rw[hget_cons,hget_cons]
   by_cases e:q=j
   ·subst e;simp
   ·rw[if_neg e,if_neg e,if_neg e]
  |false=>
   simp only
   rw[hget_cons,hget_cons,ih]
   by_cases e:q=j
   ·subst e
    rw[if_pos rfl,if_pos rfl,if_neg]
    intro e2;subst e2;simp at hb
   ·rw[if_neg e,if_neg e]
theorem tcell_cong (hq: ∀k,hget h k=hget h2 k)(a:AV):tcell h a=tcell h2 a:=by cases a<;>simp only[tcell,hq]
theorem tcells_cong (hq: ∀k,hget h k=hget h2 k)(l:List AV):tcells h l=tcells h2 l:=by
 induction l with
 |nil=>rfl
 |cons a r ih=>simp only[tcells,tcell_cong hq,ih]
theorem tree_cong (hq: ∀k,hget h k=hget h2 k):tree h=tree h2:=by
 funext a
 cases a<;>simp only[tree,tcell_cong hq,tcells_cong hq]
theorem reach_cong (hq: ∀k,hget h k=hget h2 k)(n:Nat): ∀todo seen:List Nat,reach h n todo seen=reach h2 n todo seen:=by
 induction n with
 |zero=>intro todo seen;cases todo<;>rfl
 |succ n ih=>
  intro todo seen
  cases todo with
  |nil=>rfl
  |cons o todo=>simp only[reach,hq,ih]
theorem puts_cong (f:Nat→Nat): ∀(l:List (Nat×Obj)) (h h2:Heap),(∀k,hget h k=hget h2 k)→∀k,hget (l.foldl (fun h (p:Nat×Obj)=>hput h p.1 {p.2 with cells:=p.2.cells.map (ren2 f)}) h) k=hget (l.foldl (fun h (p:Nat×Obj)=>hput h p.1 {p.2 with cells:=p.2.cells.map (ren2 f)}) h2) k:=by
 intro l
 induction l with
 |nil=>intro h h2 hq k;exact hq k
 |cons p r ih=>
  intro h h2 hq k
  simp only[List.foldl_cons]
  refine ih _ _ (fun j=> ?_) k
  rw[hget_hp,hget_hp,hq]
theorem callR_cong {f:Nat}{m:CArg}{args:List AV}{r:AV}(hc:callR R h f m args=some (r,h1))(hq: ∀k,hget h k=hget h2 k): ∃h3,callR R h2 f m args=some (r,h3)∧∀k,hget h1 k=hget h3 k:=by
 cases m with
 |data=>
  simp only[callR,Option.bind_eq_bind,Option.bind_eq_some_iff,Option.pure_def,zsi,zpi]at hc ⊢
  obtain⟨as,e1,p,e2,r',e3,rfl,rfl⟩:=hc
  exact⟨h2,⟨as,e1,p,e2,r',e3,rfl,rfl⟩,hq⟩
 |tree=>
  simp only[callR,Option.bind_eq_bind,Option.bind_eq_some_iff,Option.pure_def,zsi,zpi]at hc ⊢
  obtain⟨as,e1,p,e2,r',e3,rfl,rfl⟩:=hc
  rw[tree_cong hq]at e1
  refine⟨_,⟨as,e1,p,e2,r',e3,rfl,rfl⟩,fun k=> ?_⟩
  split
  ·rw[hget_fr,hget_fr,hq]
  ·exact hq k
 |ref base=>
  simp only[callR,Option.bind_eq_bind,Option.bind_eq_some_iff]at hc ⊢
  obtain⟨ns,e1,hin,e2,p,e3,e4⟩:=hc
  rw[reach_cong hq]at e1
  simp only[hq]at e2
  split at e4
  ·rename_i hb
   simp only[Option.pure_def,zsi,zpi]at e4
   obtain⟨rfl,rfl⟩:=e4
   refine⟨_,⟨ns,e1,hin,e2,p,e3,?_⟩,fun k=>puts_cong _ _ h h2 hq k⟩
   have hb':(Nat.ble ns.length p.2.length&&((names ns base p.2.length).drop ns.length).all (fun k=>(hget h2 k).isNone))=true:=by
    simpa only[hq]using hb
   rw[if_pos hb'];rfl
  ·cases e4
theorem kept_cong {g g1:Heap}{ks:List (Opd×Nat)}(hk:kept env h h1 ks=true)(he: ∀x∈ks,evo env2 x.1=evo env x.1)(hq: ∀k,hget h k=hget g k)(hq1: ∀k,hget h1 k=hget g1 k):kept env2 g g1 ks=true:=by
 induction ks with
 |nil=>rfl
 |cons a r ih=>
  simp only[kept,zba]at hk ⊢
  refine⟨?_,ih hk.2 fun x hx=>he x (List.mem_cons_of_mem _ hx)⟩
  rw[he a List.mem_cons_self]
  simp only[←hq,←hq1]
  exact hk.1
theorem kept_spec {ks:List (Opd×Nat)}(hk:kept env h h1 ks=true): ∀p∈ks,∃o off ob ob1,evo env p.1= .ptr o off∧hget h o=some ob∧hget h1 o=some ob1∧(ob1.cells[off+p.2]?).map AV.cp=(ob.cells[off+p.2]?).map AV.cp:=by
 induction ks with
 |nil=>intro a ha;cases ha
 |cons b r ih=>
  simp only[kept,zba]at hk
  intro a ha
  rcases List.mem_cons.1 ha with rfl|ha
  ·obtain⟨hk,-⟩:=hk
   split at hk
   ·rename_i o off ho
    split at hk
    ·rename_i ob ob1 h3 h4
     split at hk
     ·rename_i k x k' y h5 h6
      simp only[zba,decide_eq_true_eq]at hk
      obtain⟨rfl,rfl⟩:=hk
      exact⟨o,off,ob,ob1,ho,h3,h4,by rw[h5,h6]⟩
     ·cases hk
    ·cases hk
   ·cases hk
  ·exact ih hk.2 a ha
theorem op_eff (hp:(hk op).isOth=false)(hx:okRt op=true)(ha: ∀x∈opds op,evo env2 x=evo env x)(ho:opv R env h op=some (v,e,h1)):
 e=dropX (xOf op) env∧EffK (hk op) env (fun h2=>(opv R env2 h2 op).map fun p=>(p.1,p.2.2)) h v h1:=by
 by_cases hpure:hk op= .pure
 ·have mvc:(∃k,op= .mv (.x k))∨((∀x∈opds op,x.plain=true)∧xOf op=none):=by
   cases op<;>(try(exact .inr ⟨List.all_eq_true.1 hx,rfl⟩))
   case mv x=>cases x<;>first|exact .inl ⟨_,rfl⟩|exact .inr ⟨by simp,rfl⟩
   case app=>cases hpure
   case st=>cases hpure
  rcases mvc with⟨k,rfl⟩|⟨hx,hx2⟩
  ·have h3:=ha (.x k) (by simp)
   simp only[opv,zsi,zpi]at ho
   obtain⟨rfl,rfl,rfl⟩:=ho
   exact⟨rfl,rfl,fun h2=>by simp only[opv,h3,Option.map_some]⟩
  obtain⟨e1,e2,e3⟩:=pure_frame hpure hx ha ho
  rw[hpure,hx2]
  exact⟨e1,e2,fun h2=>by show Option.map _ _=_;rw[e3 h2];rfl⟩
 ·cases op<;>(try(exact absurd rfl hpure))<;>(try(cases hp;done))
  case b2s x=>
   have h3:=ha x (by simp)
   simp only[opv]at ho
   have key: ∀h2,(∀o ob,hget h o=some ob→hget h2 o=some ob)→e=env∧h1=h∧opv R env2 h2 (.b2s x)=some (v,env2,h2):=by
    intro h2 hm
    simp only[opv,h3]
    split at ho
    ·rename_i g xs hs
     cases hq:xs.mapM avByte with
     |none=>rw[hq]at ho;cases ho
     |some s=>
      rw[hq]at ho
      simp only[Option.map_some,zsi,zpi]at ho
      obtain⟨rfl,rfl,rfl⟩:=ho
      exact⟨rfl,rfl,rfl⟩
    ·rename_i o off len hs
     obtain⟨ob,hob,ho⟩:=zbi ho
     rw[hm _ _ hob]
     simp only[zbs]
     split at ho
     ·rename_i hl
      rw[if_pos hl]
      cases hq:(((ob.cells.drop off).take len).mapM avByte)with
      |none=>rw[hq]at ho;cases ho
      |some s=>
       rw[hq]at ho
       simp only[Option.map_some,zsi,zpi]at ho
       obtain⟨rfl,rfl,rfl⟩:=ho
       exact⟨rfl,rfl,rfl⟩
     ·cases ho
    ·cases ho
   exact⟨(key h fun _ _ h=>h).1,(key h fun _ _ h=>h).2.1,fun h2 hm=>by show Option.map _ _=_;rw[(key h2 hm).2.2];rfl⟩
  case app e0 ag b a=>
   have h3:=ha b (by simp)
   have h4:=ha a (by simp)
   have p1: ∀env:Env,evoE env b=dropX (xOf (.app e0 ag b a)) env:=by intro env;cases b<;>rfl
   simp only[opv,p1]at ho
   have key: ∀h2,(∀o ob,hget h o=some ob→hget h2 o=some ob)→e=dropX (xOf (.app e0 ag b a)) env∧h1=h∧opv R env2 h2 (.app e0 ag b a)=some (v,dropX (xOf (.app e0 ag b a)) env2,h2):=by
    intro h2 hm
    simp only[opv,h3,h4,p1]
    split at ho
    ·rename_i g xs hs
     obtain⟨ys,hy,ho⟩:=zbi ho
     rw[elems_congr hm hy]
     simp only[zbs]
     split at ho
     ·rename_i hl
      rw[if_pos hl]
      simp only[zsi,zpi]at ho
      obtain⟨rfl,rfl,rfl⟩:=ho
      exact⟨rfl,rfl,rfl⟩
     ·cases ho
    ·cases ho
   exact⟨(key h fun _ _ h=>h).1,(key h fun _ _ h=>h).2.1,fun h2 hm=>by show Option.map _ _=_;rw[(key h2 hm).2.2];rfl⟩
  case ld sz ag x=>
   have h3:=ha x (by simp)
   simp only[opv]at ho
   split at ho
   ·rename_i o off hs
    obtain⟨ob,hob,ho⟩:=zbi ho
    obtain⟨u,hu,ho⟩:=Option.map_eq_some_iff.1 ho
    simp only[zpi]at ho
    obtain⟨rfl,rfl,rfl⟩:=ho
    refine⟨rfl,rfl,.inr ⟨o,off,ob,hs,hob,fun h2 ob2 hob2 hc=> ?_⟩⟩
    simp only[opv,h3,hs,hob2,zbs]
    rw[(loadC_congr hu hc).1];rfl
   ·rename_i cs off hs
    obtain⟨u,hu,ho⟩:=Option.map_eq_some_iff.1 ho
    simp only[zpi]at ho
    obtain⟨rfl,rfl,rfl⟩:=ho
    refine⟨rfl,rfl,.inl ⟨cs,off,hs,fun h2=> ?_⟩⟩
    simp only[opv,h3,hs,hu];rfl
   ·cases ho
  case st sz x y=>
   have h3:=ha x (by simp)
   have h4:=ha y (by simp)
   have p2: ∀env:Env,evoE env y=dropX (xOf (.st sz x y)) env:=by intro env;cases y<;>rfl
   simp only[opv,p2]at ho
   split at ho
   ·rename_i o off hs
    obtain⟨ob,hob,ho⟩:=zbi ho
    split at ho
    ·rename_i hc
     obtain⟨c1,c2,c3⟩:=hc
     obtain⟨cs,hcs,ho⟩:=Option.map_eq_some_iff.1 ho
     simp only[zpi]at ho
     obtain⟨rfl,rfl,rfl⟩:=ho
     have hl:=(storeC_get off _ _ _ hcs).2.1
     refine⟨rfl,o,off,(evo env y).cells,ob,hs,c2,hob,c1,by rw[←c2];exact hl,?_,fun h2 ob2 hob2 hw2 hl2=> ?_⟩
     ·rw[putC,hcs];rfl
     ·simp only[opv,h3,h4,p2,hs,hob2,zbs]
      rw[if_pos ⟨hw2,c2,c3⟩,storeC_at (by rw[c2];exact hl2)];rfl
    ·cases ho
   ·cases ho
  case ldx x=>
   have h3:=ha x (by simp)
   simp only[opv]at ho
   split at ho
   ·rename_i o off hs
    obtain⟨ob,hob,ho⟩:=zbi ho
    split at ho
    ·rename_i hw
     obtain⟨u,hu,ho⟩:=Option.map_eq_some_iff.1 ho
     simp only[zpi]at ho
     obtain⟨rfl,rfl,rfl⟩:=ho
     refine⟨rfl,o,off,ob,hs,hob,hw,hu,rfl,fun h2 ob2 hob2 hw2 hu2=> ?_⟩
     simp only[opv,h3,hs,hob2,zbs]
     rw[if_pos hw2,hu2];rfl
    ·cases ho
   ·cases ho
  case new nm zero=>
   simp only[opv]at ho
   split at ho
   ·rename_i hn
    simp only[zsi,zpi]at ho
    obtain⟨rfl,rfl,rfl⟩:=ho
    exact⟨rfl,_,hn,rfl,fun h2 hn2=>by simp only[opv,hn2];rfl⟩
   ·cases ho
  case box nm x=>
   have h3:=ha x (by simp)
   have p1:=plain_evoE (List.all_eq_true.1 hx x (by simp))
   simp only[opv,p1]at ho
   split at ho
   ·rename_i hn
    split at ho
    ·rename_i hc
     simp only[zsi,zpi]at ho
     obtain⟨rfl,rfl,rfl⟩:=ho
     exact⟨rfl,_,hn,rfl,fun h2 hn2=>by simp only[opv,hn2,h3,p1];rw[if_pos hc];rfl⟩
    ·cases ho
   ·cases ho
  case litA nm e0 ag zero len ps=>
   have h3:(ps.map fun p=>(p.1,evo env2 p.2))=ps.map fun p=>(p.1,evo env p.2):=by
    refine List.map_congr_left fun p hp=> ?_
    rw[ha p.2 (List.mem_map.2 ⟨p,hp,rfl⟩)]
   simp only[opv]at ho
   split at ho
   ·rename_i hn
    obtain⟨xs,hxs,ho⟩:=zbi ho
    split at ho
    ·rename_i hc
     simp only[zsi,zpi]at ho
     obtain⟨rfl,rfl,rfl⟩:=ho
     exact⟨rfl,_,hn,rfl,fun h2 hn2=>by simp only[opv,hn2,h3,hxs,zbs];rw[if_pos hc];rfl⟩
    ·cases ho
   ·cases ho
  case makeA nm e0 ag zero x=>
   have h3:=ha x (by simp)
   simp only[opv]at ho
   split at ho
   ·rename_i hn
    obtain⟨n,hn',ho⟩:=zbi ho
    split at ho
    ·rename_i hc
     simp only[zsi,zpi]at ho
     obtain⟨rfl,rfl,rfl⟩:=ho
     exact⟨rfl,_,hn,rfl,fun h2 hn2=>by simp only[opv,hn2,h3,hn',zbs];rw[if_pos hc];rfl⟩
    ·cases ho
   ·cases ho
  case call f m as=>
   have h3: ∀x∈as,evo env2 x=evo env x:=fun x hx'=>ha x (by simpa using hx')
   have h4: ∀x∈as,x.plain=true:=fun x hx'=>List.all_eq_true.1 hx x (by simpa using hx')
   obtain⟨p1,p2⟩:=plain_args h4 env
   obtain⟨p3,p4⟩:=plain_args h4 env2
   have h5:argsV env2 as=argsV env as:=by rw[p1,p3];exact List.map_congr_left h3
   simp only[opv]at ho
   obtain⟨⟨r,h''⟩,hc,e1⟩:=Option.map_eq_some_iff.1 ho
   simp only[zpi]at e1
   obtain⟨rfl,rfl,rfl⟩:=e1
   have key:EffK .cl env (fun h2=>(opv R env2 h2 (.call f m as)).map fun p=>(p.1,p.2.2)) h r h'':=by
    intro h2 hq
    obtain⟨h3',c1,c2⟩:=callR_cong hc hq
    exact⟨h3',by simp only[opv,h5,c1,Option.map_some],c2⟩
   refine⟨p2,?_⟩
   cases m<;>first|exact absurd rfl hpure|exact key
  case callv x m as=>
   have h0:=ha x (by simp)
   have h3: ∀y∈as,evo env2 y=evo env y:=fun y hy=>ha y (by simp[hy])
   have h4: ∀y∈as,y.plain=true:=fun y hy=>List.all_eq_true.1 hx y (by simp[hy])
   obtain⟨p1,p2⟩:=plain_args h4 env
   obtain⟨p3,p4⟩:=plain_args h4 env2
   have h5:argsV env2 as=argsV env as:=by rw[p1,p3];exact List.map_congr_left h3
   simp only[opv]at ho
   split at ho
   ·rename_i f cap hf
    obtain⟨⟨r,h''⟩,hc,e1⟩:=Option.map_eq_some_iff.1 ho
    simp only[zpi]at e1
    obtain⟨rfl,rfl,rfl⟩:=e1
    have key:EffK .cl env (fun h2=>(opv R env2 h2 (.callv x m as)).map fun p=>(p.1,p.2.2)) h r h'':=by
     intro h2 hq
     obtain⟨h3',c1,c2⟩:=callR_cong hc hq
     exact⟨h3',by simp only[opv,h0,hf,h5,c1,Option.map_some],c2⟩
    refine⟨p2,?_⟩
    cases m<;>first|exact absurd rfl hpure|exact key
   ·cases ho
  case ldk x y d=>
   have h3:=ha x (by simp)
   have h4:=ha y (by simp)
   simp only[opv]at ho
   split at ho
   ·rename_i o off o' off' h1 h2
    split at ho
    ·rename_i hc
     obtain⟨rfl,rfl⟩:=hc
     obtain⟨ob,hob,ho⟩:=zbi ho
     obtain⟨u,hu,ho⟩:=Option.map_eq_some_iff.1 ho
     simp only[zpi]at ho
     obtain⟨rfl,rfl,rfl⟩:=ho
     refine⟨rfl,rfl,o,off',ob,h2,hob,fun h2' ob2 hob2 hc=> ?_⟩
     simp only[opv,h3,h4,h1,h2,hob2,and_self,if_true,zbs]
     rw[(loadC_congr hu (fun j hj1 hj2=>by simp only[eff]at hj2;have:j=off'+d:=by simp at hj2;omega
                                           rw[this];exact hc)).1]
     rfl
    ·cases ho
   ·cases ho
  case callk f b as ks=>
   have h3: ∀y∈as,evo env2 y=evo env y:=fun y hy=>ha y (by simp[hy])
   have h6: ∀y∈ks,evo env2 y.1=evo env y.1:=fun y hy=>ha y.1 (by simp only[opds,List.mem_append,List.mem_map];exact .inr ⟨y,hy,rfl⟩)
   have h4: ∀y∈as,y.plain=true:=fun y hy=>List.all_eq_true.1 hx y (by simp[hy])
   obtain⟨p1,p2⟩:=plain_args h4 env
   obtain⟨p3,p4⟩:=plain_args h4 env2
   have h5:argsV env2 as=argsV env as:=by rw[p1,p3];exact List.map_congr_left h3
   simp only[opv]at ho
   obtain⟨⟨r,h''⟩,hc,e1⟩:=zbi ho
   simp only at e1
   split at e1
   ·rename_i hkept
    simp only[zsi,zpi]at e1
    obtain⟨rfl,rfl,rfl⟩:=e1
    refine⟨p2,fun h2 hq=> ?_,kept_spec hkept⟩
    obtain⟨h3',c1,c2⟩:=callR_cong hc hq
    refine⟨h3',?_,c2⟩
    simp only[opv,h5,c1,zbs]
    rw[if_pos (kept_cong hkept h6 hq c2)];rfl
   ·cases e1
end
abbrev Ap :=List ((Nat×Opd)×(Nat×Opd))
def inAp (ap:Ap)(n:Nat)(a:Opd)(m:Nat)(b:Opd):Bool:=
 match a,b with
 | .t k,.t l=>ap.any fun p=>match p.1.2,p.2.2 with
   | .t k',.t l'=>(k'==k&&p.1.1==n&&l'==l&&p.2.1==m)||(k'==l&&p.1.1==m&&l'==k&&p.2.1==n)
   |_,_=>false
 |_,_=>false
def AP (env:Env)(ap:Ap):Prop:= ∀p∈ap,distinct p.1.1 (evo env p.1.2) p.2.1 (evo env p.2.2)=true
@[simp] def apSlots (ap:Ap):List Nat:=ap.flatMap fun p=>slotsO p.1.2++slotsO p.2.2
def inKs (ks:List (Opd×Nat))(a:Opd)(d:Nat):Bool:=match a with
 | .t k=>ks.any fun|(.t j,e)=>Nat.beq j k&&Nat.beq e d|_=>false
 |_=>false
theorem inKs_spec {ks:List (Opd×Nat)}{a:Opd}{d:Nat}(h:inKs ks a d=true):(a,d)∈ks:=by
 unfold inKs at h
 split at h
 ·obtain⟨x,hx,hk⟩:=List.any_eq_true.1 h
  split at hk
  ·simp only[zba]at hk
   have h1:=Nat.eq_of_beq_eq_true hk.1
   have h2:=Nat.eq_of_beq_eq_true hk.2
   subst h1;subst h2;exact hx
  ·cases hk
 ·cases h
def okPair (ap:Ap)(ki kj:HK):Bool:=
 match ki,kj with
 | .pure,_|_,.pure=>true
 | .rd,.rd| .rd,.ld _ _| .ld _ _,.rd| .ld _ _,.ld _ _=>true
 | .rd,.al _| .ld _ _,.al _| .ldx _,.al _=>true
 | .ldx _,.ld _ _| .ld _ _,.ldx _=>true
 | .al n,.al m=>n !=m
 | .ld n a,.st m b| .st n a,.ld m b| .st n a,.st m b=>inAp ap n a m b
 | .ldk b d,.clk ks| .clk ks,.ldk b d=>inKs ks b d
 | .ldk b d,.st m a| .st m a,.ldk b d=>inAp ap (d+1) b m a
 |_,_=>false
def compat (ap:Ap)(i j:MI):Bool:=indep i j&&okPair ap (hk i.op) (hk j.op)
theorem inAp_spec {ap:Ap}{n m:Nat}{a b:Opd}{env:Env}(hi:inAp ap n a m b=true)(hA:AP env ap){o off o' off':Nat}(ha:evo env a= .ptr o off)(hb:evo env b= .ptr o' off'):
 o≠o'∨off+n≤off'∨off'+m≤off:=by
 have dsp: ∀{n m o off o' off':Nat},distinct n (.ptr o off) m (.ptr o' off')=true→o≠o'∨off+n≤off'∨off'+m≤off:=by
  intro n m o off o' off' hd
  simp only[distinct,Bool.or_eq_true,Bool.not_eq_true',Nat.ble_eq]at hd
  rcases hd with(hd|hd)|hd
  ·left;intro e;subst e;simp at hd
  ·exact .inr (.inl hd)
  ·exact .inr (.inr hd)
 unfold inAp at hi
 split at hi
 ·rename_i k l
  obtain⟨p,hp,hq⟩:=List.any_eq_true.1 hi
  have hd:=hA p hp
  obtain⟨⟨n1,a1⟩,⟨m1,b1⟩⟩:=p
  simp only at hq hd
  split at hq
  ·simp only[Bool.or_eq_true,zba,beq_iff_eq]at hq
   rcases hq with⟨⟨⟨rfl,rfl⟩,rfl⟩,rfl⟩|⟨⟨⟨rfl,rfl⟩,rfl⟩,rfl⟩
   ·rw[ha,hb]at hd;exact dsp hd
   ·rw[ha,hb]at hd
    rcases dsp hd with h|h|h
    ·exact .inl (Ne.symm h)
    ·exact .inr (.inr h)
    ·exact .inr (.inl h)
  ·cases hq
 ·cases hi
def HEq' (h h2:Heap):Prop:= ∀k,hget h k=hget h2 k
structure Eqv (s s2:St):Prop where
 env: ∀k,get s.env k=get s2.env k
 heap:HEq' s.heap s2.heap
section
variable {R:Nat→List AV→List Obj→Option (AV×List Obj)} {env env2:Env} {h h1 h2 h':Heap} {v vi vj:AV} {f g:Heap→Option (AV×Heap)} {ap:Ap}
theorem putC_len {cs vs:List AV}{off:Nat}(hl:off+vs.length≤cs.length):(putC cs off vs).length=cs.length∧∀j,j<cs.length→(putC cs off vs)[j]? =if off≤j∧j<off+vs.length then vs[j-off]? else cs[j]? :=by
 obtain⟨h1,h2,h3⟩:=storeC_get off _ _ _ (storeC_at hl)
 exact⟨h1,h3⟩
theorem putC_far {cs vs:List AV}{off:Nat}(hl:off+vs.length≤cs.length){j:Nat}(hj: ¬(off≤j∧j<off+vs.length)):(putC cs off vs)[j]? =cs[j]? :=by
 obtain⟨h1,h2⟩:=putC_len hl
 rcases Nat.lt_or_ge j cs.length with hh|hh
 ·rw[h2 j hh,if_neg hj]
 ·rw[List.getElem?_eq_none (by omega),List.getElem?_eq_none hh]
theorem putC_comm {cs vs us:List AV}{o1 o2:Nat}(h1:o1+vs.length≤cs.length)(h2:o2+us.length≤cs.length)(hd:o1+vs.length≤o2∨o2+us.length≤o1):putC (putC cs o1 vs) o2 us=putC (putC cs o2 us) o1 vs:=by
 obtain⟨a1,a2⟩:=putC_len h1
 obtain⟨b1,b2⟩:=putC_len h2
 obtain⟨c1,c2⟩:=putC_len (cs:=putC cs o1 vs) (vs:=us) (off:=o2) (by omega)
 obtain⟨d1,d2⟩:=putC_len (cs:=putC cs o2 us) (vs:=vs) (off:=o1) (by omega)
 apply List.ext_getElem?
 intro j
 rcases Nat.lt_or_ge j cs.length with hh|hh
 ·rw[c2 j (by omega),d2 j (by omega),a2 j hh,b2 j hh]
  by_cases p1:o2≤j∧j<o2+us.length
  ·rw[if_pos p1,if_neg (by omega),if_pos p1]
  ·rw[if_neg p1]
   by_cases p2:o1≤j∧j<o1+vs.length
   ·rw[if_pos p2,if_pos p2]
   ·rw[if_neg p2,if_neg p2,if_neg p1]
 ·rw[List.getElem?_eq_none (by omega),List.getElem?_eq_none (by omega)]
theorem cp2 (a:AV):a.cp.cp=a.cp:=by
 cases a with
 |lst g xs=>cases g<;>rfl
 |_=>rfl
theorem set_cp {cs:List AV}{off:Nat}{v:AV}(h:cs[off]? =some v)(j:Nat):((cs.set off v.cp)[j]?).map AV.cp=(cs[j]?).map AV.cp:=by
 rw[List.getElem?_set]
 by_cases e:off=j
 ·subst e
  have hl:off<cs.length:=by
   rcases Nat.lt_or_ge off cs.length with hh|hh
   ·exact hh
   ·rw[List.getElem?_eq_none hh]at h;cases h
  rw[if_pos rfl,if_pos hl,h]
  simp only[Option.map_some,cp2]
 ·rw[if_neg e]
theorem eff_cong {k:HK}(he:EffK k env f h v h1)(hq:HEq' h h'): ∃h1',f h'=some (v,h1')∧HEq' h1 h1':=by
 cases k with
 |pure=>obtain⟨rfl,hk⟩:=he;exact⟨h',hk h',hq⟩
 |rd=>obtain⟨rfl,hk⟩:=he;exact⟨h',hk h' fun o ob ho=>by rw[←hq o];exact ho,hq⟩
 |ld n a=>
  obtain⟨rfl,hk⟩:=he
  refine⟨h',?_,hq⟩
  rcases hk with⟨cs,off,-,hk⟩|⟨o,off,ob,-,hob,hk⟩
  ·exact hk h'
  ·exact hk h' ob (by rw[←hq o];exact hob) fun j _ _=>rfl
 |st n a=>
  obtain⟨o,off,vs,ob,-,hn,hob,hw,hl,rfl,hk⟩:=he
  have hob':hget h' o=some ob:=by rw[←hq o];exact hob
  refine⟨_,hk h' ob hob' hw hl,fun k=> ?_⟩
  rw[hget_hset _ _ _ ob hob,hget_hset _ _ _ ob hob',hq k]
 |al nm=>
  obtain⟨ob,hn,rfl,hk⟩:=he
  refine⟨_,hk h' (by rw[←hq nm];exact hn),fun k=> ?_⟩
  rw[hget_cons,hget_cons,hq k]
 |ldx a=>
  obtain⟨o,off,ob,-,hob,hw,hu,rfl,hk⟩:=he
  have hob':hget h' o=some ob:=by rw[←hq o];exact hob
  refine⟨_,hk h' ob hob' hw hu,fun k=> ?_⟩
  rw[hget_hset _ _ _ ob hob,hget_hset _ _ _ ob hob',hq k]
 |cl=>exact he h' hq
 |clk ks=>exact he.1 h' hq
 |ldk b d=>
  obtain⟨rfl,o,off,ob,-,hob,hk⟩:=he
  exact⟨h',hk h' ob (by rw[←hq o];exact hob) rfl,hq⟩
 |oth=>exact he.elim
theorem eff_swap {ki kj:HK}(hok:okPair ap ki kj=true)(hA:AP env ap)(hi:EffK ki env f h vi h1)(hj:EffK kj env g h1 vj h2):
 ∃h1',g h=some (vj,h1')∧∃h2',f h1'=some (vi,h2')∧HEq' h2' h2:=by
 have iPure:ki= .pure→∃h1',g h=some (vj,h1')∧∃h2',f h1'=some (vi,h2')∧HEq' h2' h2:=by
  intro e;subst e
  obtain⟨rfl,hk⟩:=hi
  obtain⟨h2',e1,e2⟩:=eff_cong hj (fun k=>rfl)
  exact⟨h2',e1,h2',hk _,fun k=>(e2 k).symm⟩
 have jPure:kj= .pure→∃h1',g h=some (vj,h1')∧∃h2',f h1'=some (vi,h2')∧HEq' h2' h2:=by
  intro e;subst e
  obtain⟨rfl,hk⟩:=hj
  obtain⟨h2',e1,e2⟩:=eff_cong hi (fun k=>rfl)
  exact⟨h,hk _,h2',e1,fun k=>(e2 k).symm⟩
 have both:h1=h→h2=h1→∃h1',g h=some (vj,h1')∧∃h2',f h1'=some (vi,h2')∧HEq' h2' h2:=by
  rintro rfl rfl
  obtain⟨a1,a2,a3⟩:=eff_cong hj (fun k=>rfl)
  obtain⟨b1,b2,b3⟩:=eff_cong hi a3
  exact⟨a1,a2,b1,b2,fun k=>(b3 k).symm⟩
 have readAl: ∀nm,kj= .al nm→h1=h→(∀h3,(∀o ob,hget h o=some ob→hget h3 o=some ob)→f h3=some (vi,h3))→∃h1',g h=some (vj,h1')∧∃h2',f h1'=some (vi,h2')∧HEq' h2' h2:=by
  rintro nm rfl rfl hm
  obtain⟨ob,hn,rfl,hk⟩:=hj
  refine⟨_,hk _ hn,_,hm _ (fun o ob' ho=> ?_),fun k=>rfl⟩
  rw[hget_cons,if_neg (fun e=>by subst e;rw[hn]at ho;cases ho)]
  exact ho
 cases ki with
 |pure=>exact iPure rfl
 |oth=>exact hi.elim
 |cl=>
  cases kj with
  |pure=>exact jPure rfl
  |oth=>exact hj.elim
  |_=>cases hok
 |ldk b d=>
  cases kj with
  |pure=>exact jPure rfl
  |oth=>exact hj.elim
  |clk ks=>
   obtain⟨rfl,o,off,ob,hb,hob,hk⟩:=hi
   obtain⟨h3,c1,c2⟩:=hj.1 _ fun _=>rfl
   obtain⟨o2,off2,ob2,ob1,q1,q2,q3,q4⟩:=hj.2 _ (inKs_spec hok)
   rw[hb]at q1
   injection q1 with q1 q1'
   subst q1;subst q1'
   rw[hob]at q2
   injection q2 with q2
   subst q2
   exact⟨h3,c1,h3,hk h3 ob1 (by rw[←c2];exact q3) q4,fun k=>(c2 k).symm⟩
  |st m a=>
   obtain⟨rfl,o,off,ob,hb,hob,hk⟩:=hi
   obtain⟨o2,off2,vs,ob2,ha,hn,hob2,hw,hl,rfl,hk2⟩:=hj
   have hd:=inAp_spec hok hA hb ha
   refine⟨_,hk2 _ ob2 hob2 hw hl,_,?_,fun k=>rfl⟩
   by_cases e:o=o2
   ·subst e
    rw[hob]at hob2
    injection hob2 with hob2
    subst hob2
    refine hk _ _ (by rw[hget_hset _ _ _ ob hob,if_pos rfl]) ?_
    simp only[putC_far (cs:=ob.cells) (vs:=vs) (off:=off2) (by rw[hn];exact hl) (j:=off+d) (by rw[hn];omega)]
   ·exact hk _ ob (by rw[hget_hset _ _ _ ob2 hob2,if_neg e];exact hob) rfl
  |_=>cases hok
 |clk ks=>
  cases kj with
  |pure=>exact jPure rfl
  |oth=>exact hj.elim
  |ldk b d=>
   obtain⟨rfl,o2,off2,ob2,hb,hob2,hk2⟩:=hj
   obtain⟨h3,c1,c2⟩:=hi.1 h fun _=>rfl
   refine⟨h,?_,h3,c1,fun k=>(c2 k).symm⟩
   obtain⟨o,off,ob,ob1,q1,q2,q3,q4⟩:=hi.2 _ (inKs_spec hok)
   rw[hb]at q1
   injection q1 with q1 q1'
   subst q1;subst q1'
   rw[hob2]at q3
   injection q3 with q3
   subst q3
   exact hk2 h ob q2 q4.symm
  |_=>cases hok
 |rd=>
  cases kj with
  |pure=>exact jPure rfl
  |rd=>exact both hi.1 hj.1
  |ld n a=>exact both hi.1 hj.1
  |al nm=>exact readAl nm rfl hi.1 hi.2
  |st n a=>cases hok
  |ldx a=>cases hok
  |oth=>exact hj.elim
  |cl=>cases hok
  |clk _=>cases hok
  |ldk _ _=>cases hok
 |ldx a=>
  obtain⟨o,off,ob,ha,hob,hw,hu,rfl,hk⟩:=hi
  cases kj with
  |pure=>exact jPure rfl
  |rd=>cases hok
  |st _ _=>cases hok
  |ldx _=>cases hok
  |oth=>exact hj.elim
  |cl=>cases hok
  |clk _=>cases hok
  |ldk _ _=>cases hok
  |al nm=>
   obtain⟨ob2,hn,rfl,hk2⟩:=hj
   have hno:nm≠o:=by
    intro e;subst e
    rw[hget_hset _ _ _ ob hob,if_pos rfl]at hn;cases hn
   rw[hget_hset _ _ _ ob hob,if_neg hno]at hn
   have hA1:hget ((nm,ob2)::h) o=some ob:=by rw[hget_cons,if_neg hno];exact hob
   refine⟨_,hk2 _ hn,_,hk _ ob hA1 hw hu,fun k=> ?_⟩
   rw[hget_hset _ _ _ _ hA1,hget_cons,hget_cons,hget_hset _ _ _ ob hob]
   by_cases e1:nm=k
   ·subst e1;rw[if_pos rfl,if_neg hno,if_pos rfl]
   ·rw[if_neg e1,if_neg e1]
  |ld m b=>
   obtain⟨rfl,hk2⟩:=hj
   rcases hk2 with⟨cs,off2,-,hk2⟩|⟨o2,off2,ob2,hb,hob2,hk2⟩
   ·exact⟨h,hk2 h,_,hk h ob hob hw hu,fun k=>rfl⟩
   ·refine⟨h,?_,_,hk h ob hob hw hu,fun k=>rfl⟩
    by_cases e:o2=o
    ·subst e
     rw[hget_hset _ _ _ ob hob,if_pos rfl]at hob2
     injection hob2 with hob2
     subst hob2
     exact hk2 h ob hob fun j _ _=>(set_cp hu j).symm
    ·rw[hget_hset _ _ _ ob hob,if_neg e]at hob2
     exact hk2 h ob2 hob2 fun j _ _=>rfl
 |ld n a=>
  cases kj with
  |pure=>exact jPure rfl
  |rd=>exact both hi.1 hj.1
  |ld n a=>exact both hi.1 hj.1
  |al nm=>
   refine readAl nm rfl hi.1 fun h3 hm=> ?_
   rcases hi.2 with⟨cs,off,-,hk⟩|⟨o,off,ob,-,hob,hk⟩
   ·exact hk h3
   ·exact hk h3 ob (hm _ _ hob) fun j _ _=>rfl
  |oth=>exact hj.elim
  |cl=>cases hok
  |clk _=>cases hok
  |ldk _ _=>cases hok
  |ldx b=>
   obtain⟨rfl,hk⟩:=hi
   rcases hk with⟨cs,off,-,hk⟩|⟨o,off,ob,ha,hob,hk⟩
   ·obtain⟨h2',e1,e2⟩:=eff_cong hj (fun k=>rfl)
    exact⟨h2',e1,h2',hk _,fun k=>(e2 k).symm⟩
   ·obtain⟨o2,off2,ob2,hb,hob2,hw,hu,rfl,hk2⟩:=hj
    refine⟨_,hk2 _ ob2 hob2 hw hu,_,?_,fun k=>rfl⟩
    by_cases e:o=o2
    ·subst e
     rw[hob]at hob2
     injection hob2 with hob2
     subst hob2
     exact hk _ _ (by rw[hget_hset _ _ _ ob hob,if_pos rfl]) fun j _ _=>set_cp hu j
    ·exact hk _ ob (by rw[hget_hset _ _ _ ob2 hob2,if_neg e];exact hob) fun j _ _=>rfl
  |st m b=>
   obtain⟨rfl,hk⟩:=hi
   rcases hk with⟨cs,off,-,hk⟩|⟨o,off,ob,ha,hob,hk⟩
   ·obtain⟨h2',e1,e2⟩:=eff_cong hj (fun k=>rfl)
    exact⟨h2',e1,h2',hk _,fun k=>(e2 k).symm⟩
   ·obtain⟨o2,off2,vs,ob2,hb,hn,hob2,hw,hl,rfl,hk2⟩:=hj
    have hd:=inAp_spec hok hA ha hb
    refine⟨_,hk2 _ ob2 hob2 hw hl,_,?_,fun k=>rfl⟩
    by_cases e:o=o2
    ·subst e
     rw[hob]at hob2
     injection hob2 with hob2
     subst hob2
     refine hk _ _ (by rw[hget_hset _ _ _ ob hob,if_pos rfl]) fun j hj1 hj2=> ?_
     simp only[putC_far (cs:=ob.cells) (vs:=vs) (off:=off2) (by rw[hn];exact hl) (j:=j) (by rw[hn];omega)]
    ·exact hk _ ob (by rw[hget_hset _ _ _ ob2 hob2,if_neg e];exact hob) fun j _ _=>rfl
 |al n=>
  cases kj with
  |pure=>exact jPure rfl
  |al m=>
   have hne:n≠m:=by simpa [okPair]using hok
   obtain⟨ob,hn,rfl,hk⟩:=hi
   obtain⟨ob2,hn2,rfl,hk2⟩:=hj
   rw[hget_cons,if_neg hne]at hn2
   refine⟨_,hk2 _ hn2,_,hk _ (by rw[hget_cons,if_neg (Ne.symm hne)];exact hn),fun k=> ?_⟩
   rw[hget_cons,hget_cons,hget_cons,hget_cons]
   by_cases e1:n=k
   ·subst e1;rw[if_pos rfl,if_neg (Ne.symm hne),if_pos rfl]
   ·rw[if_neg e1,if_neg e1]
  |rd=>cases hok
  |ld _ _=>cases hok
  |st _ _=>cases hok
  |ldx _=>cases hok
  |oth=>exact hj.elim
  |cl=>cases hok
  |clk _=>cases hok
  |ldk _ _=>cases hok
 |st n a=>
  obtain⟨o,off,vs,ob,ha,hn,hob,hw,hl,rfl,hk⟩:=hi
  cases kj with
  |pure=>exact jPure rfl
  |rd=>cases hok
  |al _=>cases hok
  |ldx _=>cases hok
  |oth=>exact hj.elim
  |cl=>cases hok
  |clk _=>cases hok
  |ldk b d=>
   obtain⟨rfl,o2,off2,ob2,hb,hob2,hk2⟩:=hj
   have hd:=inAp_spec hok hA hb ha
   refine⟨h,?_,_,hk h ob hob hw hl,fun k=>rfl⟩
   by_cases e:o2=o
   ·subst e
    rw[hget_hset _ _ _ ob hob,if_pos rfl]at hob2
    injection hob2 with hob2
    subst hob2
    refine hk2 h ob hob ?_
    simp only[putC_far (cs:=ob.cells) (vs:=vs) (off:=off) (by rw[hn];exact hl) (j:=off2+d) (by rw[hn];omega)]
   ·rw[hget_hset _ _ _ ob hob,if_neg e]at hob2
    exact hk2 h ob2 hob2 rfl
  |ld m b=>
   obtain⟨rfl,hk2⟩:=hj
   rcases hk2 with⟨cs,off2,-,hk2⟩|⟨o2,off2,ob2,hb,hob2,hk2⟩
   ·exact⟨h,hk2 h,_,hk h ob hob hw hl,fun k=>rfl⟩
   ·have hd:=inAp_spec hok hA ha hb
    refine⟨h,?_,_,hk h ob hob hw hl,fun k=>rfl⟩
    by_cases e:o2=o
    ·subst e
     rw[hget_hset _ _ _ ob hob,if_pos rfl]at hob2
     injection hob2 with hob2
     subst hob2
     refine hk2 h ob hob fun j hj1 hj2=> ?_
     simp only[putC_far (cs:=ob.cells) (vs:=vs) (off:=off) (by rw[hn];exact hl) (j:=j) (by rw[hn];omega)]
    ·rw[hget_hset _ _ _ ob hob,if_neg e]at hob2
     exact hk2 h ob2 hob2 fun j _ _=>rfl
  |st m b=>
   obtain⟨o2,off2,us,ob2,hb,hm,hob2,hw2,hl2,rfl,hk2⟩:=hj
   have hd:=inAp_spec hok hA ha hb
   by_cases e:o2=o
   ·subst e
    rw[hget_hset _ _ _ ob hob,if_pos rfl]at hob2
    injection hob2 with hob2
    subst hob2
    have hlen:=(putC_len (cs:=ob.cells) (vs:=vs) (off:=off) (by rw[hn];exact hl)).1
    simp only[hlen]at hl2
    have hlen2:=(putC_len (cs:=ob.cells) (vs:=us) (off:=off2) (by rw[hm];exact hl2)).1
    have hA1:hget (hset h o2 {ob with cells:=putC ob.cells off2 us}) o2=some {ob with cells:=putC ob.cells off2 us}:=by rw[hget_hset _ _ _ ob hob,if_pos rfl]
    have hA2:hget (hset h o2 {ob with cells:=putC ob.cells off vs}) o2=some {ob with cells:=putC ob.cells off vs}:=by rw[hget_hset _ _ _ ob hob,if_pos rfl]
    refine⟨_,hk2 h ob hob hw hl2,_,hk _ _ hA1 hw (by simp only[hlen2];exact hl),fun k=> ?_⟩
    rw[hget_hset _ _ _ _ hA1,hget_hset _ _ _ _ hA2,hget_hset _ _ _ ob hob,hget_hset _ _ _ ob hob]
    by_cases e1:k=o2
    ·rw[if_pos e1,if_pos e1,putC_comm (by rw[hm];exact hl2) (by rw[hn];exact hl) (by rw[hn,hm];omega)]
    ·rw[if_neg e1,if_neg e1,if_neg e1,if_neg e1]
   ·have hob3:hget h o2=some ob2:=by rw[hget_hset _ _ _ ob hob,if_neg e]at hob2;exact hob2
    have hA1:hget (hset h o2 {ob2 with cells:=putC ob2.cells off2 us}) o=some ob:=by rw[hget_hset _ _ _ ob2 hob3,if_neg (Ne.symm e)];exact hob
    refine⟨_,hk2 h ob2 hob3 hw2 hl2,_,hk _ ob hA1 hw hl,fun k=> ?_⟩
    rw[hget_hset _ _ _ _ hA1,hget_hset _ _ _ _ hob2,hget_hset _ _ _ ob2 hob3,hget_hset _ _ _ ob hob]
    by_cases e1:k=o
    ·subst e1;rw[if_pos rfl,if_neg (Ne.symm e),if_pos rfl]
    ·rw[if_neg e1,if_neg e1]
theorem wanted_congr {gd:Option (Nat×Bool)}(hs: ∀k b,gd=some (k,b)→get env2 k=get env k):wanted env2 gd=wanted env gd:=by
 cases gd with
 |none=>rfl
 |some p=>obtain⟨k,b⟩:=p;simp only[wanted,hs k b rfl]
theorem okMI_spec {i:MI}(hi:okMI i=true):(hk i.op).isOth=false∧okRt i.op=true:=by
 simp only[okMI,zba,Bool.not_eq_true']at hi
 exact hi.1
theorem okMI_x {i:MI}(hi:okMI i=true):xOf i.op=none∨i.guard=none:=by
 simp only[okMI,zba,Bool.or_eq_true,Option.isNone_iff_eq_none]at hi
 exact hi.2
theorem xOf_reads {i:MI}{k:Nat}(h:xOf i.op=some k):k∈i.reads:=by
 have:k∈(opds i.op).flatMap slotsO:=by
  cases hop:i.op with
  |mv x=>rw[hop]at h;cases x<;>simp_all
  |app e ag b a=>rw[hop]at h;cases b<;>simp_all
  |st sz a v=>rw[hop]at h;cases v<;>simp_all
  |_=>rw[hop]at h;cases h
 exact List.mem_append_left _ this
theorem get_dropX (x:Option Nat)(env:Env)(k:Nat):get (dropX x env) k=if x=some k then(get env k).cp else get env k:=by
 cases x with
 |none=>rfl
 |some j=>
  simp only[dropX]
  rw[get_cons]
  simp only[zsi]
  by_cases e:j=k
  ·subst e;rfl
  ·rw[if_neg e,if_neg e]
theorem iv_eff {i:MI}(hi:okMI i=true)(ha: ∀k∈i.reads,get env2 k=get env k)(ho:iv R i env h=some (v,h1)): ∃k,(k= .pure∨k=hk i.op)∧EffK k env (iv R i env2) h v h1:=by
 obtain⟨q1,q2⟩:=okMI_spec hi
 have hw:wanted env2 i.guard=wanted env i.guard:=wanted_congr fun k b hg=>ha k (by simp[hg])
 have hx: ∀x∈opds i.op,evo env2 x=evo env x:=fun x hx=>evo_congr fun k hk=>ha k (by simp only[MI.reads];exact List.mem_append_left _ (List.mem_flatMap.2 ⟨x,hx,hk⟩))
 unfold iv at ho ⊢
 rw[hw]
 cases hwt:wanted env i.guard with
 |none=>rw[hwt]at ho;cases ho
 |some b=>
  rw[hwt]at ho
  cases b with
  |true=>
   simp only at ho ⊢
   obtain⟨⟨u,e,h3⟩,ho2,hp⟩:=Option.map_eq_some_iff.1 ho
   simp only[zpi]at hp
   obtain⟨rfl,rfl⟩:=hp
   exact⟨_,.inr rfl,(op_eff q1 q2 hx ho2).2⟩
  |false=>
   simp only[zsi,zpi]at ho
   obtain⟨rfl,rfl⟩:=ho
   exact⟨.pure,.inl rfl,rfl,fun h2=>rfl⟩
theorem step_iv {i:MI}(hi:okMI i=true){s s1:St}:stepI R i s=some s1↔∃v h1,iv R i s.env s.heap=some (v,h1)∧s1=⟨putD i.dst v (dropX (xOf i.op) s.env),h1⟩:=by
 obtain⟨q1,q2⟩:=okMI_spec hi
 have q3:=okMI_x hi
 unfold stepI iv
 cases hwt:wanted s.env i.guard with
 |none=>
  constructor
  ·intro hs;cases hs
  ·rintro⟨u,h3,ho,-⟩;cases ho
 |some b=>
  cases b with
  |true=>
   simp only
   constructor
   ·intro hs
    obtain⟨⟨u,e,h3⟩,ho,hp⟩:=Option.map_eq_some_iff.1 hs
    have:=(op_eff q1 q2 (fun x _=>rfl) ho).1
    subst this
    exact⟨u,h3,by rw[ho];rfl,hp.symm⟩
   ·rintro⟨u,h3,ho,rfl⟩
    obtain⟨⟨u',e,h4⟩,ho2,hp⟩:=Option.map_eq_some_iff.1 ho
    simp only[zpi]at hp
    obtain⟨rfl,rfl⟩:=hp
    have:=(op_eff q1 q2 (fun x _=>rfl) ho2).1
    subst this
    rw[ho2];rfl
  |false=>
   have q4:xOf i.op=none:=by
    rcases q3 with h|h
    ·exact h
    ·rw[h]at hwt;simp[wanted]at hwt
   rw[q4]
   simp only[dropX]
   constructor
   ·intro hs;injection hs with hs;exact⟨_,_,rfl,hs.symm⟩
   ·rintro⟨u,h3,ho,rfl⟩
    injection ho with ho
    simp only[zpi]at ho
    obtain⟨rfl,rfl⟩:=ho
    rfl
theorem get_putD (d:Option Nat)(v:AV)(env:Env)(k:Nat):get (putD d v env) k=if d=some k then v else get env k:=by
 cases d with
 |none=>rfl
 |some j=>
  simp only[putD]
  rw[get_cons]
  simp only[zsi]
theorem item_cong {i:MI}(hi:okMI i=true){s s1 s':St}(hs:stepI R i s=some s1)(hq:Eqv s s'): ∃s1',stepI R i s'=some s1'∧Eqv s1 s1':=by
 obtain⟨v,h1,ho,rfl⟩:=(step_iv hi).1 hs
 obtain⟨k,-,he⟩:=iv_eff (env2:=s'.env) hi (fun k _=>(hq.env k).symm) ho
 obtain⟨h1',e1,e2⟩:=eff_cong he hq.heap
 exact⟨_,(step_iv hi).2 ⟨v,h1',e1,rfl⟩,fun k=>by simp only[get_putD,get_dropX,hq.env k],e2⟩
theorem run_cong (l:List MI):(∀i∈l,okMI i=true)→∀{s s1 s':St},runOps R l s=some s1→Eqv s s'→∃s1',runOps R l s'=some s1'∧Eqv s1 s1':=by
 induction l with
 |nil=>intro _ s s1 s' hs hq;simp only[runOps,zsi]at hs;subst hs;exact⟨s',rfl,hq⟩
 |cons i l ih=>
  intro hi s s1 s' hs hq
  obtain⟨t,ht,hs⟩:=zbi hs
  obtain⟨t',ht',hq'⟩:=item_cong (hi i List.mem_cons_self) ht hq
  obtain⟨s1',h1,h2⟩:=ih (fun j hj=>hi j (List.mem_cons_of_mem _ hj)) hs hq'
  exact⟨s1',by simp only[runOps,ht',zbs,h1],h2⟩
theorem item_swap {i j:MI}(hi:okMI i=true)(hj:okMI j=true)(hc:compat ap i j=true){s s1 s2:St}(hA:AP s.env ap)(h1:stepI R i s=some s1)(h2:stepI R j s1=some s2):
 ∃s1' s2',stepI R j s=some s1'∧stepI R i s1'=some s2'∧Eqv s2' s2:=by
 simp only[compat,zba]at hc
 obtain⟨hind,hok⟩:=hc
 simp only[indep,zba]at hind
 obtain⟨d1,d2⟩:=hind
 obtain⟨vi,k1,oi,rfl⟩:=(step_iv hi).1 h1
 obtain⟨vj,k2,oj,rfl⟩:=(step_iv hj).1 h2
 simp only at oj
 have o1: ∀k∈i.outs,k∉j.reads∧j.dst≠some k:=by
  intro k hk
  have:=List.all_eq_true.1 d1 k hk
  simp only[zba,Bool.not_eq_true',List.contains_eq_mem,decide_eq_false_iff_not,bne_iff_ne]at this
  exact this
 have o2: ∀k∈j.outs,k∉i.reads:=by
  intro k hk
  have:=List.all_eq_true.1 d2 k hk
  simp only[Bool.not_eq_true',List.contains_eq_mem,decide_eq_false_iff_not]at this
  exact this
 have mdi: ∀{i:MI} {k:Nat},i.dst=some k→k∈i.outs:=fun{i k} e=>by rw[MI.outs,e];simp
 have mxi: ∀{i:MI} {k:Nat},xOf i.op=some k→k∈i.outs:=fun{i k} e=>by rw[MI.outs,e];simp
 have r1: ∀k∈j.reads,get (putD i.dst vi (dropX (xOf i.op) s.env)) k=get s.env k:=by
  intro k hk
  rw[get_putD,if_neg (fun e=>(o1 k (mdi e)).1 hk),get_dropX,if_neg (fun e=>(o1 k (mxi e)).1 hk)]
 have r2: ∀u,∀k∈i.reads,get (putD j.dst u (dropX (xOf j.op) s.env)) k=get s.env k:=by
  intro u k hk
  rw[get_putD,if_neg (fun e=>o2 k (mdi e) hk),get_dropX,if_neg (fun e=>o2 k (mxi e) hk)]
 have r3: ∀d,i.dst=some d→j.dst≠some d:=fun d e=>(o1 d (mdi e)).2
 have r4: ∀d,i.dst=some d→xOf j.op≠some d:=fun d e e2=>(o1 d (mdi e)).1 (xOf_reads e2)
 have r5: ∀d,xOf i.op=some d→j.dst≠some d∧xOf j.op≠some d:=fun d e=>⟨(o1 d (mxi e)).2,fun e2=>(o1 d (mxi e)).1 (xOf_reads e2)⟩
 obtain⟨ki,hki,ei⟩:=iv_eff (env2:=putD j.dst vj (dropX (xOf j.op) s.env)) hi (r2 vj) oi
 obtain⟨kj,hkj,ej⟩:=iv_eff (env2:=s.env) hj (fun k hk=>(r1 k hk).symm) oj
 have ej':EffK kj s.env (iv R j s.env) k1 vj k2:=by
  have hev: ∀x∈opds j.op,evo (putD i.dst vi (dropX (xOf i.op) s.env)) x=evo s.env x:=fun x hx=>evo_congr fun k hk=>r1 k (by simp only[MI.reads];exact List.mem_append_left _ (List.mem_flatMap.2 ⟨x,hx,hk⟩))
  rcases hkj with rfl|rfl
  ·exact ej
  ·cases hop:j.op with
   |ld sz ag a=>
    rw[hop]at ej hev
    have:=hev a (by simp)
    simp only[hk,EffK,this]at ej ⊢
    exact ej
   |st sz a x=>
    rw[hop]at ej hev
    have:=hev a (by simp)
    simp only[hk,EffK,this]at ej ⊢
    exact ej
   |ldx a=>
    rw[hop]at ej hev
    have:=hev a (by simp)
    simp only[hk,EffK,this]at ej ⊢
    exact ej
   |call f m as=>rw[hop]at ej;cases m<;>exact ej
   |callv f m as=>rw[hop]at ej;cases m<;>exact ej
   |callk f b as ks=>
    rw[hop]at ej hev
    refine⟨ej.1,fun a ha=> ?_⟩
    obtain⟨o,off,ob,ob1,q1,q2⟩:=ej.2 a ha
    exact⟨o,off,ob,ob1,by rw[←hev a.1 (by simp only[opds,List.mem_append,List.mem_map];exact .inr ⟨a,ha,rfl⟩)];exact q1,q2⟩
   |ldk a b d=>
    rw[hop]at ej hev
    have:=hev b (by simp)
    simp only[hk,EffK,this]at ej ⊢
    exact ej
   |_=>rw[hop]at ej;exact ej
 have hok':okPair ap ki kj=true:=by
  rcases hki with rfl|rfl<;>rcases hkj with rfl|rfl
  ·rfl
  ·rfl
  ·cases hk i.op<;>rfl
  ·exact hok
 obtain⟨h1',a1,h2',a2,a3⟩:=eff_swap hok' hA ei ej'
 refine⟨_,_,(step_iv hj).2 ⟨vj,h1',a1,rfl⟩,(step_iv hi).2 ⟨vi,h2',a2,rfl⟩,fun k=> ?_,a3⟩
 simp only[get_putD,get_dropX]
 by_cases e1:i.dst=some k
 ·rw[if_pos e1,if_neg (r3 k e1),if_neg (r4 k e1),if_pos e1]
 ·rw[if_neg e1]
  by_cases e2:xOf i.op=some k
  ·rw[if_pos e2,if_neg (r5 k e2).1,if_neg (r5 k e2).2,if_neg (r5 k e2).1,if_neg (r5 k e2).2,if_neg e1,if_pos e2]
  ·rw[if_neg e2,if_neg e1,if_neg e2]
theorem AP_same {i:MI}(hd: ∀k∈i.outs,k∉apSlots ap)(v:AV){p:(Nat×Opd)×(Nat×Opd)}(hp:p∈ap)(x:Opd)(hx:x=p.1.2∨x=p.2.2):evo (putD i.dst v (dropX (xOf i.op) env)) x=evo env x:=by
 refine evo_congr fun k hk=> ?_
 have hn:k∈apSlots ap:=by
  refine List.mem_flatMap.2 ⟨p,hp,?_⟩
  rcases hx with rfl|rfl
  ·exact List.mem_append_left _ hk
  ·exact List.mem_append_right _ hk
 rw[get_putD,if_neg (fun e=>hd k (by rw[MI.outs,e];simp) hn),get_dropX,if_neg (fun e=>hd k (by rw[MI.outs,e];simp) hn)]
theorem AP_put {i:MI}(hA:AP env ap)(hd: ∀k∈i.outs,k∉apSlots ap)(v:AV):AP (putD i.dst v (dropX (xOf i.op) env)) ap:=by
 intro p hp
 rw[AP_same hd v hp _ (.inl rfl),AP_same hd v hp _ (.inr rfl)]
 exact hA p hp
theorem front (j:MI)(l2:List MI)(hj:okMI j=true)(h2: ∀i∈l2,okMI i=true): ∀(l1:List MI) (s sf:St),(∀i∈l1,okMI i=true∧compat ap i j=true∧∀k∈i.outs,k∉apSlots ap)→AP s.env ap→
 runOps R (l1++j::l2) s=some sf→∃s' sf',stepI R j s=some s'∧runOps R (l1++l2) s'=some sf'∧Eqv sf' sf:=by
 intro l1
 induction l1 with
 |nil=>
  intro s sf _ _ hr
  obtain⟨t,ht,hs⟩:=zbi hr
  exact⟨t,sf,ht,hs,fun _=>rfl,fun _=>rfl⟩
 |cons i l1 ih=>
  intro s sf hl hA hr
  obtain⟨s1,ht,hs⟩:=zbi hr
  obtain⟨c1,c2,c3⟩:=hl i List.mem_cons_self
  have hA1:AP s1.env ap:=by
   obtain⟨v,h1,-,rfl⟩:=(step_iv c1).1 ht
   exact AP_put hA c3 v
  obtain⟨s1',sf1,a1,a2,a3⟩:=ih s1 sf (fun k hk=>hl k (List.mem_cons_of_mem _ hk)) hA1 hs
  obtain⟨t1,t2,b1,b2,b3⟩:=item_swap c1 hj c2 hA ht a1
  obtain⟨sf2,e1,e2⟩:=run_cong (l1++l2) (fun k hk=>(List.mem_append.1 hk).elim (fun h=>(hl k (List.mem_cons_of_mem _ h)).1) (h2 k)) a2 ⟨fun k=>(b3.env k).symm,fun k=>(b3.heap k).symm⟩
  refine⟨t1,sf2,b1,by simp only[List.cons_append,runOps,b2,zbs,e1],fun k=> ?_,fun k=> ?_⟩
  ·rw[←e2.env k,a3.env k]
  ·rw[←e2.heap k,a3.heap k]
end
section
variable {P:Program} {Γ:Glob} {N0:Base Γ} {w w':World} {F X:Cell→Prop} {β:Nat→Cell} {Ow:Key→Cell→Prop} {env env':Env} {h h':Heap} {v:Value} {a a':AV} {act:Act} {R:CallF} {o:Oper} {sl:Nat→Value}
def cellsOf (h:Heap)(β:Nat→Cell)(ns:List Nat)(c:Cell):Prop:= ∃nm∈ns,∃ob,hget h nm=some ob∧∃j,j<ob.cells.length∧c=place β nm j
theorem dcell_notOwn {c:AV}(h:c.dcell=true):c.notOwn=true∧c.isCell=true:=by
 cases c with
 |lst g xs=>cases g<;>first|exact⟨rfl,rfl⟩|cases h
 |_=>first|exact⟨rfl,rfl⟩|cases h
theorem tcell_rel (g:GR N0 w F β Ow sl env h v a){β':Nat→Cell}{Fc:Cell→Prop}(hF: ∀c,Fc c→XX F Ow c){u:Value}{x b:AV}(hx:VRel w (XX F Ow) β u x)(ht:tcell h x=some b)
 (hS: ∀c,cellsOf h β (arrOf x) c→¬Fc c):VRel w Fc β' u b∧b.dcell=true:=by
 have kp:=(Kp.refl N0 w (XX F Ow)).shrink hF
 cases x with
 |bool c=>simp only[tcell,zsi]at ht;subst ht;exact⟨(hx.mono kp).data rfl,rfl⟩
 |int k n=>simp only[tcell,zsi]at ht;subst ht;exact⟨(hx.mono kp).data rfl,rfl⟩
 |str s=>simp only[tcell,zsi]at ht;subst ht;exact⟨(hx.mono kp).data rfl,rfl⟩
 |lst gr xs=>simp only[tcell,zsi]at ht;subst ht;exact⟨((hx.mono kp).no).data rfl,rfl⟩
 |arr nm off len e ag=>
  simp only[tcell]at ht
  obtain⟨ob,hob,ht⟩:=zbi ht
  obtain⟨xs,hxs,rfl⟩:=Option.map_eq_some_iff.1 ht
  refine⟨?_,rfl⟩
  obtain⟨A,cap,rfl,hc,hA⟩:=hx.toArr
  simp only[elems]at hxs
  split at hxs
  ·rename_i hle
   split at hxs
   ·rename_i hall
    have hds:(((ob.cells.drop off).take (len*e)).map AV.dt).length=len*e:=by simp;omega
    have hall': ∀c∈((ob.cells.drop off).take (len*e)).map AV.dt,c.dcell=true:=fun c hc=>List.all_eq_true.1 hall c hc
    have key:xs.length=len∧xs.flatMap AV.cells=((ob.cells.drop off).take (len*e)).map AV.dt∧∀x∈xs,x.delem=true∧x.cells.length=e:=by
     split at hxs
     ·injection hxs with hxs;subst hxs
      obtain⟨k1,k2⟩:=chunk_flat e len _ hds
      refine⟨k1,k2,?_⟩
      have gen: ∀(n:Nat) (cs:List AV),cs.length=n*e→(∀c∈cs,c.dcell=true)→∀x∈chunk e n cs,x.delem=true∧x.cells.length=e:=by
       intro n
       induction n with
       |zero=>intro cs _ _ x hx;cases hx
       |succ n ih=>
        intro cs hl hd x hx
        rw[Nat.succ_mul]at hl
        simp only[chunk,List.mem_cons]at hx
        rcases hx with rfl|hx
        ·refine⟨?_,by simp;omega⟩
         simp only[AV.delem,List.all_eq_true]
         exact fun c hc=>hd c (List.mem_of_mem_take hc)
        ·exact ih (cs.drop e) (by simp;omega) (fun c hc=>hd c (List.mem_of_mem_drop hc)) x hx
      exact gen len _ hds hall'
     ·split at hxs
      ·rename_i h1
       injection hxs with hxs
       subst h1
       subst hxs
       refine⟨by simpa using hds,?_,fun x hx=> ?_⟩
       ·have: ∀l:List AV,(∀c∈l,c.dcell=true)→l.flatMap AV.cells=l:=by
         intro l
         induction l with
         |nil=>intro _;rfl
         |cons c r ih=>
          intro hd
          rw[List.flatMap_cons,ih fun c hc=>hd c (List.mem_cons_of_mem _ hc)]
          have:=hd c List.mem_cons_self
          cases c<;>first|rfl|cases this
        exact this _ hall'
       ·have:=hall' x hx
        cases x<;>first|exact⟨this,rfl⟩|cases this
      ·cases hxs
    obtain⟨k1,k2,k3⟩:=key
    rcases Nat.eq_zero_or_pos len with h0|h0
    ·have:xs=[]:=List.eq_nil_of_length_eq_zero (by omega)
     subst this;subst h0
     exact .lst0 _ _ _ (by simp)
    ·have hA:=hA h0
     subst hA
     have qo:=(g.obj nm ob hob).cells
     let val:Nat→Value:=fun j=>(cat w ((β nm).1,(β nm).2+off+j)).getD undef
     have hval: ∀j,j<len*e→∃(hj:off+j<ob.cells.length),cat w ((β nm).1,(β nm).2+off+j)=some (val j)∧VRel w (XX F Ow) β (val j) ob.cells[off+j]:=by
      intro j hj
      have hj':off+j<ob.cells.length:=by omega
      obtain⟨-,u,c1,c2⟩:=qo (off+j) hj'
      rw[←Nat.add_assoc]at c1
      have e1:val j=u:=by simp only[val,c1];rfl
      exact⟨hj',by rw[e1];exact c1,by rw[e1];exact c2⟩
     have:=VRel.lst (w:=w) (X:=Fc) (β:=β') (β nm).1 ((β nm).2+off) e cap .no xs val (by omega) (by simp) k3
      (fun j hj=>by
        rw[k1]at hj
        obtain⟨hj',c1,-⟩:=hval j hj
        refine⟨c1,hS _ ⟨nm,by simp,ob,hob,off+j,hj',?_⟩⟩
        simp only[place,Nat.add_assoc])
      (fun j hj=>by
        have hj2:j<len*e:=by rw[k2,hds]at hj;exact hj
        obtain⟨hj',-,c2⟩:=hval j hj2
        have eq:(xs.flatMap AV.cells)[j]=(ob.cells[off+j]).dt:=by
         have:(xs.flatMap AV.cells)[j]? =some (ob.cells[off+j]).dt:=by
          rw[k2,List.getElem?_map,List.getElem?_take,if_pos hj2,List.getElem?_drop,zge hj'];rfl
         rw[zge hj]at this
         injection this
        rw[eq]
        refine((c2.dt).mono kp).data ?_
        rw[←eq]
        simp only[k2]
        exact hall' _ (List.getElem_mem _))
     rw[k1]at this
     exact this
   ·cases hxs
  ·cases hxs
 |_=>cases ht
theorem tree_rel (g:GR N0 w F β Ow sl env h v a){β':Nat→Cell}{Fc:Cell→Prop}(hF: ∀c,Fc c→XX F Ow c){u:Value}{x b:AV}(hx:VRel w (XX F Ow) β u x)(ht:tree h x=some b)
 (hS: ∀c,cellsOf h β (arrs x) c→¬Fc c):VRel w Fc β' u b∧b.notOwn=true∧refs b=[]:=by
 cases x with
 |agg cs=>
  simp only[tree]at ht
  obtain⟨bs,hbs,rfl⟩:=Option.map_eq_some_iff.1 ht
  cases u with
  |agg us=>
   cases hx with
   |agg _ _ hl hf hv=>
    have key: ∀(as bs:List AV),tcells h as=some bs→as.length=bs.length∧∀i (h1:i<as.length) (h2:i<bs.length),tcell h as[i]=some bs[i]:=by
     intro as
     induction as with
     |nil=>intro bs hb;simp only[tcells,zsi]at hb;subst hb;exact⟨rfl,fun i h1=>absurd h1 (by simp)⟩
     |cons x r ih=>
      intro bs hb
      simp only[tcells]at hb
      obtain⟨y,hy,hb⟩:=zbi hb
      obtain⟨s,hs,hb⟩:=zbi hb
      injection hb with hb;subst hb
      obtain⟨i1,i2⟩:=ih s hs
      refine⟨by simp[i1],fun i h1 h2=> ?_⟩
      cases i with
      |zero=>exact hy
      |succ i=>exact i2 i (by simpa using h1) (by simpa using h2)
    obtain⟨l1,l2⟩:=key cs bs hbs
    have each: ∀i (h1:i<us.size) (h2:i<bs.length),VRel w Fc β' us[i] bs[i]∧bs[i].dcell=true:=by
     intro i h1 h2
     have h3:i<cs.length:=by omega
     refine tcell_rel g hF (hv i h1) (l2 i h3 h2) fun c hc=>hS c ?_
     obtain⟨nm,hn,rest⟩:=hc
     exact⟨nm,List.mem_flatMap.2 ⟨_,List.getElem_mem h3,hn⟩,rest⟩
    refine⟨.agg us bs (by omega) (fun c hc=> ?_) (fun i hi=>(each i hi (by omega)).1),rfl,?_⟩
    ·obtain⟨i,hi,rfl⟩:=List.getElem_of_mem hc
     have:=(each i (by omega) hi).2
     exact⟨isCell_flat1 (dcell_notOwn this).2,(dcell_notOwn this).1⟩
    ·simp only[refs,refs3,List.flatMap_eq_nil_iff]
     intro c hc
     obtain⟨i,hi,rfl⟩:=List.getElem_of_mem hc
     exact dcell_refs2 (each i (by omega) hi).2
  |_=>cases hx
 |tup vs=>cases ht
 |_=>
  obtain⟨q1,q2⟩:=tcell_rel (β':=β') g hF hx (by simpa only[tree]using ht) (by simpa only[arrs]using hS)
  refine⟨q1,(dcell_notOwn q2).1,?_⟩
  have:=dcell_refs2 q2
  cases b<;>first|exact this|cases q2
theorem snd_frz (g:GR N0 w F β Ow (slots act) env h v a){x:Operand}{x':Opd}(h1:okT x x'=true)(hop:o.op= .move x∨o.op= .assign x)
 (ho:opv R env h (.frz x')=some (a',env',h')):Out P N0 w F β h (XX F Ow) act env' h' ((execOp act.eval o).run P w) a':=by
 obtain⟨q1,-,-⟩:=g.opT h1
 simp only[opv]at ho
 obtain⟨b,hb,ho⟩:=Option.map_eq_some_iff.1 ho
 simp only[zpi]at ho
 obtain⟨rfl,rfl,rfl⟩:=ho
 have g2:=(g.noval undef).freeze (arrs (evo env x'))
 have hsub: ∀c,XX F (dropK (dropK Ow (· = .val)) fun k=> ∃n∈arrs (evo env x'),k= .obj n) c→¬cellsOf h β (arrs (evo env x')) c:=by
  rintro c (hc|⟨k,hk1,hk2,hk3⟩)
  ·rintro⟨nm,hn,ob,hob,j,hj,rfl⟩
   cases hw:ob.wr with
   |true=>exact g.inv.apartF _ _ ((g.obj nm ob hob).wr hw j hj) hc
   |false=>exact(g.obj nm ob hob).rd hw j hj (.inl hc)
  ·rintro⟨nm,hn,ob,hob,j,hj,rfl⟩
   cases hw:ob.wr with
   |true=>
    have:=g.inv.apart _ _ _ hk3 ((g.obj nm ob hob).wr hw j hj)
    exact hk1 ⟨nm,hn,this⟩
   |false=>exact(g.obj nm ob hob).rd hw j hj (.inr ⟨k,hk3⟩)
 obtain⟨t1,t2,t3⟩:=tree_rel (β':=β) g (Fc:=XX F (dropK (dropK Ow (· = .val)) fun k=> ∃n∈arrs (evo env x'),k= .obj n)) (fun c hc=>XX_drop (XX_drop hc)) q1 hb fun c hc hx=>hsub c hx hc
 have hr:(execOp act.eval o).run P w= .ok (.value (act.eval x)) w:=by
  rcases hop with hop|hop<;>simp only[execOp,hop,Sem.run_pure]
 exact⟨_,w,_,_,.inl hr,g2.pend t1 (.of t2) (fun r hr=>by rw[t3]at hr;cases hr),(Kp.refl N0 w _).shrink fun _ hc=>XX_drop (XX_drop (XX_drop hc)),FF.refl _ _,fun _ _ _=>rfl⟩
end
def isStrT (P:Program)(t:TypeId):Bool:=match P.underlying t with|some .string=>true|_=>false
def isBoolT (P:Program)(t:TypeId):Bool:=match P.underlying t with|some .bool=>true|_=>false
def isPtrT (P:Program)(t:TypeId):Bool:=match P.underlying t with|some (.pointer _)=>true|_=>false
def isU8T (P:Program)(t:TypeId):Bool:=match P.underlying t with|some (.int .u8)=>true|_=>false
def isIntT (P:Program)(k:IntKind)(t:TypeId):Bool:=match P.underlying t with|some (.int j)=>j==k|_=>false
def sliceT (P:Program)(t:TypeId):Option TypeId:=match P.underlying t with|some (.slice e)=>some e|_=>none
def arrT (P:Program)(t:TypeId):Option (Nat×TypeId):=match P.underlying t with|some (.array n e)=>some (n,e)|_=>none
def elemB (P:Program)(t:TypeId)(e:Nat):Option Value:=
 (sliceT P t).bind fun et=>(zeroT P et).bind fun z=>(bytesT P et).bind fun b=>if szT P et=some e∧z.cells.size=e∧b≤4096 then some z else none
def okOp (P:Program)(o:Oper)(m:MOp):Bool:=
 match m with
 | .mv y=>match o.op with| .move x=>okX x y| .assign x=>okX x y|_=>false
 | .pick c a b=>match o.op with| .pick x y z=>okT x c&&okT y a&&okT z b|_=>false
 | .new _ zero=>match o.op with| .alloc t=>(zeroT P t).any fun z=>okConsts z.cells.toList zero|_=>false
 | .box _ y=>match o.op with| .box _ x=>okT x y|_=>false
 | .boxE y=>match o.op with| .box _ x=>okT x y|_=>false
 | .build zero qs=>match o.op with| .build t ps=>(zeroT P t).any fun z=>(placeT P t).any fun pl=>okConsts z.cells.toList zero&&okParts pl ps.toList qs|_=>false
 | .lit e ag zero len qs=>match o.op with| .buildSlice t n ps=>n==len&&(elemB P t e).any fun z=>okConsts z.cells.toList zero&&(ag||e==1)&&decide (len*e≤16777216)&&okElemParts ps.toList qs| .makeSlice t (.const (.int _ a)) (.const (.int _ b))=>a==(len:Int)&&(b==(len:Int)&&(qs.isEmpty&&(decide (len≤4096)&&(elemB P t e).any fun z=>okConsts z.cells.toList zero&&(ag||e==1))))|_=>false
 | .litF e ag zero len qs=>match o.op with| .buildSlice t n ps=>n==len&&(elemB P t e).any fun z=>okConsts z.cells.toList zero&&(ag||e==1)&&decide (len*e≤16777216)&&okElemParts ps.toList qs|_=>false
 | .litA _ e ag zero len qs=>match o.op with| .buildSlice t n ps=>n==len&&(elemB P t e).any fun z=>okConsts z.cells.toList zero&&(ag||e==1)&&decide (len*e≤16777216)&&okElemParts ps.toList qs|_=>false
 | .ldk y _ _=>match o.op with| .load t x=>okT x y&&szT P t==some 1&&aggT P t==some false|_=>false
 | .ld sz ag y=>match o.op with| .load t x=>okT x y&&szT P t==some sz&&aggT P t==some ag|_=>false
 | .ldd sz ag y=>match o.op with| .load t x=>okT x y&&szT P t==some sz&&aggT P t==some ag|_=>false
 | .ldx y=>match o.op with| .load t x=>okT x y&&aggT P t==some false|_=>false
 | .st sz y z=>match o.op with| .store t x u=>okT x y&&okX u z&&szT P t==some sz|_=>false
 | .nilc y=>match o.op with| .nilCheck x=>okT x y|_=>false
 | .bin b y z=>match o.op with| .binOp b' _ x u _=>b'==b&&okT x y&&okT u z|_=>false
 | .eqA neg ks y z=>match o.op with| .binOp b' t x u _=>b'==negOp neg&&okT x y&&okT u z&&(flatT P 64 t==some ks)&&aggT P t==some true&& !(P.eqGuardType P.depth t)|_=>false
 | .eqB neg y z=>match o.op with| .binOp b' t x u _=>b'==negOp neg&&okT x y&&okT u z&&isBoolT P t|_=>false
 | .eqP neg y z=>match o.op with| .binOp b' t x u _=>b'==negOp neg&&okT x y&&okT u z&&isPtrT P t|_=>false
 | .un b y=>match o.op with| .unOp b' _ x=>b'==b&&okT x y|_=>false
 | .toInt k y=>match o.op with| .convert s d x=>okT x y&&(P.underlying s).isSome&&isIntT P k d|_=>false
 | .same y=>match o.op with| .convert s d x=>okT x y&&(P.underlying s).isSome&&isStrT P d|_=>false
 | .s2b y=>match o.op with| .convert s d x=>okT x y&&(P.underlying s).isSome&&(sliceT P d).any fun e=>isU8T P e|_=>false
 | .b2s y=>match o.op with| .convert s d x=>okT x y&&isStrT P d&&(sliceT P s).any fun e=>isU8T P e|_=>false
 | .mk f ys=>match o.op with| .makeFunc (.func f') fs xs=>f'==f&&okTs xs.toList ys&&fs.toList.isEmpty|_=>false
 | .mkB f ys=>match o.op with| .makeFunc (.func f') fs xs=>f'==f&&okTs fs.toList ys&&xs.toList.isEmpty|_=>false
 | .makeL e y=>match o.op with| .makeSlice t (.const (.int _ n)) x=>n==0&&okT x y&&(elemB P t e).isSome|_=>false
 | .makeA _ e ag zero y=>match o.op with| .makeSlice t x u=>okT x y&&okT u y&&(elemB P t e).any fun z=>okConsts z.cells.toList zero|_=>false
 | .slc e y lo hi mx=>match o.op with| .slice t x l h u=>okX x y&&okO l lo&&okO h hi&&okO u mx&&(!u.isSome||h.isSome)&&(sliceT P t).any fun et=>szT P et==some e|_=>false
 | .slcS y lo hi=>match o.op with| .slice t x l h none=>okT x y&&okO l lo&&okO h hi&&isStrT P t|_=>false
 | .slcA n e ag y lo hi=>match o.op with| .slice t x l h none=>okT x y&&okO l lo&&okO h hi&&(arrT P t).any fun q=>q.1==n&&szT P q.2==some e|_=>false
 | .fa off y=>match o.op with| .fieldAddr s x f=>okT x y&&(fieldT P s f).any fun fd=>fd.offset==off&&(szT P fd.type).any fun sz=>sz !=0|_=>false
 | .fld off sz ag y=>match o.op with| .field s x f=>okT x y&&(fieldT P s f).any fun fd=>fd.offset==off&&szT P fd.type==some sz&&aggT P fd.type==some ag|_=>false
 | .ia e y z=>match o.op with| .indexAddr t x u=>okT x y&&okT u z&&(sliceT P t).any fun et=>szT P et==some e|_=>false
 | .iaA n e y z=>match o.op with| .indexAddr t x u=>okT x y&&okT u z&&(arrT P t).any fun q=>q.1==n&&szT P q.2==some e|_=>false
 | .ixS y z=>match o.op with| .index t x u=>okT x y&&okT u z&&isStrT P t|_=>false
 | .ixA n e ag y z=>match o.op with| .index t x u=>okT x y&&okT u z&&(arrT P t).any fun q=>q.1==n&&szT P q.2==some e&&aggT P q.2==some ag|_=>false
 | .len st y=>match o.op with| .call {callee:=.builtin .len,args:=as,argTypes:=ts}=>(match as.toList,ts.toList with| [x],[t]=>okT x y&&(if st then isStrT P t else(sliceT P t).isSome)|_,_=>false)|_=>false
 | .lenA n=>match o.op with| .call {callee:=.builtin .len,args:=as,argTypes:=ts}=>(match as.toList,ts.toList with| [_],[t]=>(match P.underlying t with|some (.array n' _)=>n'==n|some (.pointer p)=>(arrT P p).any fun q=>q.1==n|_=>false)|_,_=>false)|_=>false
 | .mm mx y ys=>match o.op with
   | .call {callee:=.builtin .max,args:=as,argTypes:=_}=>mx&&(match as.toList with|x::xs=>okT x y&&okTs xs ys| []=>false)
   | .call {callee:=.builtin .min,args:=as,argTypes:=_}=> !mx&&(match as.toList with|x::xs=>okT x y&&okTs xs ys| []=>false)
   |_=>false
 | .app e _ y z=>match o.op with| .call {callee:=.builtin .append,args:=as,argTypes:=ts}=>(match as.toList,ts.toList with| [x,u],[t,v]=>okX x y&&okT u z&&srcT P v&&(elemB P t e).isSome|_,_=>false)|_=>false
 | .nilA _ _ _ y=>match o.op with| .move x=>okT x y| .assign x=>okT x y|_=>false
 | .frz y=>match o.op with| .move x=>okT x y| .assign x=>okT x y|_=>false
 | .litZ _ e ag zero=>match o.op with| .buildSlice t n ps=>n==0&&(elemB P t e).any fun z=>okConsts z.cells.toList zero&&(ag||e==1)&&ps.toList.isEmpty|_=>false
 | .appA e _ y z=>match o.op with| .call {callee:=.builtin .append,args:=as,argTypes:=ts}=>(match as.toList,ts.toList with| [x,u],[t,v]=>okX x y&&okT u z&&srcT P v&&(elemB P t e).isSome|_,_=>false)|_=>false
 | .copy e y z=>match o.op with| .call {callee:=.builtin .copy,args:=as,argTypes:=ts}=>(match as.toList,ts.toList with| [x,u],[t,_]=>okT x y&&okT u z&&(sliceT P t).any fun et=>szT P et==some e|_,_=>false)|_=>false
 | .ext y i=>match o.op with| .extract x j=>okT x y&&j==i|_=>false
 | .s2bA _ y=>match o.op with| .convert s d x=>okT x y&&(P.underlying s).isSome&&(sliceT P d).any fun e=>isU8T P e|_=>false
 | .call .. | .callv .. | .callk .. =>false
section
variable {P:Program} {Γ:Glob} {N0:Base Γ} {w:World} {F X:Cell→Prop} {β:Nat→Cell} {Ow:Key→Cell→Prop} {env env':Env} {h h':Heap} {v:Value} {a a':AV} {act:Act} {R:CallF} {o:Oper}
theorem isStrT_spec {t:TypeId}(h:isStrT P t=true):P.underlying t=some .string:=by unfold isStrT at h;split at h<;>first|assumption|cases h
theorem isBoolT_spec {t:TypeId}(h:isBoolT P t=true):P.underlying t=some .bool:=by unfold isBoolT at h;split at h<;>first|assumption|cases h
theorem isPtrT_spec {t:TypeId}(h:isPtrT P t=true): ∃e,P.underlying t=some (.pointer e):=by unfold isPtrT at h;split at h<;>first|exact⟨_,by assumption⟩|cases h
theorem isU8T_spec {t:TypeId}(h:isU8T P t=true):P.underlying t=some (.int .u8):=by unfold isU8T at h;split at h<;>first|assumption|cases h
theorem isIntT_spec {k:IntKind}{t:TypeId}(h:isIntT P k t=true):P.underlying t=some (.int k):=by
 unfold isIntT at h
 split at h
 ·rename_i j hj;have:=eq_of_beq h;subst this;exact hj
 ·cases h
theorem sliceT_spec {t e:TypeId}(h:sliceT P t=some e):P.underlying t=some (.slice e):=by
 unfold sliceT at h
 split at h
 ·rename_i hj;injection h with h;subst h;exact hj
 ·cases h
theorem arrT_spec {t:TypeId}{q:Nat×TypeId}(h:arrT P t=some q):P.underlying t=some (.array q.1 q.2):=by
 unfold arrT at h
 split at h
 ·rename_i hj;injection h with h;subst h;exact hj
 ·cases h
theorem elemB_spec {t:TypeId}{e:Nat}{z:Value}(h:elemB P t e=some z): ∃et,ElemT P t et e z:=by
 unfold elemB at h
 obtain⟨et,h1,h⟩:=zbi h
 obtain⟨z',h2,h⟩:=zbi h
 obtain⟨b,h3,h⟩:=zbi h
 split at h
 ·rename_i hc
  injection h with h;subst h
  exact⟨et,sliceT_spec h1,hc.1,h2,hc.2.1,b,h3,hc.2.2⟩
 ·cases h
theorem any_spec {α:Type}{x:Option α}{p:α→Bool}(h:x.any p=true): ∃y,x=some y∧p y=true:=by
 cases x with
 |none=>cases h
 |some y=>exact⟨y,rfl,h⟩
theorem arr_of {α:Type}{as:Array α}{l:List α}(h:as.toList=l):as=l.toArray:=by subst h;simp
theorem snd_op (g:GR N0 w F β Ow (slots act) env h v a){m:MOp}(hk:okOp P o m=true)(ho:opv R env h m=some (a',env',h')):Out P N0 w F β h (XX F Ow) act env' h' ((execOp act.eval o).run P w) a':=by
 cases m<;>simp only[okOp]at hk
 case mv y=>
  split at hk
  ·rename_i x hop;exact snd_mv g hk (.inl hop) ho
  ·rename_i x hop;exact snd_mv g hk (.inr hop) ho
  ·cases hk
 case pick c x y=>
  split at hk
  ·rename_i hop;simp only[zba]at hk;exact snd_pick g hk.1.1 hk.1.2 hk.2 hop ho
  ·cases hk
 case new nm zero=>
  split at hk
  ·rename_i hop;obtain⟨z,hz,hk⟩:=any_spec hk;exact snd_new g hz hk hop ho
  ·cases hk
 case box nm y=>
  split at hk
  ·rename_i hop;exact snd_box g hk hop ho
  ·cases hk
 case boxE y=>
  split at hk
  ·rename_i hop;exact snd_boxE g hk hop ho
  ·cases hk
 case build zero qs=>
  split at hk
  ·rename_i hop
   obtain⟨z,hz,hk⟩:=any_spec hk
   obtain⟨pl,hpl,hk⟩:=any_spec hk
   simp only[zba]at hk
   exact snd_build g hz hk.1 hpl hk.2 hop ho
  ·cases hk
 case lit e ag zero len qs=>
  split at hk
  ·rename_i hop
   simp only[zba,beq_iff_eq]at hk
   obtain⟨rfl,hk⟩:=hk
   obtain⟨z,hz,hk⟩:=any_spec hk
   obtain⟨et,q⟩:=elemB_spec hz
   simp only[zba,Bool.or_eq_true,beq_iff_eq,decide_eq_true_eq]at hk
   exact snd_lit g q hk.1.1.1 (fun h=>by subst h;simpa using hk.1.1.2) hk.1.2 hk.2 hop ho
  ·rename_i hop
   simp only[zba,beq_iff_eq,List.isEmpty_iff,decide_eq_true_eq]at hk
   obtain⟨rfl,rfl,rfl,hn,hk⟩:=hk
   obtain⟨z,hz,hk⟩:=any_spec hk
   obtain⟨et,q⟩:=elemB_spec hz
   simp only[zba,Bool.or_eq_true,beq_iff_eq]at hk
   exact snd_litM g q hk.1 (fun h=>by subst h;simpa using hk.2) hn hop ho
  ·cases hk
 case litF e ag zero len qs=>
  split at hk
  ·rename_i hop
   simp only[zba,beq_iff_eq]at hk
   obtain⟨rfl,hk⟩:=hk
   obtain⟨z,hz,hk⟩:=any_spec hk
   obtain⟨et,q⟩:=elemB_spec hz
   simp only[zba,Bool.or_eq_true,beq_iff_eq,decide_eq_true_eq]at hk
   exact snd_litF g q hk.1.1.1 (fun h=>by subst h;simpa using hk.1.1.2) hk.1.2 hk.2 hop ho
  ·cases hk
 case litA nm e ag zero len qs=>
  split at hk
  ·rename_i hop
   simp only[zba,beq_iff_eq]at hk
   obtain⟨rfl,hk⟩:=hk
   obtain⟨z,hz,hk⟩:=any_spec hk
   obtain⟨et,q⟩:=elemB_spec hz
   simp only[zba,Bool.or_eq_true,beq_iff_eq,decide_eq_true_eq]at hk
   exact snd_litA g q hk.1.1.1 (fun h=>by subst h;simpa using hk.1.1.2) hk.1.2 hk.2 hop ho
  ·cases hk
 case ld sz ag y=>
  split at hk
  ·rename_i hop;simp only[zba,beq_iff_eq]at hk;exact snd_ld g hk.1.1 hk.1.2 hk.2 hop ho
  ·cases hk
 case ldd sz ag y=>
  have ho:=opv_ldd ho
  split at hk
  ·rename_i hop;simp only[zba,beq_iff_eq]at hk;exact snd_ld g hk.1.1 hk.1.2 hk.2 hop ho
  ·cases hk
 case ldk y b d=>
  have ho:=opv_ldk ho
  split at hk
  ·rename_i hop;simp only[zba,beq_iff_eq]at hk;exact snd_ld g hk.1.1 hk.1.2 hk.2 hop ho
  ·cases hk
 case ldx y=>
  split at hk
  ·rename_i hop;simp only[zba,beq_iff_eq]at hk;exact snd_ldx g hk.1 hk.2 hop ho
  ·cases hk
 case st sz y z=>
  split at hk
  ·rename_i hop;simp only[zba,beq_iff_eq]at hk;exact snd_st g hk.1.1 hk.1.2 hk.2 hop ho
  ·cases hk
 case nilc y=>
  split at hk
  ·rename_i hop;exact snd_nilc g hk hop ho
  ·cases hk
 case bin b y z=>
  split at hk
  ·rename_i hop;simp only[zba,beq_iff_eq]at hk;obtain⟨⟨rfl,h1⟩,h2⟩:=hk;exact snd_bin g h1 h2 hop ho
  ·cases hk
 case eqA neg ks y z=>
  split at hk
  ·rename_i hop
   simp only[zba,beq_iff_eq,Bool.not_eq_true']at hk
   obtain⟨⟨⟨⟨⟨h0,h1⟩,h2⟩,h3⟩,h4⟩,h5⟩:=hk
   rw[h0]at hop
   exact snd_eqA g h1 h2 h3 (by decide) h4 h5 hop ho
  ·cases hk
 case eqB neg y z=>
  split at hk
  ·rename_i hop
   simp only[zba,beq_iff_eq]at hk
   obtain⟨⟨⟨h0,h1⟩,h2⟩,h3⟩:=hk
   rw[h0]at hop
   exact snd_eqB g h1 h2 (isBoolT_spec h3) hop ho
  ·cases hk
 case eqP neg y z=>
  split at hk
  ·rename_i hop
   simp only[zba,beq_iff_eq]at hk
   obtain⟨⟨⟨h0,h1⟩,h2⟩,h3⟩:=hk
   rw[h0]at hop
   obtain⟨e,he⟩:=isPtrT_spec h3
   exact snd_eqP g h1 h2 he hop ho
  ·cases hk
 case un b y=>
  split at hk
  ·rename_i hop;simp only[zba,beq_iff_eq]at hk;obtain⟨rfl,h1⟩:=hk;exact snd_un g h1 hop ho
  ·cases hk
 case toInt k y=>
  split at hk
  ·rename_i hop;simp only[zba]at hk;exact snd_toInt g hk.1.1 (Option.isSome_iff_exists.1 hk.1.2) (isIntT_spec hk.2) hop ho
  ·cases hk
 case same y=>
  split at hk
  ·rename_i hop;simp only[zba]at hk;exact snd_same g hk.1.1 (Option.isSome_iff_exists.1 hk.1.2) (isStrT_spec hk.2) hop ho
  ·cases hk
 case s2b y=>
  split at hk
  ·rename_i hop
   simp only[zba]at hk
   obtain⟨et,he,hk3⟩:=any_spec hk.2
   exact snd_s2b g hk.1.1 (Option.isSome_iff_exists.1 hk.1.2) (sliceT_spec he) (isU8T_spec hk3) hop ho
  ·cases hk
 case s2bA nm y=>
  split at hk
  ·rename_i hop
   simp only[zba]at hk
   obtain⟨et,he,hk3⟩:=any_spec hk.2
   exact snd_s2bA g hk.1.1 (Option.isSome_iff_exists.1 hk.1.2) (sliceT_spec he) (isU8T_spec hk3) hop ho
  ·cases hk
 case b2s y=>
  split at hk
  ·rename_i hop
   simp only[zba]at hk
   obtain⟨et,he,hk3⟩:=any_spec hk.2
   exact snd_b2s g hk.1.1 (sliceT_spec he) (isU8T_spec hk3) (isStrT_spec hk.1.2) hop ho
  ·cases hk
 case mk f ys=>
  split at hk
  ·rename_i fs xs hop
   simp only[zba,beq_iff_eq,List.isEmpty_iff]at hk
   obtain⟨⟨rfl,h1⟩,h2⟩:=hk
   have h2:=arr_of h2
   subst h2
   exact snd_mk g h1 hop ho
  ·cases hk
 case mkB f ys=>
  split at hk
  ·rename_i fs xs hop
   simp only[zba,beq_iff_eq,List.isEmpty_iff]at hk
   obtain⟨⟨rfl,h1⟩,h2⟩:=hk
   have h2:=arr_of h2
   subst h2
   exact snd_mkB g h1 hop ho
  ·cases hk
 case makeL e y=>
  split at hk
  ·rename_i hop
   simp only[zba,beq_iff_eq]at hk
   obtain⟨⟨rfl,h1⟩,h2⟩:=hk
   obtain⟨z,hz⟩:=Option.isSome_iff_exists.1 h2
   obtain⟨et,q⟩:=elemB_spec hz
   exact snd_makeL g q h1 hop ho
  ·cases hk
 case makeA nm e ag zero y=>
  split at hk
  ·rename_i hop
   simp only[zba]at hk
   obtain⟨z,hz,hk3⟩:=any_spec hk.2
   obtain⟨et,q⟩:=elemB_spec hz
   exact snd_makeA g q hk3 hk.1.1 hk.1.2 hop ho
  ·cases hk
 case slc e y lo hi mx=>
  split at hk
  ·rename_i hop
   simp only[zba,Bool.or_eq_true,Bool.not_eq_true']at hk
   obtain⟨⟨⟨⟨⟨h1,h2⟩,h3⟩,h4⟩,h5⟩,h6⟩:=hk
   obtain⟨et,he,h6⟩:=any_spec h6
   exact snd_slc g h1 h2 h3 h4 (fun hh=>by rcases h5 with h5|h5;(rw[hh]at h5;cases h5);exact h5) (sliceT_spec he) (eq_of_beq h6) hop ho
  ·cases hk
 case slcS y lo hi=>
  split at hk
  ·rename_i hop;simp only[zba]at hk;exact snd_slcS g hk.1.1.1 hk.1.1.2 hk.1.2 (isStrT_spec hk.2) hop ho
  ·cases hk
 case slcA n e ag y lo hi=>
  split at hk
  ·rename_i hop
   simp only[zba]at hk
   obtain⟨q,hq,h6⟩:=any_spec hk.2
   simp only[zba,beq_iff_eq]at h6
   obtain⟨rfl,h7⟩:=h6
   exact snd_slcA g hk.1.1.1 hk.1.1.2 hk.1.2 (arrT_spec hq) h7 hop ho
  ·cases hk
 case fa off y=>
  split at hk
  ·rename_i hop
   simp only[zba]at hk
   obtain⟨fd,hf,h2⟩:=any_spec hk.2
   simp only[zba,beq_iff_eq]at h2
   obtain⟨sz,hz,h3⟩:=any_spec h2.2
   exact snd_fa g hk.1 hf h2.1 hz (by simpa using h3) hop ho
  ·cases hk
 case fld off sz ag y=>
  split at hk
  ·rename_i hop
   simp only[zba]at hk
   obtain⟨fd,hf,h2⟩:=any_spec hk.2
   simp only[zba,beq_iff_eq]at h2
   exact snd_fld g hk.1 hf h2.1.1 h2.1.2 h2.2 hop ho
  ·cases hk
 case ia e y z=>
  split at hk
  ·rename_i hop
   simp only[zba]at hk
   obtain⟨et,he,h6⟩:=any_spec hk.2
   exact snd_ia g hk.1.1 hk.1.2 (sliceT_spec he) (eq_of_beq h6) hop ho
  ·cases hk
 case iaA n e y z=>
  split at hk
  ·rename_i hop
   simp only[zba]at hk
   obtain⟨q,hq,h6⟩:=any_spec hk.2
   simp only[zba,beq_iff_eq]at h6
   obtain⟨rfl,h7⟩:=h6
   exact snd_iaA g hk.1.1 hk.1.2 (arrT_spec hq) h7 hop ho
  ·cases hk
 case ixS y z=>
  split at hk
  ·rename_i hop;simp only[zba]at hk;exact snd_ixS g hk.1.1 hk.1.2 (isStrT_spec hk.2) hop ho
  ·cases hk
 case ixA n e ag y z=>
  split at hk
  ·rename_i hop
   simp only[zba]at hk
   obtain⟨q,hq,h6⟩:=any_spec hk.2
   simp only[zba,beq_iff_eq]at h6
   obtain⟨⟨rfl,h7⟩,h8⟩:=h6
   exact snd_ixA g hk.1.1 hk.1.2 (arrT_spec hq) h7 h8 hop ho
  ·cases hk
 case len st y=>
  split at hk
  ·rename_i as ts hop
   split at hk
   ·rename_i x t e1 e2
    have e1:=arr_of e1
    have e2:=arr_of e2
    subst e1 e2
    simp only[zba]at hk
    refine snd_len g hk.1 ?_ hop ho
    cases st with
    |true=>exact isStrT_spec hk.2
    |false=>obtain⟨e,he⟩:=Option.isSome_iff_exists.1 hk.2;exact⟨e,sliceT_spec he⟩
   ·cases hk
  ·cases hk
 case lenA n=>
  split at hk
  ·rename_i as ts hop
   split at hk
   ·rename_i x t e1 e2
    have e1:=arr_of e1
    have e2:=arr_of e2
    subst e1 e2
    refine snd_lenA g ?_ hop ho
    split at hk
    ·rename_i hu;have:=eq_of_beq hk;subst this;exact .inl ⟨_,hu⟩
    ·rename_i p hu
     obtain⟨q,hq,h2⟩:=any_spec hk
     have:=eq_of_beq h2;subst this
     exact .inr ⟨p,q.2,hu,arrT_spec hq⟩
    ·cases hk
   ·cases hk
  ·cases hk
 case mm mx y ys=>
  split at hk
  ·rename_i as ats hop
   simp only[zba]at hk
   obtain⟨rfl,hk⟩:=hk
   split at hk
   ·rename_i x xs has
    simp only[zba]at hk
    exact snd_mm g hk.1 hk.2 has (by rw[hop];rfl) ho
   ·cases hk
  ·rename_i as ats hop
   simp only[zba,Bool.not_eq_true']at hk
   obtain⟨rfl,hk⟩:=hk
   split at hk
   ·rename_i x xs has
    simp only[zba]at hk
    exact snd_mm g hk.1 hk.2 has (by rw[hop];rfl) ho
   ·cases hk
  ·cases hk
 case app e ag y z=>
  split at hk
  ·rename_i as ts hop
   split at hk
   ·rename_i x u t v e1 e2
    have e1:=arr_of e1
    have e2:=arr_of e2
    subst e1 e2
    simp only[zba]at hk
    obtain⟨z,hz⟩:=Option.isSome_iff_exists.1 hk.2
    obtain⟨et,q⟩:=elemB_spec hz
    exact snd_app g q hk.1.2 hk.1.1.1 hk.1.1.2 hop ho
   ·cases hk
  ·cases hk
 case frz y=>
  split at hk
  ·rename_i x hop;exact snd_frz g hk (.inl hop) ho
  ·rename_i x hop;exact snd_frz g hk (.inr hop) ho
  ·cases hk
 case nilA nm e ag y=>
  split at hk
  ·rename_i x hop;exact snd_nilA g hk (.inl hop) ho
  ·rename_i x hop;exact snd_nilA g hk (.inr hop) ho
  ·cases hk
 case litZ nm e ag zero=>
  split at hk
  ·rename_i hop
   simp only[zba,beq_iff_eq]at hk
   obtain⟨rfl,hk⟩:=hk
   obtain⟨z,hz,hk⟩:=any_spec hk
   obtain⟨et,q⟩:=elemB_spec hz
   simp only[zba,Bool.or_eq_true,beq_iff_eq,List.isEmpty_iff]at hk
   exact snd_litZ g q hk.1.1 (fun h=>by subst h;simpa using hk.1.2) hk.2 hop ho
  ·cases hk
 case appA e ag y z=>
  split at hk
  ·rename_i as ts hop
   split at hk
   ·rename_i x u t v e1 e2
    have e1:=arr_of e1
    have e2:=arr_of e2
    subst e1 e2
    simp only[zba]at hk
    obtain⟨z,hz⟩:=Option.isSome_iff_exists.1 hk.2
    obtain⟨et,q⟩:=elemB_spec hz
    exact snd_appA g q hk.1.2 hk.1.1.1 hk.1.1.2 hop ho
   ·cases hk
  ·cases hk
 case copy e y z=>
  split at hk
  ·rename_i as ts hop
   split at hk
   ·rename_i x u t v e1 e2
    have e1:=arr_of e1
    have e2:=arr_of e2
    subst e1 e2
    simp only[zba]at hk
    obtain⟨et,he,h6⟩:=any_spec hk.2
    exact snd_copy g hk.1.1 hk.1.2 (sliceT_spec he) (eq_of_beq h6) hop ho
   ·cases hk
  ·cases hk
 case ext y i=>
  split at hk
  ·rename_i hop;simp only[zba,beq_iff_eq]at hk;obtain⟨h1,rfl⟩:=hk;exact snd_ext g h1 hop ho
  ·cases hk
 all_goals exact absurd hk (by simp)
end
section
variable {P:Program} {Γ:Glob} {N0:Base Γ} {w w':World} {F X:Cell→Prop} {β:Nat→Cell} {Ow:Key→Cell→Prop} {env env':Env} {h h':Heap} {v:Value} {a a':AV} {act:Act} {R:CallF} {o:Oper} {sl:Nat→Value}
theorem GR.world (g:GR N0 w F β Ow sl env h v a)(kp:Kp N0 w (XX F Ow) w' (XX F Ow))(same: ∀c,XX F Ow c→cat w' c=cat w c):GR N0 w' F β Ow sl env h v a where
 inv:={
  apart:=g.inv.apart
  apartF:=g.inv.apartF
  live:=fun c hc=>by
   obtain⟨⟨u,hu⟩,hz⟩:=g.inv.live c hc
   exact⟨⟨u,by rw[same c hc];exact hu⟩,by rw[kp.fz c (cat_lt hu)];exact hz⟩
  low:=g.inv.low
  base:=Nat.le_trans g.inv.base kp.size
  glob:=fun k hk=>(kp.blk k hk).trans (g.inv.glob k hk)}
 slot:=fun k=>⟨(g.slot k).1.mono kp,(g.slot k).2⟩
 val:=⟨g.val.1.mono kp,g.val.2⟩
 obj:=fun nm ob hob=>by
  have q:=g.obj nm ob hob
  refine⟨fun j hj=> ?_,q.wr,q.rd⟩
  obtain⟨c1,u,c2,c3,c4⟩:=q.cell j hj
  refine⟨c1,u,?_,c3.mono kp,c4⟩
  cases hw:ob.wr with
  |true=>rw[same _ (.inr ⟨_,q.wr hw j hj⟩)];exact c2
  |false=>exact(kp.keep _ _ c2 (q.rd hw j hj)).1
 refE:=g.refE
 refV:=g.refV
 refH:=g.refH
theorem tree_flat2 {h:Heap}{x b:AV}(ht:tree h x=some b):b.flat2=true:=by
 cases x with
 |agg cs=>
  simp only[tree]at ht
  obtain⟨bs,-,rfl⟩:=Option.map_eq_some_iff.1 ht
  rfl
 |arr o off len e ag=>
  simp only[tree,tcell]at ht
  obtain⟨ob,-,ht⟩:=zbi ht
  obtain⟨xs,-,rfl⟩:=Option.map_eq_some_iff.1 ht
  rfl
 |_=>simp only[tree,tcell,zsi,reduceCtorEq]at ht<;>(subst ht;rfl)
def CallOK (Γ:Glob)(P:Program)(R:CallF):Prop:=
 ∀f args hin res hout,R f args hin=some (res,hout)→hin.length≤hout.length∧(∃fn,P.funcs[f]? =some fn∧(fn.name== "runtime.NumGoroutine")=false∧fn.body.isNone=false)∧
  ∀(N0:Base Γ) w F β Ow (args':Array Value),GR N0 w F β Ow (fun k=>args'.getD k undef) (enter args hin).env (enter args hin).heap undef .undef→args'.size=args.length→
   Calls P f args' w fun e w'=> ∃v Ow' β',e= .returned v∧(∀k,k<hin.length→β' k=β k)∧GR N0 w' F β' Ow' (fun _=>undef) [] (hout.zipIdx.map fun p=>(p.2,p.1)) v res∧res.notOwn=true∧Kp N0 w (XX F Ow) w' (XX F Ow')∧FF F w w'
theorem VRel.free1 {w w':World}{X X':Cell→Prop}{β β':Nat→Cell}{v:Value}{a:AV}(h:VRel w X β v a)(hf:a.flat1=true)(hl:isLst a=false)(hr:refs2 a=[]):VRel w' X' β' v a:=by
 cases h with
 |undef v=>exact .undef v
 |nov=>exact .nov
 |bool b=>exact .bool b
 |int k n=>exact .int k n
 |str s l h=>exact .str s l h
 |agg cs as hl hf h=>cases hf
 |tup cs as hl hf h=>cases hf
 |lst0 A cap g hg=>cases hl
 |lst b o e cap g xs val hc hg hx hv h=>cases hl
 |arr A nm off len cap e ag hc hA=>cases hr
 |arw A nm len cap e ag hc hA=>cases hr
 |ptr nm off=>cases hr
 |ept b o off cs val hd hv h=>cases hl
 |nilp=>exact .nilp
 |fn f cs as hl2 hf2 h=>
  cases as with
  |nil=>exact .fn f cs [] hl2 (by simp) fun i hi=>absurd hi (by rw[hl2];simp)
  |cons x r=>
   have:=hf2 x List.mem_cons_self
   cases x with
   |ptr o a=>exact absurd hr (by simp)
   |_=>cases this
 |fnB f bs as hl2 hd2 h=>cases hl
theorem VRel.free2 {w w':World}{X X':Cell→Prop}{β β':Nat→Cell}{v:Value}{a:AV}(h:VRel w X β v a)(hf:a.flat2=true)(hl:hasLst1 a=false)(hr:refs3 a=[]):VRel w' X' β' v a:=by
 cases a with
 |agg as=>
  cases v with
  |agg cs=>
   cases h with
   |agg _ _ hl2 hf2 hv=>
    simp only[hasLst1,List.any_eq_false]at hl
    simp only[refs3,List.flatMap_eq_nil_iff]at hr
    refine .agg cs as hl2 hf2 fun i hi=> ?_
    have hm:as[i]∈as:=List.getElem_mem (hl2▸hi)
    exact(hv i hi).free1 (hf2 _ hm).1 (by simpa using hl _ hm) (hr _ hm)
  |_=>cases h
 |tup vs=>cases hf
 |_=>exact h.free1 rfl hl hr
theorem VRel.free {w w':World}{X X':Cell→Prop}{β β':Nat→Cell}{v:Value}{a:AV}(h:VRel w X β v a)(hl:hasLst a=false)(hr:refs a=[]):VRel w' X' β' v a:=by
 cases a with
 |tup as=>
  cases v with
  |tuple cs=>
   cases h with
   |tup _ _ hl2 hf2 hv=>
    simp only[hasLst,List.any_eq_false]at hl
    simp only[refs,List.flatMap_eq_nil_iff]at hr
    refine .tup cs as hl2 hf2 fun i hi=> ?_
    have hm:as[i]∈as:=List.getElem_mem (hl2▸hi)
    exact(hv i hi).free2 (hf2 _ hm).1 (by simpa using hl _ hm) (hr _ hm)
  |_=>cases h
 |_=>exact h.free2 rfl hl hr
theorem mapM_get {α β:Type}{f:α→Option β}: ∀{l:List α} {r:List β},l.mapM f=some r→l.length=r.length∧∀i (h1:i<l.length) (h2:i<r.length),f l[i]=some r[i]:=by
 intro l
 induction l with
 |nil=>intro r h;simp at h;subst h;exact⟨rfl,fun i h1=>absurd h1 (by simp)⟩
 |cons x l ih=>
  intro r h
  rw[List.mapM_cons]at h
  obtain⟨y,hy,h⟩:=zbi h
  obtain⟨s,hs,h⟩:=zbi h
  simp only[Option.pure_def,zsi]at h
  subst h
  obtain⟨i1,i2⟩:=ih hs
  refine⟨by simp[i1],fun i h1 h2=> ?_⟩
  cases i with
  |zero=>exact hy
  |succ i=>exact i2 i (by simpa using h1) (by simpa using h2)
theorem get_enter (args:List AV)(k:Nat):get (args.zipIdx.map fun p=>(p.2,p.1)) k=args.getD k .undef:=by
 have gen: ∀(l:List AV) (n:Nat),get ((l.zipIdx n).map fun p=>(p.2,p.1)) k=if n≤k then l.getD (k-n) .undef else .undef:=by
  intro l
  induction l with
  |nil=>intro n;simp[get]
  |cons x l ih=>
   intro n
   rw[List.zipIdx_cons,List.map_cons,get_cons,ih (n+1)]
   by_cases h1:n=k
   ·subst h1;rw[if_pos rfl,if_pos (Nat.le_refl _)];simp
   ·rw[if_neg h1]
    by_cases h2:n≤k
    ·rw[if_pos (by omega),if_pos h2]
     have:k-n=(k-(n+1))+1:=by omega
     rw[this];simp
    ·rw[if_neg (by omega),if_neg h2]
 have:=gen args 0
 simpa using this
theorem treeT_rel (g:GR N0 w F β Ow sl env h v a){β':Nat→Cell}{Fc:Cell→Prop}(hF: ∀c,Fc c→XX F Ow c){u:Value}{x b:AV}(hx:VRel w (XX F Ow) β u x)(ht:treeT h x=some b)
 (hS: ∀c,(∃nms,cellsOf h β nms c)→¬Fc c):VRel w Fc β' u b∧b.notOwn=true∧refs b=[]:=by
 cases x with
 |tup vs=>
  simp only[treeT]at ht
  obtain⟨bs,hbs,rfl⟩:=Option.map_eq_some_iff.1 ht
  cases hx with
  |tup cs as hl hf hv=>
   obtain⟨m1,m2⟩:=mapM_get hbs
   have each: ∀i (h1:i<cs.size) (h2:i<bs.length),VRel w Fc β' cs[i] bs[i]∧bs[i].notOwn=true∧refs bs[i]=[]∧bs[i].flat2=true:=by
    intro i h1 h2
    have h3:i<vs.length:=by omega
    obtain⟨a1,a2,a3⟩:=tree_rel (β':=β') g hF (hv i h1) (m2 i h3 h2) fun c hc=>hS c ⟨_,hc⟩
    exact⟨a1,a2,a3,tree_flat2 (m2 i h3 h2)⟩
   refine⟨.tup cs bs (by omega) (fun c hc=> ?_) (fun i hi=>(each i hi (by omega)).1),rfl,?_⟩
   ·obtain⟨i,hi,rfl⟩:=List.getElem_of_mem hc
    exact⟨(each i (by omega) hi).2.2.2,(each i (by omega) hi).2.1⟩
   ·simp only[refs,List.flatMap_eq_nil_iff]
    intro c hc
    obtain⟨i,hi,rfl⟩:=List.getElem_of_mem hc
    have e:=each i (by omega) hi
    have:=e.2.2.1
    cases hb:bs[i]with
    |tup _=>rw[hb]at e;cases e.2.2.2
    |_=>rw[hb]at this;exact this
 |_=>exact tree_rel g hF hx ht fun c hc=>hS c ⟨_,hc⟩
theorem call_tree (hR:CallOK Γ P R)(g:GR N0 w F β Ow sl env h v a){f:Nat}{args as:List AV}{vals:Array Value}{res:AV}(hsz:vals.size=args.length)
 (hv: ∀i (h1:i<vals.size) (h2:i<args.length),VRel w (XX F Ow) β vals[i] args[i]) (ht:args.mapM (tree h)=some as) {res0:AV} {ho:List Obj} (hr:R f as []=some (res0,ho)) (hb:back res0 ho=some res):
 Calls P f vals w fun e w'=> ∃v' Ow',e= .returned v'∧GR N0 w' F β Ow' sl env (if hasLst res then freeze h (args.flatMap arrs)else h) v' res∧res.notOwn=true∧Kp N0 w (XX F Ow) w' (XX F Ow')∧FF F w w':=by
 obtain⟨t1,t2⟩:=mapM_get ht
 let Fc:Cell→Prop:=fun c=>XX F Ow c∧¬cellsOf h β (args.flatMap arrs) c
 have hFc: ∀c,Fc c→XX F Ow c:=fun c hc=>hc.1
 have hX: ∀c,XX Fc (fun _ _=>False) c↔Fc c:=fun c=>⟨fun h=>h.elim id fun⟨_,hk⟩=>hk.elim,.inl⟩
 have each: ∀i (h1:i<vals.size) (h2:i<as.length),VRel w (XX Fc fun _ _=>False) β vals[i] as[i]∧as[i].notOwn=true∧refs as[i]=[]:=by
  intro i h1 h2
  have h3:i<args.length:=by omega
  have:=tree_rel (β':=β) g (Fc:=XX Fc fun _ _=>False) (fun c hc=>hFc c ((hX c).1 hc)) (hv i h1 h3) (t2 i h3 h2) (fun c hc hf=> ?_)
  ·exact this
  ·refine((hX c).1 hf).2 ?_
   obtain⟨nm,hn,rest⟩:=hc
   exact⟨nm,List.mem_flatMap.2 ⟨_,List.getElem_mem h3,hn⟩,rest⟩
 have gc:GR N0 w Fc β (fun _ _=>False) (fun k=>vals.getD k undef) (enter as []).env (enter as []).heap undef .undef:={
  inv:={
   apart:=fun _ _ _ h=>h.elim
   apartF:=fun _ _ h=>h.elim
   live:=fun c hc=>g.inv.live c (hFc c ((hX c).1 hc))
   low:=fun c hc=>g.inv.low c (hFc c ((hX c).1 hc))
   base:=g.inv.base
   glob:=g.inv.glob}
  slot:=fun k=>by
   simp only[enter,get_enter]
   rcases Nat.lt_or_ge k as.length with hk|hk
   ·obtain⟨e1,e2,-⟩:=each k (by omega) hk
    rw[List.getD_eq_getElem?_getD,zge hk,Array.getD_eq_getD_getElem?,Array.getElem?_eq_getElem (by omega)]
    exact⟨e1,.of e2⟩
   ·rw[List.getD_eq_getElem?_getD,List.getElem?_eq_none hk]
    exact⟨.undef _,.of rfl⟩
  val:=⟨.undef _,.of rfl⟩
  obj:=fun nm ob hob=>by simp[enter,hget]at hob
  refE:=fun k r hr=>by
   simp only[enter,get_enter]at hr
   rcases Nat.lt_or_ge k as.length with hk|hk
   ·obtain⟨-,-,e3⟩:=each k (by omega) hk
    rw[List.getD_eq_getElem?_getD,zge hk]at hr
    simp only[Option.getD_some,e3]at hr
    cases hr
   ·rw[List.getD_eq_getElem?_getD,List.getElem?_eq_none hk]at hr
    cases hr
  refV:=by simp
  refH:=fun nm ob hob=>by simp[enter,hget]at hob}
 refine((hR f as [] res0 ho hr).2.2 N0 w Fc β _ vals gc (by omega)).mono ?_
 rintro e w' ⟨v',Oc,β',rfl,-,gr,hno0,kc,ffc⟩
 have hsub: ∀c,XX F Ow c→cat w' c=cat w c:=by
  intro c hc
  by_cases hS:cellsOf h β (args.flatMap arrs) c
  ·obtain⟨⟨u,hu⟩,-⟩:=g.inv.live c hc
   have:=(kc.keep c u hu (fun hf=>((hX c).1 hf).2 hS)).1
   rw[this,hu]
  ·exact(ffc c ⟨hc,hS⟩).1
 have kp:Kp N0 w (XX F Ow) w' (XX F Ow):=⟨kc.os,kc.tape,kc.output,kc.size,kc.fz,kc.blk,fun c u hu hx=>⟨(kc.keep c u hu (fun hf=>hx (hFc c ((hX c).1 hf)))).1,hx⟩⟩
 have g1:=g.world kp hsub
 have ff:FF F w w':=fun c hc=>⟨hsub c (.inl hc),by
  obtain⟨⟨u,hu⟩,-⟩:=g.inv.live c (.inl hc)
  exact kp.fz c (cat_lt hu)⟩
 have main:res.notOwn=true∧refs res=[]∧∀Y:Cell→Prop,(∀c,Y c→Fc c)→VRel w' Y β v' res:=by
  cases ho with
  |nil=>
   simp only[back,zsi]at hb
   subst hb
   have hrefs: ∀r∈refs res0,False:=by
    intro r hrr
    have:=gr.refV r hrr
    cases this
   exact⟨hno0,List.eq_nil_iff_forall_not_mem.2 fun r hr=>hrefs r hr,fun Y hY=>(gr.val.1.mono ((Kp.refl N0 w' _).shrink fun c hc=>.inl (hY c hc))).base fun o ho=>(hrefs o ho).elim⟩
  |cons ob0 obr=>
   simp only[back]at hb
   have far: ∀{nms:List Nat} {Y:Cell→Prop},(∀c,Y c→Fc c)→∀c,cellsOf (hp (ob0::obr)) β' nms c→¬Y c:=by
    rintro nms Y hY c ⟨nm,-,ob,hob,j,hj,rfl⟩ hc
    cases hw:ob.wr with
    |true=>exact gr.inv.apartF _ _ ((gr.obj nm ob hob).wr hw j hj) (hY _ hc)
    |false=>exact(gr.obj nm ob hob).rd hw j hj (.inl (hY _ hc))
   refine⟨?_,?_,fun Y hY=> ?_⟩
   ·exact(treeT_rel (β':=β) gr (Fc:=fun _=>False) (fun c hc=>hc.elim) gr.val.1 hb fun c _ hc=>hc).2.1
   ·exact(treeT_rel (β':=β) gr (Fc:=fun _=>False) (fun c hc=>hc.elim) gr.val.1 hb fun c _ hc=>hc).2.2
   ·exact(treeT_rel (β':=β) gr (fun c hc=>.inl (hY c hc)) gr.val.1 hb fun c hn=>by
     obtain⟨nms,hn⟩:=hn
     exact far hY c hn).1
 obtain⟨hno,hrefs0,hval⟩:=main
 have hrefs: ∀r∈refs res,False:=fun r hr=>by rw[hrefs0]at hr;cases hr
 by_cases hl:hasLst res=true
 ·rw[if_pos hl]
  have g2:=g1.noval undef
  have g3:=g2.freeze (args.flatMap arrs)
  have hsub2: ∀c,XX F (dropK (dropK Ow (· = .val)) fun k=> ∃n∈args.flatMap arrs,k= .obj n) c→Fc c:=by
   rintro c (hc|⟨k,hk1,hk2,hk3⟩)
   ·refine⟨.inl hc,?_⟩
    rintro⟨nm,hn,ob,hob,j,hj,rfl⟩
    cases hw:ob.wr with
    |true=>exact g.inv.apartF _ _ ((g.obj nm ob hob).wr hw j hj) hc
    |false=>exact(g.obj nm ob hob).rd hw j hj (.inl hc)
   ·refine⟨.inr ⟨k,hk3⟩,?_⟩
    rintro⟨nm,hn,ob,hob,j,hj,rfl⟩
    cases hw:ob.wr with
    |true=>
     have:=g.inv.apart _ _ _ hk3 ((g.obj nm ob hob).wr hw j hj)
     exact hk1 ⟨nm,hn,this⟩
    |false=>exact(g.obj nm ob hob).rd hw j hj (.inr ⟨k,hk3⟩)
  have hval:=hval _ hsub2
  exact⟨v',_,rfl,g3.pend hval (.of hno) (fun r hr=>(hrefs r hr).elim),hno,kp.shrink fun c hc=>XX_drop (XX_drop (XX_drop hc)),ff⟩
 ·rw[if_neg hl]
  have hl':hasLst res=false:=by simpa using hl
  exact⟨v',_,rfl,g1.pend ((hval (fun _=>False) fun _ h=>h.elim).free hl' hrefs0) (.of hno) (fun r hr=>(hrefs r hr).elim),hno,kp.shrink fun c hc=>XX_drop hc,ff⟩
end
theorem nodup_rev {l:List Nat}(h:l.Nodup):l.reverse.Nodup:=List.pairwise_reverse.2 (h.imp fun h=>Ne.symm h)
theorem reach_spec (h:Heap): ∀(n:Nat) (todo seen r:List Nat),reach h n todo seen=some r→seen.Nodup→
 (∀o∈seen,∃ob,hget h o=some ob∧∀c∈ob.cells,∀x∈refs2 c,x∈seen∨x∈todo)→
 r.Nodup∧(∀o∈todo,o∈r)∧(∀o∈seen,o∈r)∧∀o∈r,∃ob,hget h o=some ob∧∀c∈ob.cells,∀x∈refs2 c,x∈r:=by
 intro n
 induction n with
 |zero=>
  intro todo seen r hr hn hs
  cases todo with
  |nil=>
   simp only[reach,zsi]at hr
   subst hr
   refine⟨nodup_rev hn,by simp,fun o ho=>List.mem_reverse.2 ho,fun o ho=> ?_⟩
   obtain⟨ob,h1,h2⟩:=hs o (List.mem_reverse.1 ho)
   exact⟨ob,h1,fun c hc x hx=>List.mem_reverse.2 ((h2 c hc x hx).resolve_right (by simp))⟩
  |cons=>cases hr
 |succ n ih=>
  intro todo seen r hr hn hs
  cases todo with
  |nil=>
   simp only[reach,zsi]at hr
   subst hr
   refine⟨nodup_rev hn,by simp,fun o ho=>List.mem_reverse.2 ho,fun o ho=> ?_⟩
   obtain⟨ob,h1,h2⟩:=hs o (List.mem_reverse.1 ho)
   exact⟨ob,h1,fun c hc x hx=>List.mem_reverse.2 ((h2 c hc x hx).resolve_right (by simp))⟩
  |cons o todo=>
   simp only[reach]at hr
   split at hr
   ·rename_i hc
    have hmem:o∈seen:=by simpa using hc
    obtain⟨i1,i2,i3,i4⟩:=ih todo seen r hr hn fun o' ho'=>by
     obtain⟨ob,h1,h2⟩:=hs o' ho'
     refine⟨ob,h1,fun c hc x hx=> ?_⟩
     rcases h2 c hc x hx with h3|h3
     ·exact .inl h3
     ·rcases List.mem_cons.1 h3 with h4|h4
      ·exact .inl (h4▸hmem)
      ·exact .inr h4
    exact⟨i1,fun o' ho'=>(List.mem_cons.1 ho').elim (fun e=>e▸i3 o hmem) (i2 o'),i3,i4⟩
   ·rename_i hc
    have hmem:o∉seen:=by simpa using hc
    split at hr
    ·cases hr
    ·rename_i ob hob
     obtain⟨i1,i2,i3,i4⟩:=ih _ (o::seen) r hr (List.nodup_cons.2 ⟨hmem,hn⟩) fun o' ho'=>by
      rcases List.mem_cons.1 ho' with rfl|ho'
      ·exact⟨ob,hob,fun c hc x hx=>.inr (List.mem_append_right _ (List.mem_flatMap.2 ⟨c,hc,hx⟩))⟩
      ·obtain⟨ob',h1,h2⟩:=hs o' ho'
       refine⟨ob',h1,fun c hc x hx=> ?_⟩
       rcases h2 c hc x hx with h3|h3
       ·exact .inl (List.mem_cons_of_mem _ h3)
       ·rcases List.mem_cons.1 h3 with h4|h4
        ·exact .inl (h4▸List.mem_cons_self)
        ·exact .inr (List.mem_append_left _ h4)
     exact⟨i1,fun o' ho'=>(List.mem_cons.1 ho').elim (fun e=>e▸i3 o List.mem_cons_self) (fun h=>i2 o' (List.mem_append_left _ h)),fun o' ho'=>i3 o' (List.mem_cons_of_mem _ ho'),i4⟩
theorem hget_enter (hin:List Obj)(k:Nat):hget (hin.zipIdx.map fun p=>(p.2,p.1)) k=hin[k]? :=by
 have gen: ∀(l:List Obj) (n:Nat),hget ((l.zipIdx n).map fun p=>(p.2,p.1)) k=if n≤k then l[k-n]? else none:=by
  intro l
  induction l with
  |nil=>intro n;simp[hget]
  |cons x l ih=>
   intro n
   rw[List.zipIdx_cons,List.map_cons,hget_cons,ih (n+1)]
   by_cases h1:n=k
   ·subst h1;rw[if_pos rfl,if_pos (Nat.le_refl _)];simp
   ·rw[if_neg h1]
    by_cases h2:n≤k
    ·rw[if_pos (by omega),if_pos h2]
     have:k-n=(k-(n+1))+1:=by omega
     rw[this];simp
    ·rw[if_neg (by omega),if_neg h2]
 have:=gen hin 0
 simpa using this
theorem refs1_ren (f:Nat→Nat)(a:AV):refs1 (ren1 f a)=(refs1 a).map f:=by cases a<;>rfl
theorem refs2_ren (f:Nat→Nat)(a:AV):refs2 (ren2 f a)=(refs2 a).map f:=by
 cases a with
 |fn g cs=>
  simp only[ren2,refs2,List.flatMap_map,List.map_flatMap]
  congr 1;funext c;exact refs1_ren f c
 |_=>simp only[ren2,refs2];exact refs1_ren f _
theorem refs3_ren (f:Nat→Nat)(a:AV):refs3 (ren3 f a)=(refs3 a).map f:=by
 cases a with
 |agg cs=>
  simp only[ren3,refs3,List.flatMap_map,List.map_flatMap]
  congr 1;funext c;exact refs2_ren f c
 |_=>simp only[ren3,refs3];exact refs2_ren f _
theorem refs_ren (f:Nat→Nat)(a:AV):refs (ren f a)=(refs a).map f:=by
 cases a with
 |tup cs=>
  simp only[ren,refs,List.flatMap_map,List.map_flatMap]
  congr 1;funext c;exact refs3_ren f c
 |_=>simp only[ren,refs];exact refs3_ren f _
theorem ren_notOwn (f:Nat→Nat)(a:AV):(ren f a).notOwn=a.notOwn:=by cases a<;>rfl
theorem ren2_isCell (f:Nat→Nat)(a:AV):(ren2 f a).isCell=a.isCell:=by cases a<;>rfl
theorem OwnOk.ren2 {S:Cell→Prop}{v:Value}{a:AV}(h:OwnOk S v a)(f:Nat→Nat):OwnOk S v (ren2 f a):=by
 cases a with
 |lst g xs=>exact h
 |arw nm n e ag=>exact .arw (h.2 nm n e ag rfl)
 |_=>exact .of rfl
theorem OwnOk.ren {S:Cell→Prop}{v:Value}{a:AV}(h:OwnOk S v a)(f:Nat→Nat):OwnOk S v (ren f a):=by
 cases a with
 |lst g xs=>exact h
 |arw nm n e ag=>exact .arw (h.2 nm n e ag rfl)
 |_=>exact .of rfl
theorem hget_hput (h:Heap)(k:Nat)(o:Obj)(j:Nat):hget (hput h k o) j=if j=k then some o else hget h j:=by
 induction h with
 |nil=>
  simp only[hput]
  rw[hget_cons]
  by_cases e:k=j
  ·subst e;simp
  ·rw[if_neg e,if_neg (Ne.symm e)]
 |cons p r ih=>
  obtain⟨q,x⟩:=p
  simp only[hput]
  cases hb:Nat.beq q k with
  |true=>
   have:=Nat.eq_of_beq_eq_true hb
   subst this
   simp only
   rw[hget_cons,hget_cons]
   by_cases e:q=j
   ·subst e;simp
   ·rw[if_neg e,if_neg e,if_neg (Ne.symm e)]
  |false=>
   simp only
   rw[hget_cons,hget_cons,ih]
   by_cases e:q=j
   ·subst e
    rw[if_pos rfl,if_pos rfl,if_neg]
    intro e2;subst e2;simp at hb
   ·rw[if_neg e,if_neg e]
theorem hget_puts (f:Nat→Nat): ∀(ns:List Nat) (obs:List Obj) (h:Heap),ns.Nodup→ns.length=obs.length→∀k,
 hget ((ns.zip obs).foldl (fun h (p:Nat×Obj)=>hput h p.1 {p.2 with cells:=p.2.cells.map (ren2 f)}) h) k=
  if k∈ns then(obs[ns.idxOf k]?).map (fun ob=>{ob with cells:=ob.cells.map (ren2 f)})else hget h k:=by
 intro ns
 induction ns with
 |nil=>intro obs h _ _ k;simp
 |cons n ns ih=>
  intro obs h hn hl k
  cases obs with
  |nil=>cases hl
  |cons ob obs=>
   obtain⟨n1,n2⟩:=List.nodup_cons.1 hn
   rw[List.zip_cons_cons,List.foldl_cons]
   rw[ih obs _ n2 (by simpa using hl) k,hget_hput]
   by_cases e:k=n
   ·subst e
    rw[if_neg n1,if_pos rfl,if_pos List.mem_cons_self]
    simp
   ·rw[if_neg e]
    by_cases hm:k∈ns
    ·rw[if_pos hm,if_pos (List.mem_cons_of_mem _ hm)]
     have:(n::ns).idxOf k=ns.idxOf k+1:=by
      rw[List.idxOf_cons,show(n==k)=false from by simpa using Ne.symm e];rfl
     rw[this];simp
    ·rw[if_neg hm,if_neg (fun h=>(List.mem_cons.1 h).elim e hm)]
section
variable {P:Program} {Γ:Glob} {N0:Base Γ} {w w':World} {F X:Cell→Prop} {β:Nat→Cell} {Ow:Key→Cell→Prop} {env env':Env} {h h':Heap} {v:Value} {a a':AV} {act:Act} {R:CallF} {o:Oper} {sl:Nat→Value}
def owIn (Ow:Key→Cell→Prop)(ns:List Nat):Key→Cell→Prop:=fun k c=>
 match k with
 | .obj i=> ∃hi:i<ns.length,Ow (.obj ns[i]) c
 | .cell i j=> ∃hi:i<ns.length,Ow (.cell ns[i] j) c
 |_=>False
def owOut (Ow Oc:Key→Cell→Prop)(ns:List Nat):Key→Cell→Prop:=fun k c=>
 match k with
 | .val=>False
 | .slot k=>Ow (.slot k) c
 | .obj nm=>if nm∈ns then Oc (.obj (ns.idxOf nm)) c else Ow (.obj nm) c
 | .cell nm j=>if nm∈ns then Oc (.cell (ns.idxOf nm) j) c else Ow (.cell nm j) c
theorem call_ref (hR:CallOK Γ P R)(g:GR N0 w F β Ow sl env h v a){f:Nat}{args:List AV}{vals:Array Value}{res:AV}{ns:List Nat}{base:Nat}{hin hout:List Obj}(hsz:vals.size=args.length)
 (hv: ∀i (h1:i<vals.size) (h2:i<args.length),VRel w (XX F Ow) β vals[i] args[i]∧OwnOk (fun _=>False) vals[i] args[i])
 (hns:reach h 64 (args.flatMap refs) []=some ns) (hhin:ns.mapM (fun o=>(hget h o).map fun ob=>{ob with cells:=ob.cells.map (ren2 (idx ns))})=some hin)
 (hr:R f (args.map (ren (idx ns))) hin=some (res,hout)) (hle:ns.length≤hout.length) (hfresh: ∀k∈(names ns base hout.length).drop ns.length,hget h k=none):
 Calls P f vals w fun e w'=> ∃v' Ow' β2,e= .returned v'∧(∀k,(hget h k).isSome=true→β2 k=β k)∧
  GR N0 w' F β2 Ow' sl env (puts h (names ns base hout.length) hout) v' (ren (fun i=>(names ns base hout.length).getD i 0) res)∧
  (ren (fun i=>(names ns base hout.length).getD i 0) res).notOwn=true∧Kp N0 w (XX F Ow) w' (XX F Ow')∧FF F w w':=by
 obtain⟨r1,r2,-,r4⟩:=reach_spec h 64 _ _ _ hns List.nodup_nil (by simp)
 obtain⟨m1,m2⟩:=mapM_get hhin
 have back: ∀o∈ns,ns.getD (ns.idxOf o) 0=o:=by
  intro o ho
  have:=List.idxOf_lt_length_iff.2 ho
  rw[List.getD_eq_getElem?_getD,zge this,Option.getD_some,List.getElem_idxOf]
 have backI: ∀i (hi:i<ns.length),ns.getD i 0=ns[i]:=fun i hi=>by rw[List.getD_eq_getElem?_getD,zge hi];rfl
 have idxI: ∀i (hi:i<ns.length),ns.idxOf ns[i]=i:=fun i hi=>r1.idxOf_getElem i hi
 have hinI: ∀i (h1:i<ns.length) (h2:i<hin.length),∃ob,hget h ns[i]=some ob∧hin[i]={ob with cells:=ob.cells.map (ren2 (idx ns))}:=by
  intro i h1 h2
  obtain⟨ob,e1,e2⟩:=Option.map_eq_some_iff.1 (m2 i h1 h2)
  exact⟨ob,e1,e2.symm⟩
 let βc:Nat→Cell:=fun i=>β (ns.getD i 0)
 let Oc:=owIn Ow ns
 let Fc:Cell→Prop:=fun c=>XX F Ow c∧¬∃k,Oc k c
 have OcOw: ∀k c,Oc k c→∃k',Ow k' c:=by
  intro k c hk
  cases k with
  |obj i=>obtain⟨_,hk⟩:=hk;exact⟨_,hk⟩
  |cell i j=>obtain⟨_,hk⟩:=hk;exact⟨_,hk⟩
  |_=>exact hk.elim
 have hX: ∀c,XX Fc Oc c↔XX F Ow c:=by
  intro c
  constructor
  ·rintro(hc|⟨k,hk⟩)
   ·exact hc.1
   ·exact .inr (OcOw k c hk)
  ·intro hc
   by_cases hk: ∃k,Oc k c
   ·exact .inr hk
   ·exact .inl ⟨hc,hk⟩
 have kpc:=(Kp.refl N0 w (XX F Ow)).shrink (X2:=XX Fc Oc) fun c hc=>(hX c).1 hc
 have reV: ∀{u:Value} {x:AV},VRel w (XX F Ow) β u x→(∀o∈refs x,o∈ns)→VRel w (XX Fc Oc) βc u (ren (idx ns) x):=fun hx hs=>
  (hx.mono kpc).re (idx ns) fun o ho=>by simp only[βc,idx];rw[back o (hs o ho)]
 have argsIn: ∀i (hi:i<args.length),∀o∈refs args[i],o∈ns:=fun i hi o ho=>r2 o (List.mem_flatMap.2 ⟨_,List.getElem_mem hi,ho⟩)
 have gc:GR N0 w Fc βc Oc (fun k=>vals.getD k undef) (enter (args.map (ren (idx ns))) hin).env (enter (args.map (ren (idx ns))) hin).heap undef .undef:={
  inv:={
   apart:=by
    intro k k' c h1 h2
    cases k<;>cases k'<;>first|exact h1.elim|exact h2.elim|skip
    case cell.cell i j i' j'=>
     obtain⟨q1,h1⟩:=h1
     obtain⟨q2,h2⟩:=h2
     have:=g.inv.apart _ _ _ h1 h2
     injection this with e1 e2
     subst e2
     have:i=i':=by rw[←idxI i q1,←idxI i' q2,e1]
     rw[this]
    case cell.obj i j i'=>
     obtain⟨q1,h1⟩:=h1
     obtain⟨q2,h2⟩:=h2
     have:=g.inv.apart _ _ _ h1 h2
     cases this
    case obj.cell i i' j'=>
     obtain⟨q1,h1⟩:=h1
     obtain⟨q2,h2⟩:=h2
     have:=g.inv.apart _ _ _ h1 h2
     cases this
    case obj.obj i i'=>
     obtain⟨q1,h1⟩:=h1
     obtain⟨q2,h2⟩:=h2
     have:=g.inv.apart _ _ _ h1 h2
     injection this with e1
     have:i=i':=by rw[←idxI i q1,←idxI i' q2,e1]
     rw[this]
   apartF:=fun k c hk hf=>hf.2 ⟨k,hk⟩
   live:=fun c hc=>g.inv.live c ((hX c).1 hc)
   low:=fun c hc=>g.inv.low c ((hX c).1 hc)
   base:=g.inv.base
   glob:=g.inv.glob}
  slot:=fun k=>by
   simp only[enter,get_enter]
   rcases Nat.lt_or_ge k args.length with hk|hk
   ·obtain⟨q1,q2⟩:=hv k (by omega) hk
    rw[List.getD_eq_getElem?_getD,zge (by simpa using hk),Array.getD_eq_getD_getElem?,Array.getElem?_eq_getElem (by omega)]
    simp only[Option.getD_some,List.getElem_map]
    exact⟨reV q1 (argsIn k hk),(q2.ren _).mono fun _ h=>h.elim⟩
   ·rw[List.getD_eq_getElem?_getD,List.getElem?_eq_none (by simpa using hk)]
    exact⟨.undef _,.of rfl⟩
  val:=⟨.undef _,.of rfl⟩
  obj:=fun i ob hob=>by
   simp only[enter,hget_enter]at hob
   have hi:i<hin.length:=by
    rcases Nat.lt_or_ge i hin.length with hh|hh
    ·exact hh
    ·rw[List.getElem?_eq_none hh]at hob;cases hob
   have hi2:i<ns.length:=by omega
   rw[zge hi]at hob
   injection hob with hob
   obtain⟨ob0,e1,e2⟩:=hinI i hi2 hi
   rw[e2]at hob
   subst hob
   have q:=g.obj _ ob0 e1
   obtain⟨ob0',e1',hcl⟩:=r4 _ (List.getElem_mem hi2)
   rw[e1]at e1'
   injection e1' with e1'
   subst e1'
   have hpl: ∀j,place βc i j=place β ns[i] j:=fun j=>by simp only[place,βc,backI i hi2]
   refine⟨fun j hj=> ?_,fun hw j hj=> ?_,fun hw j hj hx=> ?_⟩
   ·simp only[List.length_map]at hj
    obtain⟨c1,u,c2,c3,c4⟩:=q.cell j hj
    simp only[List.getElem_map]
    refine⟨by rw[ren2_isCell];exact c1,u,by rw[hpl];exact c2,?_,(c4.ren2 _).mono fun c hc=>⟨hi2,hc⟩⟩
    ·exact(c3.mono kpc).re2 (idx ns) (isCell_flat1 c1) fun o ho=>by simp only[βc,idx];rw[back o (hcl _ (List.getElem_mem hj) o ho)]
   ·simp only[List.length_map]at hj
    rw[hpl]
    exact⟨hi2,q.wr hw j hj⟩
   ·simp only[List.length_map]at hj
    rw[hpl]at hx
    exact q.rd hw j hj ((hX _).1 hx)
  refE:=fun k r hrr=>by
   simp only[enter,get_enter,hget_enter]at hrr ⊢
   rcases Nat.lt_or_ge k args.length with hk|hk
   ·rw[List.getD_eq_getElem?_getD,zge (by simpa using hk)]at hrr
    simp only[Option.getD_some,List.getElem_map,refs_ren,List.mem_map]at hrr
    obtain⟨o,ho,rfl⟩:=hrr
    have:=List.idxOf_lt_length_iff.2 (argsIn k hk o ho)
    simp only[idx]
    rw[zge (by omega)];rfl
   ·rw[List.getD_eq_getElem?_getD,List.getElem?_eq_none (by simpa using hk)]at hrr
    cases hrr
  refV:=by simp
  refH:=fun i ob hob c hc r hrr=>by
   simp only[enter,hget_enter]at hob ⊢
   have hi:i<hin.length:=by
    rcases Nat.lt_or_ge i hin.length with hh|hh
    ·exact hh
    ·rw[List.getElem?_eq_none hh]at hob;cases hob
   have hi2:i<ns.length:=by omega
   rw[zge hi]at hob
   injection hob with hob
   obtain⟨ob0,e1,e2⟩:=hinI i hi2 hi
   rw[e2]at hob
   subst hob
   obtain⟨ob0',e1',hcl⟩:=r4 _ (List.getElem_mem hi2)
   rw[e1]at e1'
   injection e1' with e1'
   subst e1'
   obtain⟨c0,hc0,rfl⟩:=List.mem_map.1 hc
   rw[refs2_ren]at hrr
   obtain⟨o,ho,rfl⟩:=List.mem_map.1 hrr
   have:=List.idxOf_lt_length_iff.2 (hcl c0 hc0 o ho)
   simp only[idx]
   rw[zge (by omega)];rfl}
 obtain⟨-,-,hcall⟩:=hR f _ hin res hout hr
 refine(hcall N0 w Fc βc Oc vals gc (by simpa using hsz)).mono ?_
 rintro e w' ⟨v',O2,β',rfl,hβ',gr,hno,kc,ffc⟩
 generalize hns2:names ns base hout.length=ns2 at hfresh ⊢
 have n2split:ns2=ns++(List.range (hout.length-ns.length)).map (base+ ·):=hns2.symm
 have n2drop:ns2.drop ns.length=(List.range (hout.length-ns.length)).map (base+ ·):=by rw[n2split,List.drop_left]
 rw[n2drop]at hfresh
 have hlo:ns2.length=hout.length:=by rw[n2split];simp;omega
 have hnsome: ∀o∈ns,(hget h o).isSome=true:=fun o ho=>by obtain⟨ob,e1,-⟩:=r4 o ho;rw[e1];rfl
 have n2nd:ns2.Nodup:=by
  rw[n2split,List.nodup_append]
  refine⟨r1,?_,fun a ha b hb e=> ?_⟩
  ·rw[List.nodup_iff_pairwise_ne,List.pairwise_map]
   exact List.nodup_range.imp fun h e=>h (by omega)
  ·subst e
   have h1:=hnsome _ ha
   rw[hfresh _ hb]at h1
   cases h1
 have sub2: ∀o,o∈ns→o∈ns2:=fun o ho=>by rw[n2split];exact List.mem_append_left _ ho
 have old2: ∀o∈ns2,(hget h o).isSome=true→o∈ns:=fun o ho hs=>by
  rw[n2split]at ho
  rcases List.mem_append.1 ho with h1|h1
  ·exact h1
  ·rw[hfresh _ h1]at hs;cases hs
 have idx2: ∀o∈ns,ns2.idxOf o=ns.idxOf o:=fun o ho=>by rw[n2split,List.idxOf_append,if_pos ho]
 have back2: ∀o∈ns2,ns2.getD (ns2.idxOf o) 0=o:=by
  intro o ho
  have:=List.idxOf_lt_length_iff.2 ho
  rw[List.getD_eq_getElem?_getD,zge this,Option.getD_some,List.getElem_idxOf]
 have backI2: ∀i (hi:i<ns2.length),ns2.getD i 0=ns2[i]:=fun i hi=>by rw[List.getD_eq_getElem?_getD,zge hi];rfl
 have idxI2: ∀i (hi:i<ns2.length),ns2.idxOf ns2[i]=i:=fun i hi=>n2nd.idxOf_getElem i hi
 let β2:Nat→Cell:=fun nm=>if nm∈ns2 then β' (ns2.idxOf nm)else β nm
 have hβ2: ∀k,(hget h k).isSome=true→β2 k=β k:=by
  intro k hk
  simp only[β2]
  split
  ·rename_i hm
   have hm':=old2 k hm hk
   have hi:=List.idxOf_lt_length_iff.2 hm'
   rw[idx2 k hm',hβ' _ (by omega)]
   simp only[βc]
   rw[back k hm']
  ·rfl
 have reB: ∀o,o<ns2.length→β2 (ns2.getD o 0)=β' o:=by
  intro o ho
  rw[backI2 o ho]
  simp only[β2]
  rw[if_pos (List.getElem_mem ho),idxI2 o ho]
 have lt_of: ∀r,(hget (hout.zipIdx.map fun p=>(p.2,p.1)) r).isSome=true→r<ns2.length:=by
  intro r hrr
  rw[hget_enter]at hrr
  rcases Nat.lt_or_ge r hout.length with hh|hh
  ·omega
  ·rw[List.getElem?_eq_none hh]at hrr;cases hrr
 let Ow':=owOut Ow O2 ns2
 have keepF: ∀k c,Ow k c→(∀i (hi:i<ns.length),k≠.obj ns[i]∧∀j,k≠.cell ns[i] j)→Fc c:=by
  intro k c hk hn
  refine⟨.inr ⟨k,hk⟩,?_⟩
  rintro⟨k',hk'⟩
  cases k' with
  |obj i=>obtain⟨hi,hk'⟩:=hk';exact(hn i hi).1 (g.inv.apart _ _ _ hk hk')
  |cell i j=>obtain⟨hi,hk'⟩:=hk';exact(hn i hi).2 j (g.inv.apart _ _ _ hk hk')
  |_=>exact hk'.elim
 have nObj: ∀nm,nm∉ns2→∀i (hi:i<ns.length),Key.obj nm≠.obj ns[i]∧∀j,Key.obj nm≠.cell ns[i] j:=fun nm hm i hi=>
  ⟨fun e=>by injection e with e;exact hm (sub2 _ (e▸List.getElem_mem hi)),fun j=>by simp⟩
 have nCell: ∀nm j,nm∉ns2→∀i (hi:i<ns.length),Key.cell nm j≠.obj ns[i]∧∀j',Key.cell nm j≠.cell ns[i] j':=fun nm j hm i hi=>
  ⟨by simp,fun j' e=>by injection e with e;exact hm (sub2 _ (e▸List.getElem_mem hi))⟩
 have nSlot: ∀k,∀i (hi:i<ns.length),Key.slot k≠.obj ns[i]∧∀j',Key.slot k≠.cell ns[i] j':=fun k i hi=>⟨by simp,fun j=>by simp⟩
 have FFc: ∀c,F c→Fc c:=by
  intro c hc
  refine⟨.inl hc,?_⟩
  rintro⟨k,hk⟩
  obtain⟨k',hk'⟩:=OcOw k c hk
  exact g.inv.apartF _ _ hk' hc
 have old: ∀k c,Ow' k c→(∃k2,O2 k2 c)∨(Fc c∧Ow k c):=by
  intro k c hk
  cases k with
  |val=>exact hk.elim
  |slot j=>exact .inr ⟨keepF _ _ hk (nSlot j),hk⟩
  |obj nm=>
   simp only[Ow',owOut]at hk
   split at hk
   ·exact .inl ⟨_,hk⟩
   ·rename_i hnm
    exact .inr ⟨keepF _ _ hk (nObj nm hnm),hk⟩
  |cell nm j=>
   simp only[Ow',owOut]at hk
   split at hk
   ·exact .inl ⟨_,hk⟩
   ·rename_i hnm
    exact .inr ⟨keepF _ _ hk (nCell nm j hnm),hk⟩
 have hX': ∀c,XX F Ow' c→XX Fc O2 c:=by
  rintro c (hc|⟨k,hk⟩)
  ·exact .inl (FFc c hc)
  ·rcases old k c hk with h1|h1
   ·exact .inr h1
   ·exact .inl h1.1
 have kp:Kp N0 w (XX F Ow) w' (XX F Ow'):=⟨kc.os,kc.tape,kc.output,kc.size,kc.fz,kc.blk,fun c u hu hx=>by
  obtain⟨h1,h2⟩:=kc.keep c u hu (fun hf=>hx ((hX c).1 hf))
  exact⟨h1,fun hf=>h2 (hX' c hf)⟩⟩
 have kp2:Kp N0 w' (XX Fc O2) w' (XX F Ow'):=(Kp.refl N0 w' _).shrink hX'
 have hgp: ∀k,hget (puts h ns2 hout) k=if k∈ns2 then(hout[ns2.idxOf k]?).map (fun ob=>{ob with cells:=ob.cells.map (ren2 fun i=>ns2.getD i 0)})else hget h k:=
  hget_puts (fun i=>ns2.getD i 0) ns2 hout h n2nd hlo
 have hsome: ∀o,(hget h o).isSome=true→(hget (puts h ns2 hout) o).isSome=true:=by
  intro o ho
  rw[hgp]
  split
  ·rename_i hm
   have:=List.idxOf_lt_length_iff.2 hm
   rw[zge (by omega)];rfl
  ·exact ho
 have backSome: ∀r,(hget (hout.zipIdx.map fun p=>(p.2,p.1)) r).isSome=true→(hget (puts h ns2 hout) (ns2.getD r 0)).isSome=true:=by
  intro r hrr
  have hi:=lt_of r hrr
  rw[backI2 r hi,hgp,if_pos (List.getElem_mem hi),idxI2 r hi,zge (by omega)];rfl
 have ff:FF F w w':=fun c hc=>ffc c (FFc c hc)
 refine⟨v',Ow',β2,rfl,hβ2,?_,by rw[ren_notOwn];exact hno,kp,ff⟩
 have hplO: ∀nm,nm∈ns2→∀j,place β' (ns2.idxOf nm) j=place β2 nm j:=fun nm hm j=>by simp only[place,β2,if_pos hm]
 have hplN: ∀nm,nm∉ns2→∀j,place β2 nm j=place β nm j:=fun nm hm j=>by simp only[place,β2,if_neg hm]
 exact{
  inv:={
   apart:=by
    intro k k' c h1 h2
    have mix: ∀k2,O2 k2 c→Fc c→False:=fun k2 h3 h4=>gr.inv.apartF _ _ h3 h4
    have same: ∀nm nm',nm∈ns2→nm'∈ns2→ns2.idxOf nm=ns2.idxOf nm'→nm=nm':=fun nm nm' q1 q2 e1=>by rw[←back2 nm q1,←back2 nm' q2,e1]
    cases k<;>cases k'<;>first|exact h1.elim|exact h2.elim|skip
    all_goals simp only[Ow',owOut]at h1 h2
    case slot.slot=>exact g.inv.apart _ _ _ h1 h2
    case slot.cell i nm j=>
     split at h2
     ·exact(mix _ h2 (keepF _ _ h1 (nSlot i))).elim
     ·exact g.inv.apart _ _ _ h1 h2
    case slot.obj i nm=>
     split at h2
     ·exact(mix _ h2 (keepF _ _ h1 (nSlot i))).elim
     ·exact g.inv.apart _ _ _ h1 h2
    case cell.slot nm j i=>
     split at h1
     ·exact(mix _ h1 (keepF _ _ h2 (nSlot i))).elim
     ·exact g.inv.apart _ _ _ h1 h2
    case obj.slot nm i=>
     split at h1
     ·exact(mix _ h1 (keepF _ _ h2 (nSlot i))).elim
     ·exact g.inv.apart _ _ _ h1 h2
    case cell.cell nm j nm' j'=>
     split at h1<;>split at h2
     ·rename_i q1 q2
      have:=gr.inv.apart _ _ _ h1 h2
      injection this with e1 e2
      rw[same nm nm' q1 q2 e1,e2]
     ·rename_i q1 q2
      exact(mix _ h1 (keepF _ _ h2 (nCell nm' j' q2))).elim
     ·rename_i q1 q2
      exact(mix _ h2 (keepF _ _ h1 (nCell nm j q1))).elim
     ·exact g.inv.apart _ _ _ h1 h2
    case cell.obj nm j nm'=>
     split at h1<;>split at h2
     ·have:=gr.inv.apart _ _ _ h1 h2
      cases this
     ·rename_i q1 q2
      exact(mix _ h1 (keepF _ _ h2 (nObj nm' q2))).elim
     ·rename_i q1 q2
      exact(mix _ h2 (keepF _ _ h1 (nCell nm j q1))).elim
     ·exact g.inv.apart _ _ _ h1 h2
    case obj.cell nm nm' j'=>
     split at h1<;>split at h2
     ·have:=gr.inv.apart _ _ _ h1 h2
      cases this
     ·rename_i q1 q2
      exact(mix _ h1 (keepF _ _ h2 (nCell nm' j' q2))).elim
     ·rename_i q1 q2
      exact(mix _ h2 (keepF _ _ h1 (nObj nm q1))).elim
     ·exact g.inv.apart _ _ _ h1 h2
    case obj.obj nm nm'=>
     split at h1<;>split at h2
     ·rename_i q1 q2
      have:=gr.inv.apart _ _ _ h1 h2
      injection this with e1
      rw[same nm nm' q1 q2 e1]
     ·rename_i q1 q2
      exact(mix _ h1 (keepF _ _ h2 (nObj nm' q2))).elim
     ·rename_i q1 q2
      exact(mix _ h2 (keepF _ _ h1 (nObj nm q1))).elim
     ·exact g.inv.apart _ _ _ h1 h2
   apartF:=by
    intro k c hk hf
    rcases old k c hk with⟨k2,h1⟩|⟨-,h1⟩
    ·exact gr.inv.apartF _ _ h1 (FFc c hf)
    ·exact g.inv.apartF _ _ h1 hf
   live:=fun c hc=>gr.inv.live c (hX' c hc)
   low:=fun c hc=>gr.inv.low c (hX' c hc)
   base:=gr.inv.base
   glob:=gr.inv.glob}
  slot:=fun k=>⟨((g.slot k).1.mono kp).base fun o ho=>hβ2 o (g.refE k o ho),(g.slot k).2⟩
  val:=⟨(gr.val.1.mono kp2).re _ fun o ho=>reB o (lt_of o (gr.refV o ho)),.of (by rw[ren_notOwn];exact hno)⟩
  obj:=fun nm ob hob=>by
   rw[hgp]at hob
   split at hob
   ·rename_i hm
    have hil:=List.idxOf_lt_length_iff.2 hm
    rw[zge (by omega)]at hob
    simp only[Option.map_some,zsi]at hob
    have hq:=show hget (hout.zipIdx.map fun p=>(p.2,p.1)) (ns2.idxOf nm)=some hout[ns2.idxOf nm] by rw[hget_enter,zge (by omega)]
    have q:=gr.obj (ns2.idxOf nm) hout[ns2.idxOf nm] hq
    subst hob
    refine⟨fun j hj=> ?_,fun hw j hj=> ?_,fun hw j hj hx=> ?_⟩
    ·simp only[List.length_map]at hj
     obtain⟨c1,u,c2,c3,c4⟩:=q.cell j hj
     simp only[List.getElem_map]
     refine⟨by rw[ren2_isCell];exact c1,u,by rw[←hplO nm hm];exact c2,(c3.mono kp2).re2 _ (isCell_flat1 c1) fun o ho=>reB o (lt_of o (gr.refH _ _ hq _ (List.getElem_mem hj) o ho)),(c4.ren2 _).mono fun c hc=> ?_⟩
     simp only[Ow',owOut,if_pos hm]
     exact hc
    ·simp only[List.length_map]at hj
     simp only[Ow',owOut,if_pos hm]
     rw[←hplO nm hm]
     exact q.wr hw j hj
    ·simp only[List.length_map]at hj
     rw[←hplO nm hm]at hx
     exact q.rd hw j hj (hX' _ hx)
   ·rename_i hm
    have q:=g.obj nm ob hob
    refine⟨fun j hj=> ?_,fun hw j hj=>by rw[hplN nm hm];simp only[Ow',owOut,if_neg hm];exact q.wr hw j hj,fun hw j hj hx=> ?_⟩
    ·obtain⟨c1,u,c2,c3,c4⟩:=q.cell j hj
     refine⟨c1,u,?_,(c3.mono kp).base fun o ho=>hβ2 o (g.refH nm ob hob _ (List.getElem_mem hj) o ?_),c4.mono fun c hc=>by simp only[Ow',owOut,if_neg hm];exact hc⟩
     ·rw[hplN nm hm]
      cases hw:ob.wr with
      |true=>rw[(ffc _ (keepF _ _ (q.wr hw j hj) (nObj nm hm))).1];exact c2
      |false=>exact(kp.keep _ _ c2 (q.rd hw j hj)).1
     ·revert ho c1
      generalize ob.cells[j]=z
      intro c1 ho
      cases z<;>first|exact ho|cases c1
    ·rw[hplN nm hm]at hx
     obtain⟨c1,u,c2,-⟩:=q.cell j hj
     exact(kp.keep _ _ c2 (q.rd hw j hj)).2 hx
  refE:=fun k r hrr=>hsome r (g.refE k r hrr)
  refV:=fun r hrr=>by
   rw[refs_ren]at hrr
   obtain⟨o,ho,rfl⟩:=List.mem_map.1 hrr
   exact backSome o (gr.refV o ho)
  refH:=fun nm ob hob c hc r hrr=>by
   rw[hgp]at hob
   split at hob
   ·rename_i hm
    have hil:=List.idxOf_lt_length_iff.2 hm
    rw[zge (by omega)]at hob
    simp only[Option.map_some,zsi]at hob
    subst hob
    obtain⟨c0,hc0,rfl⟩:=List.mem_map.1 hc
    rw[refs2_ren]at hrr
    obtain⟨o,ho,rfl⟩:=List.mem_map.1 hrr
    exact backSome o (gr.refH (ns2.idxOf nm) hout[ns2.idxOf nm] (by rw[hget_enter,zge (by omega)]) c0 hc0 o ho)
   ·exact hsome r (g.refH nm ob hob c hc r hrr)}
end
def okCall (o:Oper)(m:MOp):Bool:=
 match m with
 | .call f _ ys=>match o.op with| .call {callee:=.value (.func f'),args:=xs,argTypes:=_}=>f'==f&&okTs xs.toList ys|_=>false
 | .callv y _ ys=>match o.op with| .call {callee:=.value x,args:=xs,argTypes:=_}=>okT x y&&okTs xs.toList ys|_=>false
 | .callk f _ ys _=>match o.op with| .call {callee:=.value (.func f'),args:=xs,argTypes:=_}=>f'==f&&okTs xs.toList ys|_=>false
 |_=>false
section
variable {P:Program} {Γ:Glob} {N0:Base Γ} {w w':World} {F X:Cell→Prop} {β:Nat→Cell} {Ow:Key→Cell→Prop} {env env':Env} {h h':Heap} {v:Value} {a a':AV} {act:Act} {R:CallF} {o:Oper} {sl:Nat→Value}
theorem okTs_spec : ∀(xs:List Operand) (ys:List Opd),okTs xs ys=true→xs.length=ys.length∧∀i (h1:i<xs.length) (h2:i<ys.length),okT xs[i] ys[i]=true:=by
 intro xs
 induction xs with
 |nil=>intro ys h;cases ys with
  |nil=>exact⟨rfl,fun i h1=>absurd h1 (by simp)⟩
  |cons=>cases h
 |cons x r ih=>
  intro ys h
  cases ys with
  |nil=>cases h
  |cons y s=>
   simp only[okTs,zba]at h
   obtain⟨i1,i2⟩:=ih s h.2
   refine⟨by simp[i1],fun i h1 h2=> ?_⟩
   cases i with
   |zero=>exact h.1
   |succ i=>exact i2 i (by simpa using h1) (by simpa using h2)
theorem okT_plain {x:Operand}{y:Opd}(h:okT x y=true):y.plain=true:=by
 unfold okT at h
 split at h<;>first|rfl|cases h
theorem okTs_plain {xs:List Operand}{ys:List Opd}(h:okTs xs ys=true): ∀y∈ys,y.plain=true:=by
 intro y hy
 obtain⟨l,q⟩:=okTs_spec xs ys h
 obtain⟨i,hi,rfl⟩:=List.getElem_of_mem hy
 exact okT_plain (q i (by omega) hi)
theorem tree_nil {a b:AV}(h:Heap)(ht:tree [] a=some b):tree h a=some b∧arrs a=[]:=by
 have one: ∀{x y:AV},tcell [] x=some y→tcell h x=some y∧arrOf x=[]:=by
  intro x y hx
  cases x with
  |arr o off len e ag=>simp[tcell,hget]at hx
  |arw o len e ag=>simp[tcell]at hx
  |_=>exact⟨hx,rfl⟩
 have many: ∀{xs ys:List AV},tcells [] xs=some ys→tcells h xs=some ys∧xs.flatMap arrOf=[]:=by
  intro xs
  induction xs with
  |nil=>intro ys hx;exact⟨hx,rfl⟩
  |cons x r ih=>
   intro ys hx
   simp only[tcells]at hx
   obtain⟨y,hy,hx⟩:=zbi hx
   obtain⟨s,hs,hx⟩:=zbi hx
   obtain⟨o1,o2⟩:=one hy
   obtain⟨i1,i2⟩:=ih hs
   refine⟨by simp only[tcells,o1,i1,zbs];exact hx,by rw[List.flatMap_cons,o2,i2];rfl⟩
 cases a with
 |agg cs=>
  simp only[tree]at ht ⊢
  obtain⟨ys,hy,rfl⟩:=Option.map_eq_some_iff.1 ht
  obtain⟨m1,m2⟩:=many hy
  exact⟨by rw[m1];rfl,m2⟩
 |_=>simp only[tree,arrs]at ht ⊢;exact one ht
theorem mapM_of_get {α β:Type}{f:α→Option β}: ∀{l:List α} {r:List β},l.length=r.length→(∀i (h1:i<l.length) (h2:i<r.length),f l[i]=some r[i])→l.mapM f=some r:=by
 intro l
 induction l with
 |nil=>intro r hl _;cases r with
  |nil=>rfl
  |cons=>cases hl
 |cons x l ih=>
  intro r hl hg
  cases r with
  |nil=>cases hl
  |cons y s=>
   rw[List.mapM_cons]
   have h0:=hg 0 (by simp) (by simp)
   simp only[List.getElem_cons_zero]at h0
   rw[h0,Option.bind_eq_bind,zbs,ih (by simpa using hl) fun i h1 h2=>by have:=hg (i+1) (by simpa using h1) (by simpa using h2);simpa using this]
   rfl
def Enters (P:Program)(f:FuncId):Prop:= ∃fn,P.funcs[f]? =some fn∧(fn.name== "runtime.NumGoroutine")=false∧fn.body.isNone=false
theorem run_call {cf:Operand}{xs:Array Operand}{ts:Array TypeId}{f:FuncId}{caps:Array Value}(hop:o.op= .call {callee:=.value cf,args:=xs,argTypes:=ts})(hf:act.eval cf= .func (.func f) #[] caps)(he:Enters P f):
 (execOp act.eval o).run P w= .ok (.enter f (xs.map act.eval++caps)) w:=by
 obtain⟨fn,h1,h2,h3⟩:=he
 have h2':fn.name≠ "runtime.NumGoroutine" :=by simpa using h2
 have h3':fn.body≠none:=by intro e;rw[e]at h3;cases h3
 simp[execOp,hop,resolve,hf,Deferred.ofValue,invoke,callFunc,h1,h2',h3']
theorem fnArgs_ptr {cap as:List AV}(h: ∀a∈cap,a.isPtr=true):fnArgs cap as=as++cap:=by
 unfold fnArgs
 split
 ·rename_i bs
  have:=h (.tup bs) (by simp)
  cases this
 ·rfl
theorem run_callB {cf:Operand}{xs:Array Operand}{ts:Array TypeId}{f:FuncId}{first caps:Array Value}(hop:o.op= .call {callee:=.value cf,args:=xs,argTypes:=ts})(hf:act.eval cf= .func (.func f) first caps)(he:Enters P f):
 (execOp act.eval o).run P w= .ok (.enter f (first++xs.map act.eval++caps)) w:=by
 obtain⟨fn,h1,h2,h3⟩:=he
 have h2':fn.name≠ "runtime.NumGoroutine" :=by simpa using h2
 have h3':fn.body≠none:=by intro e;rw[e]at h3;cases h3
 simp[execOp,hop,resolve,hf,Deferred.ofValue,invoke,callFunc,h1,h2',h3']
theorem freeze_no (h:Heap):freeze h []=h:=by
 induction h with
 |nil=>rfl
 |cons p r ih=>obtain⟨j,o⟩:=p;simp[freeze,ih]
theorem callR_ok (hR:CallOK Γ P R)(g:GR N0 w F β Ow sl env h v a){f:Nat}{md:CArg}{args:List AV}{vals:Array Value}{res:AV}(hsz:vals.size=args.length)
 (hv: ∀i (h1:i<vals.size) (h2:i<args.length),VRel w (XX F Ow) β vals[i] args[i]∧OwnOk (fun _=>False) vals[i] args[i]) (hc:callR R h f md args=some (res,h')):
 Enters P f∧Calls P f vals w fun e w'=> ∃v' Ow' β2,e= .returned v'∧(∀k,(hget h k).isSome=true→β2 k=β k)∧GR N0 w' F β2 Ow' sl env h' v' res∧Kp N0 w (XX F Ow) w' (XX F Ow')∧FF F w w':=by
 cases md with
 |data=>
  simp only[callR,Option.bind_eq_bind,Option.pure_def]at hc
  obtain⟨as,h1,hc⟩:=zbi hc
  obtain⟨⟨r,ho⟩,h2,hc⟩:=zbi hc
  obtain⟨r',hb,hc⟩:=zbi hc
  simp only[zsi,zpi]at hc
  obtain⟨rfl,rfl⟩:=hc
  refine⟨(hR _ _ _ _ _ h2).2.1,?_⟩
  obtain⟨m1,m2⟩:=mapM_get h1
  have ht:args.mapM (tree h)=some as:=mapM_of_get m1 fun i h3 h4=>(tree_nil h (m2 i h3 h4)).1
  have hn:args.flatMap arrs=[]:=by
   rw[List.flatMap_eq_nil_iff]
   intro x hx
   obtain⟨i,hi,rfl⟩:=List.getElem_of_mem hx
   exact(tree_nil h (m2 i hi (by omega))).2
  refine(call_tree hR g hsz (fun i h3 h4=>(hv i h3 h4).1) ht h2 hb).mono ?_
  rintro e w' ⟨v',Ow',rfl,g',-,k,ff⟩
  refine⟨v',Ow',β,rfl,fun _ _=>rfl,?_,k,ff⟩
  rw[hn,freeze_no,ite_self]at g'
  exact g'
 |tree=>
  simp only[callR,Option.bind_eq_bind,Option.pure_def]at hc
  obtain⟨as,h1,hc⟩:=zbi hc
  obtain⟨⟨r,ho⟩,h2,hc⟩:=zbi hc
  obtain⟨r',hb,hc⟩:=zbi hc
  simp only[zsi,zpi]at hc
  obtain⟨rfl,rfl⟩:=hc
  refine⟨(hR _ _ _ _ _ h2).2.1,?_⟩
  refine(call_tree hR g hsz (fun i h3 h4=>(hv i h3 h4).1) h1 h2 hb).mono ?_
  rintro e w' ⟨v',Ow',rfl,g',-,k,ff⟩
  exact⟨v',Ow',β,rfl,fun _ _=>rfl,g',k,ff⟩
 |ref base=>
  simp only[callR,Option.bind_eq_bind,Option.pure_def]at hc
  obtain⟨ns,h1,hc⟩:=zbi hc
  obtain⟨hin,h2,hc⟩:=zbi hc
  obtain⟨⟨r,hout⟩,h3,hc⟩:=zbi hc
  simp only at hc
  split at hc
  ·rename_i hcond
   simp only[zba,Nat.ble_eq,List.all_eq_true,Option.isNone_iff_eq_none]at hcond
   simp only[zsi,zpi]at hc
   obtain⟨rfl,rfl⟩:=hc
   refine⟨(hR _ _ _ _ _ h3).2.1,?_⟩
   refine(call_ref hR g hsz hv h1 h2 h3 hcond.1 hcond.2).mono ?_
   rintro e w' ⟨v',Ow',β2,rfl,hb,g',-,k,ff⟩
   exact⟨v',Ow',β2,rfl,hb,g',k,ff⟩
  ·cases hc
theorem snd_call (hR:CallOK Γ P R)(g:GR N0 w F β Ow (slots act) env h v a){m:MOp}(hk:okCall o m=true)(ho:opv R env h m=some (a',env',h')):
 ∃f vals,(execOp act.eval o).run P w= .ok (.enter f vals) w∧Calls P f vals w fun e w'=> ∃v' Ow' β2,e= .returned v'∧(∀k,(hget h k).isSome=true→β2 k=β k)∧GR N0 w' F β2 Ow' (slots act) env' h' v' a'∧Kp N0 w (XX F Ow) w' (XX F Ow')∧FF F w w':=by
 have rel: ∀(xs:Array Operand) (ys:List Opd),okTs xs.toList ys=true→(xs.map act.eval).size=(ys.map (evo env)).length∧
  ∀i (h1:i<(xs.map act.eval).size) (h2:i<(ys.map (evo env)).length),VRel w (XX F Ow) β (xs.map act.eval)[i] (ys.map (evo env))[i]∧OwnOk (fun _=>False) (xs.map act.eval)[i] (ys.map (evo env))[i]:=by
  intro xs ys hok
  obtain⟨l,q⟩:=okTs_spec _ _ hok
  refine⟨by simpa using l,fun i h1 h2=> ?_⟩
  have h1':i<xs.size:=by simpa using h1
  have h2':i<ys.length:=by simpa using h2
  have:=g.opT (q i (by simpa using h1') h2')
  simp only[Array.getElem_map,List.getElem_map]
  rw[Array.getElem_toList]at this
  exact⟨this.1,this.2.1⟩
 cases m<;>(try(cases hk;done))
 case call f md ys=>
  simp only[okCall]at hk
  split at hk
  ·rename_i f' xs ts hop
   simp only[zba,beq_iff_eq]at hk
   obtain⟨rfl,hok⟩:=hk
   obtain⟨e1,e2⟩:=plain_args (okTs_plain hok) env
   simp only[opv,e1,e2]at ho
   obtain⟨⟨r,h1⟩,hc,hp⟩:=Option.map_eq_some_iff.1 ho
   simp only[zpi]at hp
   obtain⟨rfl,rfl,rfl⟩:=hp
   obtain⟨r1,r2⟩:=rel xs ys hok
   obtain⟨c1,c2⟩:=callR_ok hR g r1 r2 hc
   refine⟨f',xs.map act.eval,?_,c2⟩
   have:=run_call (P:=P) (w:=w) (caps:= #[]) hop (act:=act) rfl c1
   simpa using this
  ·cases hk
 case callk f base ys ks=>
  have ho:=opv_callk ho
  simp only[okCall]at hk
  split at hk
  ·rename_i f' xs ts hop
   simp only[zba,beq_iff_eq]at hk
   obtain⟨rfl,hok⟩:=hk
   obtain⟨e1,e2⟩:=plain_args (okTs_plain hok) env
   simp only[opv,e1,e2]at ho
   obtain⟨⟨r,h1⟩,hc,hp⟩:=Option.map_eq_some_iff.1 ho
   simp only[zpi]at hp
   obtain⟨rfl,rfl,rfl⟩:=hp
   obtain⟨r1,r2⟩:=rel xs ys hok
   obtain⟨c1,c2⟩:=callR_ok hR g r1 r2 hc
   refine⟨f',xs.map act.eval,?_,c2⟩
   have:=run_call (P:=P) (w:=w) (caps:= #[]) hop (act:=act) rfl c1
   simpa using this
  ·cases hk
 case callv y md ys=>
  simp only[okCall]at hk
  split at hk
  ·rename_i x xs ts hop
   simp only[zba]at hk
   obtain⟨hx,hok⟩:=hk
   obtain⟨e1,e2⟩:=plain_args (okTs_plain hok) env
   obtain⟨q1,-,-⟩:=g.opT hx
   simp only[opv,e1,e2]at ho
   split at ho
   ·rename_i f cap hfn
    rw[hfn]at q1
    obtain⟨⟨r,h1⟩,hc,hp⟩:=Option.map_eq_some_iff.1 ho
    simp only[zpi]at hp
    obtain⟨rfl,rfl,rfl⟩:=hp
    obtain⟨r1,r2⟩:=rel xs ys hok
    cases hvx:act.eval x with
    |func fn first cs=>
     rw[hvx]at q1
     cases q1 with
     |fn f cs as hl hf hv=>
      rw[fnArgs_ptr hf]at hc
      have hsz:(xs.map act.eval++cs).size=(ys.map (evo env)++cap).length:=by rw[Array.size_append,List.length_append,r1,hl]
      obtain⟨c1,c2⟩:=callR_ok hR g hsz (fun i h1 h2=>by
       rcases Nat.lt_or_ge i (xs.map act.eval).size with hi|hi
       ·rw[Array.getElem_append_left hi,List.getElem_append_left (by rw[←r1];exact hi)]
        exact r2 i hi (by rw[←r1];exact hi)
       ·rw[Array.getElem_append_right hi,List.getElem_append_right (by rw[←r1];exact hi)]
        have hj:i-(xs.map act.eval).size<cs.size:=by rw[Array.size_append]at h1;omega
        have:=hv _ hj
        have hm:cap[i-(xs.map act.eval).size]'(by omega)∈cap:=List.getElem_mem _
        have hp:=hf _ hm
        simp only[←r1]
        refine⟨this,.of ?_⟩
        revert hp
        generalize cap[i-(xs.map act.eval).size]'(by omega)=c
        intro hp
        cases c<;>first|rfl|cases hp) hc
      exact⟨f,xs.map act.eval++cs,run_call (P:=P) (w:=w) hop hvx c1,c2⟩
     |fnB f bs as hl hd hv=>
      have hsz:(first++xs.map act.eval).size=(as++ys.map (evo env)).length:=by rw[Array.size_append,List.length_append,r1,hl]
      obtain⟨c1,c2⟩:=callR_ok hR g hsz (fun i h1 h2=>by
       rcases Nat.lt_or_ge i first.size with hi|hi
       ·rw[Array.getElem_append_left hi,List.getElem_append_left (by rw[←hl];exact hi)]
        exact⟨hv i hi,.of (delem_notOwn (hd _ (List.getElem_mem _)))⟩
       ·rw[Array.getElem_append_right hi,List.getElem_append_right (by rw[←hl];exact hi)]
        have:=r2 (i-first.size) (by rw[Array.size_append]at h1;omega) (by rw[List.length_append]at h2;omega)
        simp only[←hl]
        exact this) hc
      refine⟨f,first++xs.map act.eval,?_,c2⟩
      have:=run_callB (P:=P) (w:=w) (caps:= #[]) hop hvx c1
      simpa using this
    |_=>rw[hvx]at q1;cases q1
   ·cases ho
  ·cases hk
end
theorem hset_some (h:Heap)(o:Nat)(ob:Obj)(k:Nat):(hget (hset h o ob) k).isSome=(hget h k).isSome:=by
 induction h with
 |nil=>rfl
 |cons p r ih=>
  obtain⟨j,x⟩:=p
  simp only[hset]
  cases hb:Nat.beq j o with
  |true=>
   simp only[hget]
   cases Nat.beq j k<;>rfl
  |false=>
   simp only[hget]
   cases Nat.beq j k
   ·exact ih
   ·rfl
theorem freeze_some (h:Heap)(ns:List Nat)(k:Nat):(hget (freeze h ns) k).isSome=(hget h k).isSome:=by
 rw[hget_freeze];cases hget h k<;>rfl
theorem puts_some (f:Nat→Nat): ∀(l:List (Nat×Obj)) (h:Heap) (k:Nat),(hget h k).isSome=true→(hget (l.foldl (fun h (p:Nat×Obj)=>hput h p.1 {p.2 with cells:=p.2.cells.map (ren2 f)}) h) k).isSome=true:=by
 intro l
 induction l with
 |nil=>intro h k hs;exact hs
 |cons p l ih=>
  intro h k hs
  rw[List.foldl_cons]
  refine ih _ _ ?_
  rw[hget_hput]
  split
  ·rfl
  ·exact hs
theorem callR_dom {R:CallF}{h h':Heap}{f:Nat}{md:CArg}{args:List AV}{r:AV}(hc:callR R h f md args=some (r,h'))(k:Nat)(hs:(hget h k).isSome=true):(hget h' k).isSome=true:=by
 cases md with
 |data=>
  simp only[callR,Option.bind_eq_bind,Option.pure_def]at hc
  obtain⟨as,h1,hc⟩:=zbi hc
  obtain⟨⟨r,ho⟩,h2,hc⟩:=zbi hc
  obtain⟨r',hb,hc⟩:=zbi hc
  simp only[zsi,zpi]at hc
  rw[←hc.2];exact hs
 |tree=>
  simp only[callR,Option.bind_eq_bind,Option.pure_def]at hc
  obtain⟨as,h1,hc⟩:=zbi hc
  obtain⟨⟨r,ho⟩,h2,hc⟩:=zbi hc
  obtain⟨r',hb,hc⟩:=zbi hc
  simp only[zsi,zpi]at hc
  rw[←hc.2]
  split
  ·rw[freeze_some];exact hs
  ·exact hs
 |ref base=>
  simp only[callR,Option.bind_eq_bind,Option.pure_def]at hc
  obtain⟨ns,h1,hc⟩:=zbi hc
  obtain⟨hin,h2,hc⟩:=zbi hc
  obtain⟨⟨r,hout⟩,h3,hc⟩:=zbi hc
  simp only at hc
  split at hc
  ·simp only[zsi,zpi]at hc
   rw[←hc.2]
   exact puts_some _ _ _ _ hs
  ·cases hc
theorem dom_op {R:CallF}{env e:Env}{h h':Heap}{op:MOp}{v:AV}(ho:opv R env h op=some (v,e,h'))(k:Nat)(hs:(hget h k).isSome=true):(hget h' k).isSome=true:=by
 cases op<;>simp only[opv]at ho
 all_goals (repeat' (first|(simp only[Option.bind_eq_some_iff,Option.map_eq_some_iff,zpi,zsi,reduceCtorEq,Prod.exists]at ho;done)|(simp only[Option.bind_eq_some_iff,Option.map_eq_some_iff,zpi,zsi,reduceCtorEq,Prod.exists]at ho)|(split at ho)|(obtain⟨_,ho⟩:=ho)))
 all_goals (try subst ho)
 all_goals (first|exact hs|(rw[freeze_some];exact hs)|(rw[hset_some];exact hs)|(rw[hget_cons];split;rfl;exact hs)|exact callR_dom (by assumption) k hs)
def okGuard (ops:Array Oper)(og mg:Option (Nat×Bool)):Bool:=
 match og,mg with
 |none,none=>true
 |some (j,b),some (k,b')=>(ops[j]?).bind (·.dst)==some k&&b==b'
 |_,_=>false
def okItem (P:Program)(n:Nat)(ops:Array Oper)(o:Oper)(m:MI):Bool:=
 o.dst==m.dst&&(match o.dst with|some d=>decide (d<n)|none=>true)&&okGuard ops o.guard m.guard&&(okOp P o m.op||okCall o m.op)
structure ActOk (n:Nat)(a:Act):Prop where
 size:a.tmps.size=n
 defers:a.defers=[]
structure Come {Γ:Glob}(N0:Base Γ)(F:Cell→Prop)(m n:Nat)(w:World)(β:Nat→Cell)(Ow:Key→Cell→Prop)(s1:St)(a':Act)(w':World)(β':Nat→Cell)(Ow':Key→Cell→Prop):Prop where
 act:ActOk n a'
 gr:GR N0 w' F β' Ow' (slots a') s1.env s1.heap undef .undef
 kp:Kp N0 w (XX F Ow) w' (XX F Ow')
 ff:FF F w w'
 at_: ∀k,k<m→β' k=β k
 has: ∀k,k<m→(hget s1.heap k).isSome=true
section
variable {P:Program} {Γ:Glob} {N0:Base Γ} {m n:Nat} {w w':World} {F X:Cell→Prop} {β:Nat→Cell} {Ow:Key→Cell→Prop} {env env':Env} {h h':Heap} {v:Value} {a0:AV} {a:Act} {R:CallF} {o:Oper} {sl:Nat→Value} {s s1 s2:St} {Q:Exit→Act→World→Prop} {K:Act→World→Prop}
theorem Come.trans {a1 a2:Act}{w1 w2:World}{β1 β2:Nat→Cell}{Ow1 Ow2:Key→Cell→Prop}(x:Come N0 F m n w β Ow s1 a1 w1 β1 Ow1)(y:Come N0 F m n w1 β1 Ow1 s2 a2 w2 β2 Ow2):Come N0 F m n w β Ow s2 a2 w2 β2 Ow2:=
 ⟨y.act,y.gr,x.kp.trans y.kp,x.ff.trans y.ff,fun k hk=>(y.at_ k hk).trans (x.at_ k hk),y.has⟩
theorem slots_put {a:Act}{d:Nat}(hd:d<a.tmps.size)(v:Value):slots (a.put (some d) v)=fun k=>if d=k then v else slots a k:=by
 funext k
 simp only[slots,Act.put,Array.getD_eq_getD_getElem?]
 rw[Array.getElem?_setIfInBounds]
 by_cases e:d=k
 ·subst e;simp[hd]
 ·simp[e]
theorem GR.done {v:Value}{av:AV}(g:GR N0 w F β Ow (slots a) env h v av)(ha:ActOk n a)(d:Option Nat)(hd: ∀k,d=some k→k<n):
 ∃Ow',GR N0 w F β Ow' (slots (a.put d v)) (putD d av env) h undef .undef∧ActOk n (a.put d v)∧∀c,XX F Ow' c→XX F Ow c:=by
 cases d with
 |none=>exact⟨_,g.noval undef,ha,fun c hc=>XX_drop hc⟩
 |some d=>
  refine⟨putOw Ow d,?_,⟨by simp[Act.put,ha.size],ha.defers⟩,fun c hc=>hc.imp id fun⟨k,hk⟩=> ?_⟩
  ·rw[slots_put (by rw[ha.size];exact hd d rfl)]
   exact g.put d undef
  ·simp only[putOw]at hk
   split at hk
   ·exact⟨_,hk⟩
   ·split at hk
    ·exact hk.elim
    ·exact⟨_,hk⟩
theorem wanted_rel (g:GR N0 w F β Ow (slots a) env h v a0){ops:Array Oper}{mg:Option (Nat×Bool)}(hg:okGuard ops o.guard mg=true){b:Bool}(hw:wanted env mg=some b):Region.wanted o (yielded ops a.tmps)=b:=by
 unfold okGuard at hg
 split at hg
 ·rename_i e1
  simp only[wanted,zsi]at hw
  subst hw
  simp only[Region.wanted,e1]
 ·rename_i j b1 k b2 e1
  simp only[zba,beq_iff_eq]at hg
  obtain⟨e2,rfl⟩:=hg
  simp only[wanted]at hw
  split at hw
  ·rename_i c hc
   injection hw with hw
   have hv:=(g.slot k).1
   rw[hc]at hv
   have hv:=hv.toBool
   have:a.tmps[k]? =some (.bool c):=by
    simp only[slots,Array.getD_eq_getD_getElem?]at hv
    cases hq:a.tmps[k]? with
    |none=>rw[hq]at hv;cases hv
    |some u=>rw[hq]at hv;simp only[Option.getD_some]at hv;rw[hv]
   simp only[Region.wanted,e1,yielded,e2,zbs,this]
   rw[←hw]
   cases c<;>cases b1<;>rfl
  ·rename_i hc
   injection hw with hw
   have hv:=(g.slot k).1
   rw[hc]at hv
   have hv:slots a k=undef:=by
    generalize slots a k=u at hv
    cases hv;rfl
   have:yielded ops a.tmps j=none:=by
    simp only[slots,Array.getD_eq_getD_getElem?]at hv
    simp only[yielded,e2,zbs]
    cases hq:a.tmps[k]? with
    |none=>rfl
    |some u=>rw[hq]at hv;simp only[Option.getD_some]at hv;rw[hv];rfl
   simp only[Region.wanted,e1,this]
   rw[←hw];rfl
  ·cases hw
 ·cases hg
theorem item_wp (hm100:m≤100)(hR:CallOK Γ P R)(g:GR N0 w F β Ow (slots a) s.env s.heap undef .undef)(ha:ActOk n a)(hm: ∀k,k<m→(hget s.heap k).isSome=true){ops:Array Oper}{mi:MI}(hk:okItem P n ops o mi=true)(hs:stepI R mi s=some s1)
 (hK: ∀a' w' β' Ow',Come N0 F m n w β Ow s1 a' w' β' Ow'→K a' w'):
 if Region.wanted o (yielded ops a.tmps)=true then o.wp P a w K Q else K (a.put o.dst undef) w:=by
 simp only[okItem,zba,Bool.or_eq_true,beq_iff_eq]at hk
 obtain⟨⟨⟨k1,k2⟩,k3⟩,k4⟩:=hk
 have hd: ∀k,mi.dst=some k→k<n:=by
  intro k e
  rw[k1,e]at k2
  simpa using k2
 unfold stepI at hs
 split at hs
 ·rename_i hwt
  rw[if_pos (wanted_rel g k3 hwt)]
  obtain⟨⟨u,e,h1⟩,ho,hp⟩:=Option.map_eq_some_iff.1 hs
  simp only at hp
  subst hp
  have hhas: ∀k,k<m→(hget h1 k).isSome=true:=fun k hk=>dom_op ho k (hm k hk)
  have fin: ∀{v':Value} {w2:World} {β2:Nat→Cell} {O2:Key→Cell→Prop},GR N0 w2 F β2 O2 (slots a) e h1 v' u→Kp N0 w (XX F Ow) w2 (XX F O2)→FF F w w2→(∀k,k<m→β2 k=β k)→K (a.put o.dst v') w2:=by
   intro v' w2 β2 O2 g2 kp ff hb
   obtain⟨O3,g3,a3,x3⟩:=g2.done ha mi.dst hd
   rw[k1]
   exact hK _ _ β2 O3 ⟨a3,g3,kp.shrink x3,ff,hb,hhas⟩
  rcases k4 with k4|k4
  ·obtain⟨v',w2,β2,O2,hr,g2,kp,ff,hb⟩:=snd_op g k4 ho
   unfold Oper.wp
   rcases hr with hr|⟨hr,rfl⟩
   ·rw[hr];exact fin g2 kp ff fun k hk=>hb k (hm k hk) (by omega)
   ·rw[hr];exact fin g2 kp ff fun k hk=>hb k (hm k hk) (by omega)
  ·obtain⟨f,vals,hr,hc⟩:=snd_call hR g k4 ho
   unfold Oper.wp
   rw[hr]
   refine hc.mono ?_
   rintro en w2 ⟨v',O2,β2,rfl,hb,g2,kp,ff⟩
   exact fin g2 kp ff fun k hk=>hb k (hm k hk)
 ·rename_i hwt
  rw[if_neg (by rw[wanted_rel g k3 hwt];simp)]
  injection hs with hs
  subst hs
  have g2:GR N0 w F β (dropK Ow (· = .val)) (slots a) s.env s.heap undef .nov:=g.pend .nov (.of rfl) (by simp)
  obtain⟨O3,g3,a3,x3⟩:=g2.done ha mi.dst hd
  rw[k1]
  exact hK _ _ β O3 ⟨a3,g3,(Kp.refl N0 w _).shrink fun c hc=>XX_drop (x3 c hc),FF.refl _ _,fun _ _=>rfl,hm⟩
 ·cases hs
def okItems (P:Program)(n:Nat)(ops:Array Oper):List Oper→List MI→Bool
 | [],[]=>true
 |o::r,i::s=>okItem P n ops o i&&okItems P n ops r s
 |_,_=>false
theorem region_list (hm100:m≤100)(hR:CallOK Γ P R){ops:Array Oper}: ∀(l:List Oper) (ms:List MI) {a:Act} {w:World} {β:Nat→Cell} {Ow:Key→Cell→Prop} {s s1:St},okItems P n ops l ms=true→
 GR N0 w F β Ow (slots a) s.env s.heap undef .undef→ActOk n a→(∀k,k<m→(hget s.heap k).isSome=true)→runOps R ms s=some s1→
 (∀a' w' β' Ow',Come N0 F m n w β Ow s1 a' w' β' Ow'→Q .normal a' w')→wpList P ops Q l a w:=by
 intro l
 induction l with
 |nil=>
  intro ms a w β Ow s s1 hk g ha hm hs hQ
  cases ms with
  |nil=>
   simp only[runOps,zsi]at hs
   subst hs
   exact hQ a w β Ow ⟨ha,g,Kp.refl N0 w _,FF.refl _ _,fun _ _=>rfl,hm⟩
  |cons=>cases hk
 |cons o l ih=>
  intro ms a w β Ow s s1 hk g ha hm hs hQ
  cases ms with
  |nil=>cases hk
  |cons mi ms=>
   simp only[okItems,zba]at hk
   obtain⟨t,ht,hs⟩:=zbi hs
   refine wpList_step fun K hK=> ?_
   refine item_wp hm100 hR g ha hm hk.1 ht fun a' w' β' Ow' hc=>hK _ _ ?_
   exact ih ms hk.2 hc.gr hc.act hc.has hs fun a2 w2 β2 O2 hc2=>hQ _ _ β2 O2 (hc.trans hc2)
end
def deps (o:Oper):List Nat:=(o.after.toList.filter (Region.binds .any)).map (·.on)
def ancT :List Oper→List (List Nat)→List (List Nat)
 | [],acc=>acc
 |o::r,acc=>ancT r (acc++[(List.range acc.length).filter fun i=>(deps o).contains i||(deps o).any fun k=>(acc.getD k []).contains i])
def miAt (ms:List MI)(i:Nat):MI:=ms.getD i ⟨none,none,.lenA 0⟩
def okPairs (ap:Ap)(ms:List MI)(A:List (List Nat))(n:Nat):Bool:=
 (List.range n).all fun j=>(List.range j).all fun i=>(A.getD j []).contains i||compat ap (miAt ms i) (miAt ms j)
def okDraw (P:Program)(n:Nat)(ops:Array Oper)(ms:List MI)(ap:Ap):Bool:=
 okItems P n ops ops.toList ms&&ms.all (fun i=>okMI i&&i.outs.all (fun d=> !(apSlots ap).contains d))&&
 ((List.range ops.size).all fun j=>((ops[j]?).map fun o=>(deps o).all (fun i=>Nat.blt i j)).getD true)&&
 okPairs ap ms (ancT ops.toList []) ops.size
def Closed (ops:Array Oper)(L:Nat→Prop):Prop:= ∀j o,ops[j]? =some o→L j→∀i∈deps o,L i
theorem ancT_ready {ops:Array Oper}{L:Nat→Prop}(hL:Closed ops L): ∀(r:List Oper) (acc:List (List Nat)),(∀j,r[j]? =ops[acc.length+j]?)→
 (∀k,L k→∀i∈acc.getD k [],L i)→(∀k o,ops[k]? =some o→(∀i∈deps o,L i)→k<acc.length→∀i∈acc.getD k [],L i)→
 ∀k o,ops[k]? =some o→(∀i∈deps o,L i)→∀i∈(ancT r acc).getD k [],L i:=by
 intro r
 induction r with
 |nil=>
  intro acc _ _ h k o hk hd i hi
  rcases Nat.lt_or_ge k acc.length with hlt|hge
  ·exact h k o hk hd hlt i hi
  ·simp only[ancT]at hi
   rw[List.getD_eq_getElem?_getD,List.getElem?_eq_none hge]at hi
   cases hi
 |cons o r ih=>
  intro acc hr h1 h2
  have h0:ops[acc.length]? =some o:=by simpa using(hr 0).symm
  have new:(∀i∈deps o,L i)→∀i∈(acc++[(List.range acc.length).filter fun i=>(deps o).contains i||(deps o).any fun k=>(acc.getD k []).contains i]).getD acc.length [],L i:=by
   intro hd i hi
   rw[List.getD_eq_getElem?_getD,List.getElem?_append_right (Nat.le_refl _)]at hi
   simp only[Nat.sub_self,List.getElem?_cons_zero,Option.getD_some,List.mem_filter,Bool.or_eq_true,List.any_eq_true,List.contains_eq_mem,decide_eq_true_eq]at hi
   rcases hi.2 with hdi|⟨q,hq,hqi⟩
   ·exact hd i hdi
   ·exact h1 q (hd q hq) i hqi
  refine ih _ (fun j=> ?_) (fun k hk i hi=> ?_) fun k o' hk hd hlt i hi=> ?_
  ·have:=hr (j+1)
   simpa [Nat.add_assoc,Nat.add_comm 1 j]using this
  ·rcases Nat.lt_trichotomy k acc.length with hlt|heq|hgt
   ·refine h1 k hk i ?_
    rw[List.getD_eq_getElem?_getD,List.getElem?_append_left hlt]at hi
    rwa [List.getD_eq_getElem?_getD]
   ·subst heq
    exact new (fun i hi=>hL _ o h0 hk i hi) i hi
   ·rw[List.getD_eq_getElem?_getD,List.getElem?_append_right (by omega)]at hi
    have:k-acc.length=(k-acc.length-1)+1:=by omega
    rw[this]at hi
    simp at hi
  ·rcases Nat.lt_trichotomy k acc.length with hl|heq|hgt
   ·refine h2 k o' hk hd hl i ?_
    rw[List.getD_eq_getElem?_getD,List.getElem?_append_left hl]at hi
    rwa [List.getD_eq_getElem?_getD]
   ·subst heq
    rw[h0]at hk
    injection hk with hk
    subst hk
    exact new hd i hi
   ·simp at hlt;omega
def restOf (n:Nat)(listed:Array Bool):List Nat:=(List.range n).filter fun i=> !listed.getD i true
theorem filter_split {p:Nat→Bool}{n i:Nat}(hi:i<n)(hp:p i=true): ∃l1 l2,(List.range n).filter p=l1++i::l2∧(∀k∈l1,k<i∧p k=true)∧(∀k∈l2,i<k∧k<n∧p k=true)∧
 (List.range n).filter (fun k=>p k&&k !=i)=l1++l2:=by
 have e1:List.range n=List.range i++(i::List.range' (i+1) (n-i-1)):=by
  rw[List.range_eq_range',List.range_eq_range',←List.range'_succ,←show i+(n-i-1+1)=n from by omega]
  have:= @List.range'_append_1 0 i (n-i-1+1)
  rw[Nat.zero_add]at this
  rw[show i+(n-i-1+1)-i-1+1=n-i-1+1 from by omega]
  exact this.symm
 refine⟨(List.range i).filter p,(List.range' (i+1) (n-i-1)).filter p,?_,?_,?_,?_⟩
 ·rw[e1,List.filter_append,List.filter_cons,if_pos hp]
 ·intro k hk
  rw[List.mem_filter,List.mem_range]at hk
  exact hk
 ·intro k hk
  rw[List.mem_filter,List.mem_range'_1]at hk
  exact⟨by omega,by omega,hk.2⟩
 ·rw[e1,List.filter_append,List.filter_cons,if_neg (by simp)]
  congr 1
  ·refine List.filter_congr fun k hk=> ?_
   rw[List.mem_range]at hk
   have:k≠i:=by omega
   simp[this]
  ·refine List.filter_congr fun k hk=> ?_
   rw[List.mem_range'_1]at hk
   have:k≠i:=by omega
   simp[this]
section
variable {P:Program} {Γ:Glob} {N0:Base Γ} {m n:Nat} {w w':World} {F X:Cell→Prop} {β:Nat→Cell} {Ow:Key→Cell→Prop} {env env':Env} {h h':Heap} {v:Value} {a0:AV} {a:Act} {R:CallF} {o:Oper} {sl:Nat→Value} {s s1 s2:St} {Q:Exit→Act→World→Prop} {K:Act→World→Prop}
theorem GR.eqv (g:GR N0 w F β Ow sl s.env s.heap v a0)(q:Eqv s s1):GR N0 w F β Ow sl s1.env s1.heap v a0:=
 ⟨g.inv,fun k=>by rw[←q.env k];exact g.slot k,g.val,fun nm ob ho=>g.obj nm ob (by rw[q.heap nm];exact ho),fun k r hr=>by rw[←q.env k]at hr;rw[←q.heap r];exact g.refE k r hr,
   fun r hr=>by rw[←q.heap r];exact g.refV r hr,fun nm ob ho c hc r hr=>by rw[←q.heap r];exact g.refH nm ob (by rw[q.heap nm];exact ho) c hc r hr⟩
theorem Come.eqv {a':Act}{β':Nat→Cell}{Ow':Key→Cell→Prop}(x:Come N0 F m n w β Ow s a' w' β' Ow')(q:Eqv s s1):Come N0 F m n w β Ow s1 a' w' β' Ow':=
 ⟨x.act,x.gr.eqv q,x.kp,x.ff,x.at_,fun k hk=>by rw[←q.heap k];exact x.has k hk⟩
theorem Eqv.trans {a b c:St}(x:Eqv a b)(y:Eqv b c):Eqv a c:=⟨fun k=>(x.env k).trans (y.env k),fun k=>(x.heap k).trans (y.heap k)⟩
theorem okItems_get {ops:Array Oper}: ∀(l:List Oper) (ms:List MI),okItems P n ops l ms=true→l.length=ms.length∧∀i o,l[i]? =some o→okItem P n ops o (miAt ms i)=true:=by
 intro l
 induction l with
 |nil=>intro ms h;cases ms with
  |nil=>exact⟨rfl,fun i o h=>by simp at h⟩
  |cons=>cases h
 |cons o l ih=>
  intro ms h
  cases ms with
  |nil=>cases h
  |cons mi ms=>
   simp only[okItems,zba]at h
   obtain⟨i1,i2⟩:=ih ms h.2
   refine⟨by simp[i1],fun i o' ho=> ?_⟩
   cases i with
   |zero=>simp only[List.getElem?_cons_zero,zsi]at ho;subst ho;exact h.1
   |succ i=>simpa [miAt]using i2 i o' (by simpa using ho)
theorem region_any (hm100:m≤100)(hR:CallOK Γ P R){ops:Array Oper}{ms:List MI}{ap:Ap}(hk:okDraw P n ops ms ap=true): ∀(fuel:Nat) (listed:Array Bool) {a:Act} {w:World} {β:Nat→Cell} {Ow:Key→Cell→Prop} {s sf s1:St},
 listed.size=ops.size→Closed ops (fun j=>listed.getD j false=true)→(restOf ops.size listed).length≤fuel→
 GR N0 w F β Ow (slots a) s.env s.heap undef .undef→ActOk n a→(∀k,k<m→(hget s.heap k).isSome=true)→AP s.env ap→runOps R ((restOf ops.size listed).map (miAt ms)) s=some sf→Eqv sf s1→
 (∀a' w' β' Ow',Come N0 F m n w β Ow s1 a' w' β' Ow'→Q .normal a' w')→wpAny P .any ops Q fuel listed a w:=by
 simp only[okDraw,zba]at hk
 obtain⟨⟨⟨k1,k2⟩,k3⟩,k4⟩:=hk
 obtain⟨i1,i2⟩:=okItems_get _ _ k1
 have hi2: ∀i o,ops[i]? =some o→okItem P n ops o (miAt ms i)=true:=fun i o ho=>i2 i o (by simpa using ho)
 have hms: ∀i,i<ops.size→okMI (miAt ms i)=true∧∀k∈(miAt ms i).outs,k∉apSlots ap:=by
  intro i hi
  have hl:i<ms.length:=by rw[←i1];simpa using hi
  have hm:miAt ms i∈ms:=by
   simp only[miAt,List.getD_eq_getElem?_getD,zge hl,Option.getD_some]
   exact List.getElem_mem hl
  have:=List.all_eq_true.1 k2 _ hm
  simp only[zba]at this
  refine⟨this.1,fun k hk=> ?_⟩
  have h2:=List.all_eq_true.1 this.2 k hk
  simpa using h2
 have hdep: ∀j o,ops[j]? =some o→∀i∈deps o,i<j:=by
  intro j o ho i hi
  have hj:j<ops.size:=(Array.getElem?_eq_some_iff.1 ho).1
  have:=List.all_eq_true.1 k3 j (List.mem_range.2 hj)
  rw[ho]at this
  simp only[Option.map_some,Option.getD_some,List.all_eq_true]at this
  have h2:=this i hi
  simp[Nat.blt]at h2
  omega
 have hpair: ∀i j,i<j→j<ops.size→i∈(ancT ops.toList []).getD j []∨compat ap (miAt ms i) (miAt ms j)=true:=by
  intro i j hij hj
  have:=List.all_eq_true.1 k4 j (List.mem_range.2 hj)
  have:=List.all_eq_true.1 this i (List.mem_range.2 hij)
  simpa using this
 have isReady: ∀{listed:Array Bool} {j:Nat} {o:Oper},ops[j]? =some o→listed.getD j true=false→(∀i∈deps o,listed.getD i false=true)→j∈Region.ready .any ops listed:=by
  intro listed j o ho h1 h2
  refine mem_ready.2 ⟨h1,o,ho,fun e he hb=>h2 _ ?_⟩
  exact List.mem_map.2 ⟨e,List.mem_filter.2 ⟨by simpa using he,hb⟩,rfl⟩
 have readyDeps: ∀{listed:Array Bool} {j:Nat},j∈Region.ready .any ops listed→listed.getD j true=false∧∃o,ops[j]? =some o∧∀i∈deps o,listed.getD i false=true:=by
  intro listed j hj
  obtain⟨h1,o,ho,h2⟩:=mem_ready.1 hj
  refine⟨h1,o,ho,fun i hi=> ?_⟩
  obtain⟨e,he,rfl⟩:=List.mem_map.1 hi
  obtain⟨he1,he2⟩:=List.mem_filter.1 he
  exact h2 e (by simpa using he1) he2
 have memRest: ∀{listed:Array Bool} {i:Nat},i∈restOf ops.size listed↔i<ops.size∧listed.getD i true=false:=by
  intro listed i
  simp[restOf,List.mem_filter]
 have empty: ∀{listed:Array Bool},listed.size=ops.size→Region.ready .any ops listed=[]→restOf ops.size listed=[]:=by
  intro listed hsz hr
  cases hrest:restOf ops.size listed with
  |nil=>rfl
  |cons i l=>
   exfalso
   have hmem: ∀k,k∈restOf ops.size listed↔k<ops.size∧listed.getD k true=false:=fun k=>memRest
   have hi:=(hmem i).1 (by rw[hrest];exact List.mem_cons_self)
   have hmin: ∀k,k<i→k<ops.size→listed.getD k true=true:=by
    intro k hk hks
    cases hv:listed.getD k true with
    |true=>rfl
    |false=>
     have hkm:=(hmem k).2 ⟨hks,hv⟩
     have hpw:(restOf ops.size listed).Pairwise (· < ·):=List.Pairwise.filter _ List.pairwise_lt_range
     rw[hrest]at hkm hpw
     rcases List.mem_cons.1 hkm with e|e
     ·omega
     ·have:=(List.pairwise_cons.1 hpw).1 k e;omega
   obtain⟨o,ho⟩: ∃o,ops[i]? =some o:=⟨ops[i],Array.getElem?_eq_getElem hi.1⟩
   have:i∈Region.ready .any ops listed:=isReady ho hi.2 fun d hd=>by
    have h1:=hdep i o ho d hd
    have h2:=hmin d h1 (by omega)
    have h3:d<listed.size:=by omega
    simpa [Array.getD_eq_getD_getElem?,Array.getElem?_eq_getElem h3]using h2
   rw[hr]at this
   cases this
 have finish: ∀{listed:Array Bool} {a:Act} {w:World} {β:Nat→Cell} {Ow:Key→Cell→Prop} {s sf s1:St},listed.size=ops.size→Region.ready .any ops listed=[]→
  GR N0 w F β Ow (slots a) s.env s.heap undef .undef→ActOk n a→(∀k,k<m→(hget s.heap k).isSome=true)→runOps R ((restOf ops.size listed).map (miAt ms)) s=some sf→Eqv sf s1→
  (∀a' w' β' Ow',Come N0 F m n w β Ow s1 a' w' β' Ow'→Q .normal a' w')→Q .normal a w:=by
  intro listed a w β Ow s sf s1 hsz hr g ha hm hs hq hQ
  rw[empty hsz hr]at hs
  simp only[List.map_nil,runOps,zsi]at hs
  subst hs
  exact hQ a w β Ow (Come.eqv ⟨ha,g,Kp.refl N0 w _,FF.refl _ _,fun _ _=>rfl,hm⟩ hq)
 intro fuel
 induction fuel with
 |zero=>
  intro listed a w β Ow s sf s1 hsz hcl hlen g ha hm hA hs hq hQ
  have hnil:restOf ops.size listed=[]:=List.eq_nil_of_length_eq_zero (by omega)
  have hr:Region.ready .any ops listed=[]:=by
   refine List.eq_nil_iff_forall_not_mem.2 fun j hj=> ?_
   obtain⟨h1,o,ho,-⟩:=readyDeps hj
   have:j∈restOf ops.size listed:=memRest.2 ⟨(Array.getElem?_eq_some_iff.1 ho).1,h1⟩
   rw[hnil]at this
   cases this
  exact⟨hr,finish hsz hr g ha hm hs hq hQ⟩
 |succ fuel ih=>
  intro listed a w β Ow s sf s1 hsz hcl hlen g ha hm hA hs hq hQ
  refine⟨fun hr=>finish hsz hr g ha hm hs hq hQ,fun j hj=> ?_⟩
  obtain⟨h1,o,ho,hd⟩:=readyDeps hj
  have hjn:j<ops.size:=(Array.getElem?_eq_some_iff.1 ho).1
  obtain⟨l1,l2,e1,e2,e3,e4⟩:=filter_split (p:=fun i=> !listed.getD i true) hjn (by simp[h1])
  have hrest:restOf ops.size listed=l1++j::l2:=e1
  have hrest':restOf ops.size (listed.setIfInBounds j true)=l1++l2:=by
   rw[←e4]
   refine List.filter_congr fun k hk=> ?_
   by_cases hkj:k=j
   ·subst hkj
    have:k<listed.size:=by omega
    simp[Array.getD_eq_getD_getElem?,this]
   ·rw[getD_set_ne true (Ne.symm hkj)]
    simp[hkj]
  rw[hrest,List.map_append,List.map_cons]at hs
  obtain⟨s',sf',f1,f2,f3⟩:=front (ap:=ap) (miAt ms j) (l2.map (miAt ms)) (hms j hjn).1 (fun i hi=>by
   obtain⟨k,hk,rfl⟩:=List.mem_map.1 hi
   exact(hms k (e3 k hk).2.1).1) (l1.map (miAt ms)) s sf (fun i hi=>by
   obtain⟨k,hk,rfl⟩:=List.mem_map.1 hi
   obtain⟨hkj,hkl⟩:=e2 k hk
   refine⟨(hms k (by omega)).1,?_,(hms k (by omega)).2⟩
   rcases hpair k j hkj hjn with hanc|hc
   ·exfalso
    have:=ancT_ready hcl ops.toList [] (fun j=>by simp) (fun k _ i hi=>by simp at hi) (fun k o _ _ hl=>by simp at hl) j o ho hd k hanc
    have hks:k<listed.size:=by omega
    simp only[Bool.not_eq_true']at hkl
    simp[Array.getD_eq_getD_getElem?,Array.getElem?_eq_getElem hks]at this hkl
    rw[hkl]at this
    cases this
   ·exact hc) hA hs
  unfold wpOp
  simp only[ho]
  have main:=item_wp (Q:=Q) (m:=m) (K:=wpAny P .any ops Q fuel (listed.setIfInBounds j true)) hm100 hR g ha hm (hi2 j o ho) f1 fun a' w' β' Ow' hc=>by
   refine ih _ (by simpa using hsz) ?_ ?_ hc.gr hc.act hc.has ?_ (by rw[hrest',List.map_append];exact f2) (f3.trans hq) fun a2 w2 β2 O2 hc2=>hQ _ _ _ _ (hc.trans hc2)
   ·intro k ok hok hLk i hi
    by_cases hkj:k=j
    ·subst hkj
     rw[ho]at hok
     injection hok with hok
     subst hok
     exact getD_set_true (hd i hi)
    ·rw[getD_set_ne false (Ne.symm hkj)]at hLk
     exact getD_set_true (hcl k ok hok hLk i hi)
   ·rw[hrest']
    rw[hrest]at hlen
    simp at hlen ⊢
    omega
   ·obtain⟨v,h1,-,rfl⟩:=(step_iv (hms j hjn).1).1 f1
    exact AP_put hA (hms j hjn).2 v
  split
  ·rename_i hw
   rw[if_pos hw]at main
   exact .inl main
  ·rename_i hw
   rw[if_neg hw]at main
   exact main
theorem apSame {ap:Ap}: ∀(l:List MI),(∀i∈l,okMI i=true∧∀k∈i.outs,k∉apSlots ap)→∀(s s1:St),runOps R l s=some s1→AP s1.env ap→AP s.env ap:=by
 intro l
 induction l with
 |nil=>intro _ s s1 h hA;simp only[runOps,zsi]at h;subst h;exact hA
 |cons i l ih=>
  intro hl s s1 h hA
  obtain⟨t,ht,h⟩:=zbi h
  have h1:=ih (fun k hk=>hl k (List.mem_cons_of_mem _ hk)) t s1 h hA
  obtain⟨c1,c2⟩:=hl i List.mem_cons_self
  obtain⟨v,h2,-,rfl⟩:=(step_iv c1).1 ht
  intro p hp
  have:=h1 p hp
  rwa [AP_same c2 v hp _ (.inl rfl),AP_same c2 v hp _ (.inr rfl)]at this
theorem region_drawn (hm100:m≤100)(hR:CallOK Γ P R){id:Nat}{ops:Array Oper}{ms:List MI}{ap:Ap}(hk:okDraw P n ops ms ap=true)(hmix:P.follows .mixedOrders=true)
 (g:GR N0 w F β Ow (slots a) s.env s.heap undef .undef) (ha:ActOk n a) (hm: ∀k,k<m→(hget s.heap k).isSome=true) (hs:runOps R ms s=some s1) (hA:AP s1.env ap)
 (hQ: ∀a' w' β' Ow',Come N0 F m n w β Ow s1 a' w' β' Ow'→Q .normal a' w'):(Code.region id ops true).wp P Q a w:=by
 have hx:=Ext.draw w (w.drawn+1)
 have kp:Kp N0 w (XX F Ow) {w with drawn:=w.drawn+1} (XX F Ow):=⟨rfl,rfl,rfl,Nat.le_refl _,fun _ _=>rfl,fun _ _=>rfl,fun c v hc hx=>⟨hc,hx⟩⟩
 have g':=g.world kp fun c _=>rfl
 have hk':=hk
 simp only[okDraw,zba]at hk'
 obtain⟨⟨⟨k1,k2⟩,-⟩,-⟩:=hk'
 obtain⟨i1,-⟩:=okItems_get _ _ k1
 have hall: ∀i∈ms,okMI i=true∧∀k∈i.outs,k∉apSlots ap:=by
  intro i hi
  have:=List.all_eq_true.1 k2 _ hi
  simp only[zba]at this
  refine⟨this.1,fun k hk=> ?_⟩
  have h2:=List.all_eq_true.1 this.2 k hk
  simpa using h2
 have hrest:restOf ops.size (Array.replicate ops.size false)=List.range ops.size:=by
  refine List.filter_eq_self.2 fun i hi=> ?_
  rw[List.mem_range]at hi
  simp[hi]
 have hmap:(List.range ops.size).map (miAt ms)=ms:=by
  have hl:ops.size=ms.length:=by rw[←i1];simp
  rw[hl]
  apply List.ext_getElem
  ·simp
  ·intro i h1 h2
   simp only[List.getElem_map,List.getElem_range,miAt,List.getD_eq_getElem?_getD,zge h2,Option.getD_some]
 refine wp_region_any hmix (region_any (m:=m) (s:=s) hm100 hR hk _ _ (by simp) ?_ ?_ g' ha hm (apSame ms hall s s1 hs hA) (by rw[hrest,hmap];exact hs) ⟨fun _=>rfl,fun _=>rfl⟩ fun a' w' β' Ow' hc=> ?_)
 ·intro j o ho hL
  simp only[Array.getD_eq_getD_getElem?,Array.getElem?_replicate]at hL
  split at hL<;>cases hL
 ·rw[hrest];simp
 ·exact hQ _ _ _ _ ⟨hc.act,hc.gr,kp.trans hc.kp,(show FF F w _ from fun _ _=>⟨rfl,rfl⟩).trans hc.ff,hc.at_,hc.has⟩
end
def exOnly (g:Nat):MCode→Bool
 | .exit j=>Nat.blt j 1000000||j==g
 | .seq a b=>exOnly g a&&exOnly g b
 | .cond _ a b=>exOnly g a&&exOnly g b
 | .block _ b=>exOnly g b
 | .loop _ _ _ b=>exOnly g b
 |_=>true
mutual
def okCode (P:Program)(n:Nat):Code→MCode→Bool
 | .skip,.skip=>true
 | .label _,.skip=>true
 | .region _ ops draw,.reg ms ap=>if draw then P.follows .mixedOrders&&okDraw P n ops ms ap else okItems P n ops ops.toList ms
 | .seq a b,.seq c d=>okCode P n a c&&okCode P n b d
 | .cond c a b,.cond x y z=>okT c x&&okCode P n a y&&okCode P n b z
 | .block i b,.block j c=>i==j&&Nat.blt i 1000000&&okCode P n b c
 | .loop b,.loop _ _ _ c=>okCode P n b c
 | .exit i,.exit j=>i==j&&Nat.blt i 1000000
 | .goto l,.exit j=>j==1000000+l&&Nat.blt l 1000000
 | .scope c,.block b0 (.seq (.block g1 (.seq mc (.exit b1))) (.loop _ _ _ (.block g2 (.seq mr (.exit b2)))))=>
   Nat.ble 2000000 b0&&b1==b0&&b2==b0&&g2==g1&&Nat.ble 1000000 g1&&Nat.blt g1 2000000&&(findLabel c (g1-1000000)).isSome&&exOnly g1 mc&&exOnly g1 mr&&okCode P n c mc&&okRest P n c (g1-1000000) mr
 | .ret,.ret=>true
 |_,_=>false
def okRest (P:Program)(n:Nat):Code→Nat→MCode→Bool
 | .seq a b,l,mr=>match findLabel a l with
   |some _=>match mr with
    | .seq x y=>okRest P n a l x&&okCode P n b y
    |_=>false
   |none=>okRest P n b l mr
 | .label _,_,.skip=>true
 |_,_,_=>false
end
def okRes1 (P:Program):ResultVar→MRes→Bool
 | .tmp t,.t k=>t==k
 | .cell a t,.cell k sz ag=>a==k&&szT P t==some sz&&aggT P t==some ag
 |_,_=>false
def okRess (P:Program):List ResultVar→List MRes→Bool
 | [],[]=>true
 |r::s,x::y=>okRes1 P r x&&okRess P s y
 |_,_=>false
def okFunc (P:Program)(f:Nat)(F:MFunc):Bool:=
 match P.funcs[f]? with
 |some fn=> !(fn.name== "runtime.NumGoroutine")&&Nat.ble F.nargs fn.ntmps&&okRess P fn.results.toList F.res&&(match fn.body with|some c=>okCode P fn.ntmps c F.body|none=>false)
 |none=>false
def exOf :Ex→Exit
 | .norm=>.normal
 | .exit id=>if 1000000≤id∧id<2000000 then .goto (id-1000000)else .exit id
 | .ret=>.ret
section
variable {P:Program} {M:Prog} {XE:Nat→List AV→Option (AV×List Obj)} {Γ:Glob} {N0:Base Γ} {m n:Nat} {w w':World} {F X:Cell→Prop} {β:Nat→Cell} {Ow:Key→Cell→Prop} {env env':Env} {h h':Heap} {v:Value} {a0:AV} {a:Act} {R:CallF} {o:Oper} {sl:Nat→Value} {s s1 s2 s3:St} {Q:Exit→Act→World→Prop} {K:Act→World→Prop}
theorem Come.keep {a':Act}{β':Nat→Cell}{Ow':Key→Cell→Prop}(x:Come N0 F m n w β Ow s a' w' β' Ow')(hm:m≤100){ks ko:List Nat}(hk:keep ks ko s=some s1): ∃Ow2,Come N0 F m n w β Ow s1 a' w' β' Ow2:=by
 obtain⟨O2,h1,h2⟩:=x.gr.keep hk undef
 refine⟨O2,x.act,h2,x.kp.shrink fun c hc=>hc.imp id fun⟨k,hk⟩=>⟨k,h1 k c hk⟩,x.ff,x.at_,fun k hk2=> ?_⟩
 simp only[PF.keep]at hk
 split at hk
 ·injection hk with hk
  subst hk
  have:=hget_filter s.heap (fun n=>decide (n<100)||ko.contains n) k
  simp only at this ⊢
  rw[this,if_pos (by have:k<100:=by omega
                     simp[this])]
  exact x.has k hk2
 ·cases hk
theorem wp_scope_rounds {c rest:Code}{a:Act}{w:World}{Q:Exit→Act→World→Prop}(l:Nat)(J:Nat→Act→World→Prop)(hf:findLabel c l=some rest)
 (first:c.wp P (Exit.jump l (fun a w=> ∃n,J n a w) Q) a w)
 (pass: ∀n a w,J n a w→rest.wp P (Exit.jump l (fun a' w'=> ∃k,k<n∧J k a' w') Q) a w):(Code.scope c).wp P Q a w:=by
 have least: ∀(p:Nat→Prop),(∃n,p n)→∃n,p n∧∀k,p k→n≤k:=by
  rintro p ⟨n,hn⟩
  induction n using Nat.strongRecOn with
  |_ n ih=>
   by_cases h: ∃k,k<n∧p k
   ·obtain⟨k,hk,hp⟩:=h;exact ih k hk hp
   ·exact⟨n,hn,fun k hk=>Nat.le_of_not_lt fun hl=>h ⟨k,hl,hk⟩⟩
 have mono: ∀{J1 J2:Act→World→Prop} {e:Exit} {a w},(∀a w,J1 a w→J2 a w)→Exit.jump l J1 Q e a w→Exit.jump l J2 Q e a w:=by
  intro J1 J2 e a w hJ h
  cases e with
  |goto l'=>exact⟨h.1,hJ _ _ h.2⟩
  |_=>exact h
 refine wp_scope_jumps l (fun a w=> ∃n,J n a w) (fun a w=>Classical.epsilon fun n=>J n a w∧∀k,J k a w→n≤k) hf first fun a w hJ=> ?_
 have hs:=Classical.epsilon_spec (least (fun n=>J n a w) hJ)
 refine wp_mono (pass _ a w hs.1) fun e a' w' h=>mono (fun a w hk=> ?_) h
 obtain⟨k,hk,hk2⟩:=hk
 have hs':=Classical.epsilon_spec (least (fun n=>J n a w) ⟨k,hk2⟩)
 exact⟨⟨k,hk2⟩,Nat.lt_of_le_of_lt (hs'.2 k hk2) hk⟩
def Good (Γ:Glob)(P:Program)(M:Prog)(XE:Nat→List AV→Option (AV×List Obj))(N0:Base Γ)(F:Cell→Prop)(m n:Nat)(c:Code)(mc:MCode):Prop:=
 ∀(N:Nat),(∀k,k≤N→CallOK Γ P (runs M XE k).call)→
  ∀{a:Act} {w:World} {β:Nat→Cell} {Ow:Key→Cell→Prop} {s s1:St} {e:Ex},GR N0 w F β Ow (slots a) s.env s.heap undef .undef→ActOk n a→(∀k,k<m→(hget s.heap k).isSome=true)→
  step (runs M XE N) mc s=some (e,s1)→∀{Q:Exit→Act→World→Prop},(∀a' w' β' Ow',Come N0 F m n w β Ow s1 a' w' β' Ow'→Q (exOf e) a' w')→c.wp P Q a w
theorem ex_only {g:Nat}: ∀(mc:MCode),exOnly g mc=true→∀N s j s1,step (runs M XE N) mc s=some (.exit j,s1)→j<1000000∨j=g:=by
 intro mc
 induction mc with
 |skip=>intro _ N s j s1 hs;cases hs
 |reg ops ap=>
  intro _ N s j s1 hs
  simp only[step]at hs
  obtain⟨t,ht,hs⟩:=zbi hs
  split at hs<;>cases hs
 |seq a b iha ihb=>
  intro hk N s j s1 hs
  simp only[exOnly,zba]at hk
  simp only[step]at hs
  obtain⟨⟨e1,t⟩,ht,hs⟩:=zbi hs
  cases e1 with
  |norm=>exact ihb hk.2 _ _ _ _ hs
  |exit id=>simp only[zsi,zpi]at hs;obtain⟨e,rfl⟩:=hs;exact iha hk.1 _ _ _ _ (e▸ht)
  |ret=>cases hs
 |cond c a b iha ihb=>
  intro hk N s j s1 hs
  simp only[exOnly,zba]at hk
  simp only[step]at hs
  split at hs
  ·exact iha hk.1 _ _ _ _ hs
  ·exact ihb hk.2 _ _ _ _ hs
  ·cases hs
 |block id b ih=>
  intro hk N s j s1 hs
  simp only[exOnly]at hk
  simp only[step]at hs
  obtain⟨⟨e1,t⟩,ht,hs⟩:=Option.map_eq_some_iff.1 hs
  cases e1 with
  |norm=>cases hs
  |ret=>cases hs
  |exit i=>
   simp only at hs
   split at hs
   ·cases hs
   ·simp only[zpi]at hs
    obtain⟨e,rfl⟩:=hs
    exact ih hk _ _ _ _ (e▸ht)
 |loop ks ko kx b ih=>
  intro hk N
  simp only[exOnly]at hk
  simp only[step]
  induction N with
  |zero=>intro s j s1 hs;cases hs
  |succ N ihN=>
   intro s j s1 hs
   simp only[runs]at hs
   obtain⟨t,ht,hs⟩:=zbi hs
   obtain⟨⟨e2,t2⟩,ht2,hs⟩:=zbi hs
   cases e2 with
   |norm=>exact ihN _ _ _ hs
   |exit i=>
    obtain⟨t3,-,hp⟩:=Option.map_eq_some_iff.1 hs
    simp only[zpi]at hp
    obtain⟨e,rfl⟩:=hp
    exact ih hk _ _ _ _ (e▸ht2)
   |ret=>obtain⟨t3,-,hp⟩:=Option.map_eq_some_iff.1 hs;cases hp
 |exit i=>
  intro hk N s j s1 hs
  simp only[exOnly,Bool.or_eq_true,Nat.blt_eq,beq_iff_eq]at hk
  simp only[step,zsi,zpi,Ex.exit.injEq]at hs
  obtain⟨rfl,-⟩:=hs
  exact hk
 |ret=>intro _ N s j s1 hs;cases hs
theorem good_seq {x y:Code}{mx my:MCode}(hx:Good Γ P M XE N0 F m n x mx)(hy:Good Γ P M XE N0 F m n y my):Good Γ P M XE N0 F m n (.seq x y) (.seq mx my):=by
 intro N hC a w β Ow s s1 e g ha hm hs Q hQ
 simp only[step]at hs
 obtain⟨⟨e1,t⟩,ht,hs⟩:=zbi hs
 refine wp_seq (hx N hC g ha hm ht fun a' w' β' Ow' hc=> ?_)
 cases e1 with
 |norm=>exact hy N hC hc.gr hc.act hc.has hs fun a2 w2 β2 O2 hc2=>hQ _ _ _ _ (hc.trans hc2)
 |exit id=>
  simp only[zsi,zpi]at hs
  obtain⟨rfl,rfl⟩:=hs
  have:=hQ _ _ _ _ hc
  simp only[exOf]at this ⊢
  split<;>rename_i hh<;>simpa only[hh,and_self,if_true,if_false,Exit.then]using this
 |ret=>
  simp only[zsi,zpi]at hs
  obtain⟨rfl,rfl⟩:=hs
  exact hQ _ _ _ _ hc
theorem code_good (hm100:m≤100): ∀(c:Code),(∀mc,okCode P n c mc=true→Good Γ P M XE N0 F m n c mc)∧(∀l rest mr,findLabel c l=some rest→okRest P n c l mr=true→Good Γ P M XE N0 F m n rest mr):=by
 intro c
 induction c with
 |skip=>
  refine⟨fun mc hk=> ?_,fun l rest mr hf=>by cases hf⟩
  intro N hC a w β Ow s s1 e g ha hm hs Q hQ
  cases mc<;>first|cases hk|skip
  simp only[step,zsi,zpi]at hs
  obtain⟨rfl,rfl⟩:=hs
  exact wp_skip (hQ _ _ _ _ ⟨ha,g,Kp.refl N0 w _,FF.refl _ _,fun _ _=>rfl,hm⟩)
 |label l=>
  refine⟨fun mc hk=> ?_,fun l rest mr hf hk=> ?_⟩
  ·intro N hC a w β Ow s s1 e g ha hm hs Q hQ
   cases mc<;>first|cases hk|skip
   simp only[step,zsi,zpi]at hs
   obtain⟨rfl,rfl⟩:=hs
   exact wp_label (hQ _ _ _ _ ⟨ha,g,Kp.refl N0 w _,FF.refl _ _,fun _ _=>rfl,hm⟩)
  ·simp only[findLabel]at hf
   split at hf<;>cases hf
   intro N hC a w β Ow s s1 e g ha hm hs Q hQ
   cases mr<;>first|cases hk|skip
   simp only[step,zsi,zpi]at hs
   obtain⟨rfl,rfl⟩:=hs
   exact wp_skip (hQ _ _ _ _ ⟨ha,g,Kp.refl N0 w _,FF.refl _ _,fun _ _=>rfl,hm⟩)
 |region id ops draw=>
  refine⟨fun mc hk=> ?_,fun l rest mr hf=>by cases hf⟩
  intro N hC a w β Ow s s1 e g ha hm hs Q hQ
  cases mc<;>first|cases hk|skip
  rename_i ms ap
  simp only[step]at hs
  obtain⟨t,ht,hs⟩:=zbi hs
  split at hs
  ·rename_i hap
   simp only[zsi,zpi]at hs
   obtain⟨rfl,rfl⟩:=hs
   simp only[okCode]at hk
   cases draw with
   |true=>
    simp only[if_true,zba]at hk
    exact region_drawn hm100 (hC N (Nat.le_refl _)) hk.2 hk.1 g ha hm ht (fun p hp=>List.all_eq_true.1 hap p hp) hQ
   |false=>
    simp only[Bool.false_eq_true,if_false]at hk
    exact wp_region_list (region_list hm100 (hC N (Nat.le_refl _)) _ _ hk g ha hm ht hQ)
  ·cases hs
 |seq x y ihx ihy=>
  refine⟨fun mc hk=> ?_,fun l rest mr hf hk=> ?_⟩
  ·cases mc<;>first|cases hk|skip
   simp only[okCode,zba]at hk
   exact good_seq (ihx.1 _ hk.1) (ihy.1 _ hk.2)
  ·simp only[findLabel]at hf
   simp only[okRest]at hk
   cases hx:findLabel x l with
   |none=>rw[hx]at hf hk;exact ihy.2 l rest mr hf hk
   |some rx=>
    rw[hx]at hf hk
    simp only[zsi]at hf
    subst hf
    cases mr<;>first|cases hk|skip
    simp only[zba]at hk
    exact good_seq (ihx.2 l rx _ hx hk.1) (ihy.1 _ hk.2)
 |cond c x y ihx ihy=>
  refine⟨fun mc hk=> ?_,fun l rest mr hf=>by cases hf⟩
  intro N hC a w β Ow s s1 e g ha hm hs Q hQ
  cases mc<;>first|cases hk|skip
  rename_i mo mx my
  simp only[okCode,zba]at hk
  obtain⟨⟨k1,k2⟩,k3⟩:=hk
  have hv:=(g.opT k1).1
  simp only[step]at hs
  split at hs
  ·rename_i hb
   rw[hb]at hv
   exact wp_cond_true hv.toBool (ihx.1 mx k2 N hC g ha hm hs hQ)
  ·rename_i hb
   rw[hb]at hv
   exact wp_cond_false hv.toBool (ihy.1 my k3 N hC g ha hm hs hQ)
  ·cases hs
 |block id b ih=>
  refine⟨fun mc hk=> ?_,fun l rest mr hf=>by cases hf⟩
  intro N hC a w β Ow s s1 e g ha hm hs Q hQ
  cases mc<;>first|cases hk|skip
  rename_i id' mb
  simp only[okCode,zba,beq_iff_eq,Nat.blt_eq]at hk
  obtain⟨⟨rfl,hid⟩,hk⟩:=hk
  simp only[step]at hs
  obtain⟨⟨e1,t⟩,ht,hs⟩:=Option.map_eq_some_iff.1 hs
  refine wp_block (ih.1 mb hk N hC g ha hm ht fun a' w' β' Ow' hc=> ?_)
  cases e1 with
  |norm=>
   simp only[zpi]at hs
   obtain⟨rfl,rfl⟩:=hs
   exact hQ _ _ _ _ hc
  |exit j=>
   simp only[exOf]
   by_cases hg:1000000≤j∧j<2000000
   ·rw[if_pos hg]
    simp only[if_neg (show¬j=id by omega),zpi]at hs
    obtain⟨rfl,rfl⟩:=hs
    have:=hQ _ _ _ _ hc
    rw[exOf,if_pos hg]at this
    exact this
   ·rw[if_neg hg]
    simp only[Exit.inBlock]
    by_cases hj:j=id
    ·subst hj
     simp only[if_true,zpi]at hs ⊢
     obtain⟨rfl,rfl⟩:=hs
     exact hQ _ _ _ _ hc
    ·simp only[if_neg hj,zpi]at hs ⊢
     obtain⟨rfl,rfl⟩:=hs
     have:=hQ _ _ _ _ hc
     rw[exOf,if_neg hg]at this
     exact this
  |ret=>
   simp only[zpi]at hs
   obtain⟨rfl,rfl⟩:=hs
   exact hQ _ _ _ _ hc
 |loop b ih=>
  refine⟨fun mc hk=> ?_,fun l rest mr hf=>by cases hf⟩
  intro N hC a w β Ow s s1 e g ha hm hs Q hQ
  cases mc<;>first|cases hk|skip
  rename_i ks ko kx mb
  simp only[okCode]at hk
  simp only[step]at hs
  have key: ∀(N:Nat),(∀k,k≤N→CallOK Γ P (runs M XE k).call)→∀{a:Act} {w:World} {β:Nat→Cell} {Ow:Key→Cell→Prop} {s s1:St} {e:Ex} {Q:Exit→Act→World→Prop},GR N0 w F β Ow (slots a) s.env s.heap undef .undef→ActOk n a→
   (∀k,k<m→(hget s.heap k).isSome=true)→(runs M XE N).loop (ks,ko,kx,mb) s=some (e,s1)→(∀a' w' β' Ow',Come N0 F m n w β Ow s1 a' w' β' Ow'→Q (exOf e) a' w')→Code.rounds P b Q N a w:=by
   intro N
   induction N with
   |zero=>intro _ a w β Ow s s1 e Q _ _ _ hs _;cases hs
   |succ N ihN=>
    intro hC a w β Ow s s1 e Q g ha hm hs hQ
    simp only[runs]at hs
    obtain⟨t,ht,hs⟩:=zbi hs
    obtain⟨⟨e2,t2⟩,ht2,hs⟩:=zbi hs
    have c0:Come N0 F m n w β Ow s a w β Ow:=⟨ha,g,Kp.refl N0 w _,FF.refl _ _,fun _ _=>rfl,hm⟩
    obtain⟨O1,c1⟩:=c0.keep hm100 ht
    rw[rounds_succ]
    refine ih.1 mb hk N (fun k hk=>hC k (by omega)) c1.gr c1.act c1.has ht2 fun a' w' β' Ow' hc=> ?_
    have hc:=c1.trans hc
    cases e2 with
    |norm=>
     exact ihN (fun k hk=>hC k (by omega)) hc.gr hc.act hc.has hs fun a2 w2 β2 O2 hc2=>hQ _ _ _ _ (hc.trans hc2)
    |exit id=>
     obtain⟨t3,ht3,hp⟩:=Option.map_eq_some_iff.1 hs
     simp only[zpi]at hp
     obtain⟨rfl,rfl⟩:=hp
     obtain⟨O3,c3⟩:=hc.keep hm100 ht3
     have:=hQ _ _ _ _ c3
     simp only[exOf]at this ⊢
     split<;>rename_i hh<;>simpa only[hh,and_self,if_true,if_false,Exit.then]using this
    |ret=>
     obtain⟨t3,ht3,hp⟩:=Option.map_eq_some_iff.1 hs
     simp only[zpi]at hp
     obtain⟨rfl,rfl⟩:=hp
     obtain⟨O3,c3⟩:=hc.keep hm100 ht3
     exact hQ _ _ _ _ c3
  exact wp_loop_rounds N (key N hC g ha hm hs hQ)
 |exit id=>
  refine⟨fun mc hk=> ?_,fun l rest mr hf=>by cases hf⟩
  intro N hC a w β Ow s s1 e g ha hm hs Q hQ
  cases mc<;>first|cases hk|skip
  simp only[okCode,zba,beq_iff_eq,Nat.blt_eq]at hk
  obtain⟨rfl,hid⟩:=hk
  simp only[step,zsi,zpi]at hs
  obtain⟨rfl,rfl⟩:=hs
  have:=hQ _ _ _ _ ⟨ha,g,Kp.refl N0 w _,FF.refl _ _,fun _ _=>rfl,hm⟩
  rw[exOf,if_neg (by omega)]at this
  exact wp_exit this
 |goto l=>
  refine⟨fun mc hk=> ?_,fun l rest mr hf=>by cases hf⟩
  intro N hC a w β Ow s s1 e g ha hm hs Q hQ
  cases mc<;>first|cases hk|skip
  simp only[okCode,zba,beq_iff_eq,Nat.blt_eq]at hk
  obtain⟨rfl,hid⟩:=hk
  simp only[step,zsi,zpi]at hs
  obtain⟨rfl,rfl⟩:=hs
  have:=hQ _ _ _ _ ⟨ha,g,Kp.refl N0 w _,FF.refl _ _,fun _ _=>rfl,hm⟩
  rw[exOf,if_pos (by omega),Nat.add_sub_cancel_left]at this
  exact wp_goto this
 |scope c ih=>
  refine⟨fun mc hk=> ?_,fun l rest mr hf=>by cases hf⟩
  intro N hC a w β Ow s s1 e g ha hm hs Q hQ
  cases mc<;>first|cases hk|skip
  rename_i b0 mb
  cases mb<;>first|cases hk|skip
  rename_i m1 m2
  cases m1<;>first|cases hk|skip
  rename_i g1 m3
  cases m3<;>first|cases hk|skip
  rename_i mc m4
  cases m4<;>first|cases hk|skip
  rename_i b1
  cases m2<;>first|cases hk|skip
  rename_i ks ko kx m5
  cases m5<;>first|cases hk|skip
  rename_i g2 m6
  cases m6<;>first|cases hk|skip
  rename_i mr m7
  cases m7<;>first|cases hk|skip
  rename_i b2
  simp only[okCode,zba,beq_iff_eq,Nat.ble_eq,Nat.blt_eq,Option.isSome_iff_exists]at hk
  obtain⟨⟨⟨⟨⟨⟨⟨⟨⟨⟨h0,hb1⟩,hb2⟩,hg⟩,h1⟩,h2⟩,rest,hf⟩,x1⟩,x2⟩,k1⟩,k2⟩:=hk
  subst hb1
  subst hb2
  subst hg
  have q1:=ih.1 _ k1
  have q2:=ih.2 _ rest _ hf k2
  have out: ∀j,j<1000000→exOf (.exit j)= .exit j:=fun j hj=>by rw[exOf,if_neg (by omega)]
  have lab:exOf (.exit g2)= .goto (g2-1000000):=by rw[exOf,if_pos ⟨h1,h2⟩]
  simp only[step]at hs
  obtain⟨⟨eX,sX⟩,hX,hs⟩:=Option.map_eq_some_iff.1 hs
  obtain⟨⟨e3,t3⟩,ht3,hX⟩:=zbi hX
  obtain⟨⟨e4,t4⟩,ht4,ht3⟩:=Option.map_eq_some_iff.1 ht3
  obtain⟨⟨e5,t5⟩,ht5,ht4⟩:=zbi ht4
  refine wp_scope_rounds (g2-1000000) (fun k a' w'=>k≤N∧∃s' β' Ow',Come N0 F m n w β Ow s' a' w' β' Ow'∧(runs M XE k).loop (ks,ko,kx,.block g2 (.seq mr (.exit b2))) s'=some (eX,sX)∧e3= .norm) hf ?_ ?_
  ·refine q1 N hC g ha hm ht5 fun a' w' β' Ow' hc=> ?_
   cases e5 with
   |norm=>
    simp only[zsi,zpi]at ht4
    obtain⟨rfl,rfl⟩:=ht4
    simp only[if_neg (show¬b2=g2 by omega),zpi]at ht3
    obtain⟨rfl,rfl⟩:=ht3
    simp only[zsi,zpi]at hX
    obtain⟨rfl,rfl⟩:=hX
    simp only[if_true,zpi]at hs
    obtain⟨rfl,rfl⟩:=hs
    exact hQ _ _ _ _ hc
   |ret=>
    simp only[zsi,zpi]at ht4
    obtain⟨rfl,rfl⟩:=ht4
    simp only[zpi]at ht3
    obtain⟨rfl,rfl⟩:=ht3
    simp only[zsi,zpi]at hX
    obtain⟨rfl,rfl⟩:=hX
    simp only[zpi]at hs
    obtain⟨rfl,rfl⟩:=hs
    exact hQ _ _ _ _ hc
   |exit j=>
    simp only[zsi,zpi]at ht4
    obtain⟨rfl,rfl⟩:=ht4
    rcases ex_only _ x1 _ _ _ _ ht5 with hj|rfl
    ·simp only[if_neg (show¬j=g2 by omega),zpi]at ht3
     obtain⟨rfl,rfl⟩:=ht3
     simp only[zsi,zpi]at hX
     obtain⟨rfl,rfl⟩:=hX
     simp only[if_neg (show¬j=b2 by omega),zpi]at hs
     obtain⟨rfl,rfl⟩:=hs
     have:=hQ _ _ _ _ hc
     rw[out j hj]at this ⊢
     exact this
    ·simp only[if_true,zpi]at ht3
     obtain⟨rfl,rfl⟩:=ht3
     rw[lab]
     exact⟨rfl,N,Nat.le_refl _,t5,β',Ow',hc,hX,rfl⟩
  ·rintro k a' w' ⟨hkN,s',β',Ow',hc,hl,rfl⟩
   cases k with
   |zero=>cases hl
   |succ k=>
    simp only[runs]at hl
    obtain⟨t,ht,hl⟩:=zbi hl
    obtain⟨⟨e6,t6⟩,ht6,hl⟩:=zbi hl
    simp only[step]at ht6
    obtain⟨⟨e7,t7⟩,ht7,ht6⟩:=Option.map_eq_some_iff.1 ht6
    obtain⟨⟨e8,t8⟩,ht8,ht7⟩:=zbi ht7
    obtain⟨O1,c1⟩:=hc.keep hm100 ht
    refine q2 k (fun i hi=>hC i (by omega)) c1.gr c1.act c1.has ht8 fun a2 w2 β2 O2 hc2=> ?_
    have hc2:=c1.trans hc2
    cases e8 with
    |norm=>
     simp only[zsi,zpi]at ht7
     obtain⟨rfl,rfl⟩:=ht7
     simp only[if_neg (show¬b2=g2 by omega),zpi]at ht6
     obtain⟨rfl,rfl⟩:=ht6
     obtain⟨t9,ht9,hp⟩:=Option.map_eq_some_iff.1 hl
     simp only[zpi]at hp
     obtain⟨rfl,rfl⟩:=hp
     simp only[if_true,zpi]at hs
     obtain⟨rfl,rfl⟩:=hs
     obtain⟨O3,c3⟩:=hc2.keep hm100 ht9
     exact hQ _ _ _ _ c3
    |ret=>
     simp only[zsi,zpi]at ht7
     obtain⟨rfl,rfl⟩:=ht7
     simp only[zpi]at ht6
     obtain⟨rfl,rfl⟩:=ht6
     obtain⟨t9,ht9,hp⟩:=Option.map_eq_some_iff.1 hl
     simp only[zpi]at hp
     obtain⟨rfl,rfl⟩:=hp
     simp only[zpi]at hs
     obtain⟨rfl,rfl⟩:=hs
     obtain⟨O3,c3⟩:=hc2.keep hm100 ht9
     exact hQ _ _ _ _ c3
    |exit j=>
     simp only[zsi,zpi]at ht7
     obtain⟨rfl,rfl⟩:=ht7
     rcases ex_only _ x2 _ _ _ _ ht8 with hj|rfl
     ·simp only[if_neg (show¬j=g2 by omega),zpi]at ht6
      obtain⟨rfl,rfl⟩:=ht6
      obtain⟨t9,ht9,hp⟩:=Option.map_eq_some_iff.1 hl
      simp only[zpi]at hp
      obtain⟨rfl,rfl⟩:=hp
      simp only[if_neg (show¬j=b2 by omega),zpi]at hs
      obtain⟨rfl,rfl⟩:=hs
      obtain⟨O3,c3⟩:=hc2.keep hm100 ht9
      have:=hQ _ _ _ _ c3
      rw[out j hj]at this ⊢
      exact this
     ·simp only[if_true,zpi]at ht6
      obtain⟨rfl,rfl⟩:=ht6
      rw[lab]
      exact⟨rfl,k,Nat.lt_succ_self k,by omega,t8,β2,O2,hc2,hl,rfl⟩
 |ret=>
  refine⟨fun mc hk=> ?_,fun l rest mr hf=>by cases hf⟩
  intro N hC a w β Ow s s1 e g ha hm hs Q hQ
  cases mc<;>first|cases hk|skip
  simp only[step,zsi,zpi]at hs
  obtain⟨rfl,rfl⟩:=hs
  exact wp_ret (hQ _ _ _ _ ⟨ha,g,Kp.refl N0 w _,FF.refl _ _,fun _ _=>rfl,hm⟩)
 |_=>
  refine⟨fun mc hk=> ?_,fun l rest mr hf=>by cases hf⟩
  cases mc<;>cases hk
theorem code_wp (hm100:m≤100): ∀(c:Code) (mc:MCode),okCode P n c mc=true→∀(N:Nat),(∀k,k≤N→CallOK Γ P (runs M XE k).call)→
 ∀{a:Act} {w:World} {β:Nat→Cell} {Ow:Key→Cell→Prop} {s s1:St} {e:Ex} {Q:Exit→Act→World→Prop},GR N0 w F β Ow (slots a) s.env s.heap undef .undef→ActOk n a→(∀k,k<m→(hget s.heap k).isSome=true)→
 step (runs M XE N) mc s=some (e,s1)→(∀a' w' β' Ow',Come N0 F m n w β Ow s1 a' w' β' Ow'→Q (exOf e) a' w')→c.wp P Q a w:=
 fun c mc hk N hC _ _ _ _ _ _ _ _ g ha hm hs hQ=>(code_good hm100 c).1 mc hk N hC g ha hm hs hQ
def resVar (tmps:Array Value):ResultVar→Sem Value
 | .tmp t=>pure (tmps.getD t undef)
 | .cell b t=>do loadVar t (←asAddr (tmps.getD b undef))
theorem res1 (g:GR N0 w F β Ow (slots a) s.env s.heap undef .undef){r:ResultVar}{x:MRes}(hk:okRes1 P r x=true){u:AV}(hu:resOf s x=some u):
 ∃y,(resVar a.tmps r).run P w= .ok y w∧VRel w (XX F Ow) β y u∧u.notOwn=true∧∀r∈refs u,(hget s.heap r).isSome=true:=by
 cases r with
 |tmp t=>
  cases x<;>first|cases hk|skip
  rename_i k
  simp only[okRes1,beq_iff_eq]at hk
  subst hk
  simp only[resOf,zsi]at hu
  subst hu
  exact⟨_,rfl,(g.slot t).1.cp,notOwn_cp _,fun r hr=>g.refE t r (by rwa [refs_cp]at hr)⟩
 |cell b t=>
  cases x<;>first|cases hk|skip
  rename_i k sz ag
  simp only[okRes1,zba,beq_iff_eq]at hk
  obtain⟨⟨rfl,hz⟩,hag⟩:=hk
  simp only[resOf]at hu
  split at hu
  ·rename_i o off he
   obtain⟨ob,hob,hu⟩:=zbi hu
   obtain⟨y,y1,y2,y3,y4⟩:=load_cells (g.obj o ob hob).cells hu hz hag
   have hv:=(g.slot b).1
   rw[he]at hv
   have hp:=hv.toPtr
   refine⟨y,?_,y2,y3,fun r hr=> ?_⟩
   ·simp only[slots]at hp
    simp only[resVar,hp,asAddr,Sem.run_bind,Sem.run_pure,Result.andThen_ok,y1]
   ·obtain⟨c,hc1,hc2⟩:=y4 r hr
    exact g.refH o ob hob c hc1 r hc2
  ·cases hu
theorem ress (g:GR N0 w F β Ow (slots a) s.env s.heap undef .undef): ∀(rs:List ResultVar) (xs:List MRes),okRess P rs xs=true→∀us,xs.mapM (resOf s)=some us→
 ∃ys:List Value,ys.length=us.length∧(rs.mapM (resVar a.tmps)).run P w= .ok ys w∧
  ∀i (h1:i<ys.length) (h2:i<us.length),VRel w (XX F Ow) β ys[i] us[i]∧us[i].notOwn=true∧∀r∈refs us[i],(hget s.heap r).isSome=true:=by
 intro rs
 induction rs with
 |nil=>
  intro xs hk us hu
  cases xs with
  |nil=>
   simp at hu
   subst hu
   exact⟨[],rfl,rfl,fun i h1=>absurd h1 (by simp)⟩
  |cons=>cases hk
 |cons r rs ih=>
  intro xs hk us hu
  cases xs with
  |nil=>cases hk
  |cons x xs=>
   simp only[okRess,zba]at hk
   rw[List.mapM_cons]at hu
   obtain⟨u,hu1,hu⟩:=zbi hu
   obtain⟨us',hu2,hu⟩:=zbi hu
   simp only[Option.pure_def,zsi]at hu
   subst hu
   obtain⟨y,y1,y2⟩:=res1 g hk.1 hu1
   obtain⟨ys,l,z1,z2⟩:=ih xs hk.2 us' hu2
   refine⟨y::ys,by simp[l],?_,fun i h1 h2=> ?_⟩
   ·rw[List.mapM_cons]
    simp only[Sem.run_bind,y1,Result.andThen_ok,z1,Sem.run_pure]
   ·cases i with
    |zero=>exact y2
    |succ i=>exact z2 i (by simpa using h1) (by simpa using h2)
end
def Call1 (Γ:Glob)(P:Program)(f:Nat)(args:List AV)(hin:List Obj)(res:AV)(hout:List Obj):Prop:=
 hin.length≤hout.length∧(∃fn,P.funcs[f]? =some fn∧(fn.name== "runtime.NumGoroutine")=false∧fn.body.isNone=false)∧
  ∀(N0:Base Γ) w F β Ow (args':Array Value),GR N0 w F β Ow (fun k=>args'.getD k undef) (enter args hin).env (enter args hin).heap undef .undef→args'.size=args.length→
   Calls P f args' w fun e w'=> ∃v Ow' β',e= .returned v∧(∀k,k<hin.length→β' k=β k)∧GR N0 w' F β' Ow' (fun _=>undef) [] (hout.zipIdx.map fun p=>(p.2,p.1)) v res∧res.notOwn=true∧Kp N0 w (XX F Ow) w' (XX F Ow')∧FF F w w'
theorem tree_flat {h:Heap}{a b:AV}(ht:tree h a=some b):b.flat2=true:=by
 have one: ∀{x y:AV},tcell h x=some y→y.flat2=true:=by
  intro x y hx
  cases x<;>simp only[tcell,zsi,reduceCtorEq]at hx
  case arr o off len e ag=>
   obtain⟨ob,-,hx⟩:=zbi hx
   obtain⟨xs,-,rfl⟩:=Option.map_eq_some_iff.1 hx
   rfl
  all_goals (subst hx;rfl)
 cases a with
 |agg cs=>
  simp only[tree]at ht
  obtain⟨ys,-,rfl⟩:=Option.map_eq_some_iff.1 ht
  rfl
 |_=>exact one (by simpa only[tree]using ht)
theorem treeN_spec {ns:List Nat}{h:Heap}{a b:AV}(ht:treeN ns h a=some b):tree h a=some b∧∀o∈arrs a,o∉ns:=by
 cases ns with
 |nil=>exact⟨ht,fun o _=>by simp⟩
 |cons n ns=>
  simp only[treeN]at ht
  split at ht
  ·rename_i hc
   refine⟨ht,fun o ho hm=> ?_⟩
   have:=List.all_eq_true.1 hc o ho
   simp only[Bool.not_eq_true',List.contains_eq_mem,decide_eq_false_iff_not]at this
   exact this hm
  ·cases ht
theorem reach_pre (h:Heap): ∀(n:Nat) (todo seen r:List Nat),reach h n todo seen=some r→∃l,r=seen.reverse++l:=by
 intro n
 induction n with
 |zero=>
  intro todo seen r hr
  cases todo with
  |nil=>simp only[reach,zsi]at hr;exact⟨[],by rw[←hr];simp⟩
  |cons=>cases hr
 |succ n ih=>
  intro todo seen r hr
  cases todo with
  |nil=>simp only[reach,zsi]at hr;exact⟨[],by rw[←hr];simp⟩
  |cons o todo=>
   simp only[reach]at hr
   split at hr
   ·exact ih _ _ _ hr
   ·split at hr
    ·cases hr
    ·obtain⟨l,hl⟩:=ih _ _ _ hr
     exact⟨o::l,by rw[hl];simp⟩
theorem reach_range (h:Heap)(m:Nat): ∀(n k:Nat) (rest r:List Nat),reach h n ((List.range' k (m-k))++rest) (List.range k).reverse=some r→k≤m→∃l,r=List.range m++l:=by
 intro n
 induction n with
 |zero=>
  intro k rest r hr hk
  by_cases e:k=m
  ·subst e
   obtain⟨l,hl⟩:=reach_pre h 0 _ _ _ hr
   exact⟨l,by rw[hl,List.reverse_reverse]⟩
  ·rw[show m-k=(m-k-1)+1 from by omega,List.range'_succ,List.cons_append]at hr
   cases hr
 |succ n ih=>
  intro k rest r hr hk
  by_cases e:k=m
  ·subst e
   obtain⟨l,hl⟩:=reach_pre h _ _ _ _ hr
   exact⟨l,by rw[hl,List.reverse_reverse]⟩
  ·rw[show m-k=(m-(k+1))+1 from by omega,List.range'_succ,List.cons_append]at hr
   simp only[reach]at hr
   rw[if_neg (by simp)]at hr
   split at hr
   ·cases hr
   ·rw[List.append_assoc]at hr
    rw[show k::(List.range k).reverse=(List.range (k+1)).reverse from by rw[List.range_succ,List.reverse_append];rfl]at hr
    exact ih (k+1) _ r hr (by omega)
section
variable {P:Program} {M:Prog} {XE:Nat→List AV→Option (AV×List Obj)} {Γ:Glob} {N0:Base Γ} {m n:Nat} {w w':World} {F X:Cell→Prop} {β:Nat→Cell} {Ow:Key→Cell→Prop} {env env':Env} {h h':Heap} {v:Value} {a0:AV} {a:Act} {R:CallF} {o:Oper} {sl:Nat→Value} {s s1 s2 s3:St} {Q:Exit→Act→World→Prop} {K:Act→World→Prop}
def oneV :List Value→Value
 | [y]=>y
 |ys=>.tuple ys.toArray
theorem run_results {fn:Func}{tmps:Array Value}{ys:List Value}
 (hr:(fn.results.toList.mapM (resVar tmps)).run P w= .ok ys w):
 (results fn tmps).run P w= .ok (oneV ys) w:=by
 have e:results fn tmps=(do let vs←fn.results.mapM (resVar tmps);pure (if h:vs.size=1 then vs[0]else .tuple vs)):=rfl
 rw[e,Array.mapM_eq_mapM_toList]
 clear e
 simp only[Sem.run_bind,Sem.run_map,hr,Result.andThen_ok,Sem.run_pure]
 match ys with
 | []=>rfl
 | [y]=>rfl
 |y::z::r=>simp[Result.andThen_ok,oneV]
theorem fin_ok {fn:Func}{G:MFunc}{n0:Nat}{s:St}{res:AV}{hout:List Obj}(k3:okRess P fn.results.toList G.res=true)(hfin:finish G n0 s=some (res,hout)):
 (n0≤hout.length∧n0≤100)∧∀(N0:Base Γ) (n:Nat) (F:Cell→Prop) (w:World) (β:Nat→Cell) (Ow:Key→Cell→Prop) (a':Act) (w':World) (β':Nat→Cell) (Ow':Key→Cell→Prop),Come N0 F n0 n w β Ow s a' w' β' Ow'→
   a'.defers=[]∧∃v,(results fn a'.tmps).run P w'= .ok v w'∧∃v1 O3 βe,Ending.returned v= .returned v1∧(∀k,k<n0→βe k=β k)∧GR N0 w' F βe O3 (fun _=>undef) [] (hout.zipIdx.map fun p=>(p.2,p.1)) v1 res∧res.notOwn=true∧Kp N0 w (XX F Ow) w' (XX F O3)∧FF F w w':=by
 simp only[finish,Option.bind_eq_bind,Option.pure_def]at hfin
 obtain⟨vs,hvs,hfin⟩:=zbi hfin
 obtain⟨ns,hns,hfin⟩:=zbi hfin
 obtain⟨rs,hrs,hfin⟩: ∃rs,(if G.handsRef=true then(if vs.all AV.flat2=true then some (vs.map (ren (idx ns)))else none)else vs.mapM (treeN ns s.heap))=some rs∧
  (ns.mapM fun o=>(hget s.heap o).map fun ob=>{ob with cells:=ob.cells.map (ren2 (idx ns))}).bind (fun out=>if Nat.ble n0 100=true then some (one rs,out)else none)=some (res,hout):=by
  split at hfin
  ·rename_i hh
   obtain⟨rs,h1,h2⟩:=zbi hfin
   exact⟨rs,by rw[if_pos hh];exact h1,h2⟩
  ·rename_i hh
   obtain⟨rs,h1,h2⟩:=zbi hfin
   exact⟨rs,by rw[if_neg hh];exact h1,h2⟩
 obtain⟨out,hout',hfin⟩:=zbi hfin
 split at hfin
 case isFalse=>cases hfin
 rename_i hm100
 simp only[Nat.ble_eq]at hm100
 simp only[zsi,zpi]at hfin
 obtain⟨rfl,rfl⟩:=hfin
 obtain⟨o1,o2⟩:=mapM_get hout'
 obtain⟨r1,r2,-,r4⟩:=reach_spec s.heap 64 _ _ _ hns List.nodup_nil (by simp)
 obtain⟨nl,hnl⟩:=reach_range s.heap n0 64 0 _ ns (by simpa [List.range_eq_range']using hns) (Nat.zero_le _)
 have hnn:n0≤ns.length:=by rw[hnl];simp
 have nsI: ∀i,i<n0→ns.getD i 0=i:=fun i hi=>by rw[hnl,List.getD_eq_getElem?_getD,List.getElem?_append_left (by simpa using hi)];simp[hi]
 have back: ∀o∈ns,ns.getD (ns.idxOf o) 0=o:=by
  intro o ho
  have:=List.idxOf_lt_length_iff.2 ho
  rw[List.getD_eq_getElem?_getD,zge this,Option.getD_some,List.getElem_idxOf]
 have backI: ∀i (hi:i<ns.length),ns.getD i 0=ns[i]:=fun i hi=>by rw[List.getD_eq_getElem?_getD,zge hi];rfl
 have idxI: ∀i (hi:i<ns.length),ns.idxOf ns[i]=i:=fun i hi=>r1.idxOf_getElem i hi
 have outI: ∀i (h1:i<ns.length) (h2:i<out.length),∃ob,hget s.heap ns[i]=some ob∧out[i]={ob with cells:=ob.cells.map (ren2 (idx ns))}:=by
  intro i h1 h2
  obtain⟨ob,e1,e2⟩:=Option.map_eq_some_iff.1 (o2 i h1 h2)
  exact⟨ob,e1,e2.symm⟩
 refine⟨⟨by omega,hm100⟩,?_⟩
 intro N0 n F w β Ow a' w' β' Ow' x
 let O2:=owIn Ow' ns
 let β3:Nat→Cell:=fun i=>β' (ns.getD i 0)
 have O2Ow: ∀k c,O2 k c→∃k',Ow' k' c∧((∃i,∃hi:i<ns.length,k'= .obj ns[i])∨∃i j,∃hi:i<ns.length,k'= .cell ns[i] j):=by
  intro k c hk
  cases k with
  |obj i=>obtain⟨hi,hk⟩:=hk;exact⟨_,hk,.inl ⟨i,hi,rfl⟩⟩
  |cell i j=>obtain⟨hi,hk⟩:=hk;exact⟨_,hk,.inr ⟨i,j,hi,rfl⟩⟩
  |_=>exact hk.elim
 have hx: ∀c,XX F O2 c→XX F Ow' c:=fun c hc=>hc.imp id fun⟨k,hk⟩=>let⟨k',h1,_⟩:=O2Ow k c hk;⟨k',h1⟩
 have kp:=(Kp.refl N0 w' (XX F Ow')).shrink hx
 have reV: ∀o,o∈ns→β3 (idx ns o)=β' o:=fun o ho=>by simp only[β3,idx];rw[back o ho]
 have ltI: ∀o,o∈ns→idx ns o<out.length:=fun o ho=>by have:=List.idxOf_lt_length_iff.2 ho;simp only[idx];omega
 have outSome: ∀r,r<out.length→(hget (out.zipIdx.map fun p=>(p.2,p.1)) r).isSome=true:=by
  intro r hr
  rw[hget_enter,zge hr];rfl
 obtain⟨ys,yl,yr,yv⟩:=ress x.gr _ _ k3 vs hvs
 have hrs2:rs.length=vs.length∧∀i (h1:i<ys.length) (h2:i<rs.length),VRel w' (XX F O2) β3 ys[i] rs[i]∧rs[i].notOwn=true∧rs[i].flat2=true∧∀r∈refs rs[i],r<out.length:=by
  split at hrs
  ·rename_i hh
   split at hrs
   ·rename_i hall
    injection hrs with hrs
    subst hrs
    refine⟨by simp,fun i h1 h2=> ?_⟩
    have hi:i<vs.length:=by simpa using h2
    have hfl:=List.all_eq_true.1 hall _ (List.getElem_mem hi)
    obtain⟨q1,q2,q3⟩:=yv i h1 hi
    have hmem: ∀o∈refs vs[i],o∈ns:=fun o ho=>r2 o (by
     rw[if_pos hh]
     exact List.mem_append_right _ (List.mem_flatMap.2 ⟨_,List.getElem_mem hi,ho⟩))
    simp only[List.getElem_map]
    refine⟨(q1.mono kp).re (idx ns) fun o ho=>reV o (hmem o ho),by rw[ren_notOwn];exact q2,?_,fun r hr=> ?_⟩
    ·revert hfl
     generalize vs[i]=z
     intro hfl
     cases z<;>first|rfl|cases hfl
    ·rw[refs_ren]at hr
     obtain⟨o,ho,rfl⟩:=List.mem_map.1 hr
     exact ltI o (hmem o ho)
   ·cases hrs
  ·obtain⟨t1,t2⟩:=mapM_get hrs
   refine⟨t1.symm,fun i h1 h2=> ?_⟩
   have hi:i<vs.length:=by omega
   obtain⟨q1,q2,q3⟩:=yv i h1 hi
   obtain⟨u1,u2⟩:=treeN_spec (t2 i hi h2)
   obtain⟨t1,t2,t3⟩:=tree_rel (β':=β3) x.gr hx q1 u1 (fun c hc hf=>by
    obtain⟨nm,hn,ob,hob,j,hj,rfl⟩:=hc
    have hnm:=u2 nm hn
    have q:=x.gr.obj nm ob hob
    rcases hf with hf|⟨k,hk⟩
    ·cases hw:ob.wr with
     |true=>exact x.gr.inv.apartF _ _ (q.wr hw j hj) hf
     |false=>exact q.rd hw j hj (.inl hf)
    ·obtain⟨k',hk1,hk2⟩:=O2Ow k _ hk
     cases hw:ob.wr with
     |true=>
      have:=x.gr.inv.apart _ _ _ hk1 (q.wr hw j hj)
      rcases hk2 with⟨i,hi,e⟩|⟨i,j',hi,e⟩
      ·rw[e]at this;injection this with this;exact hnm (this▸List.getElem_mem hi)
      ·rw[e]at this;cases this
     |false=>exact q.rd hw j hj (.inr ⟨k',hk1⟩))
   exact⟨t1,t2,tree_flat u1,fun r hr=>by rw[t3]at hr;cases hr⟩
 obtain⟨rl,rv⟩:=hrs2
 have hval:VRel w' (XX F O2) β3 (oneV ys) (one rs)∧(one rs).notOwn=true∧∀r∈refs (one rs),r<out.length:=by
  have gen:ys.length≠1→VRel w' (XX F O2) β3 (.tuple ys.toArray) (.tup rs)∧(AV.tup rs).notOwn=true∧∀r∈refs (.tup rs),r<out.length:=by
   intro _
   refine⟨.tup _ _ (by simp;omega) (fun b hb=> ?_) (fun i hi=> ?_),rfl,fun r hr=> ?_⟩
   ·obtain⟨i,hi,rfl⟩:=List.getElem_of_mem hb
    have:=rv i (by omega) hi
    exact⟨this.2.2.1,this.2.1⟩
   ·have:=rv i (by simpa using hi) (by simp at hi;omega)
    simpa using this.1
   ·simp only[refs,List.mem_flatMap]at hr
    obtain⟨b,hb,hr⟩:=hr
    obtain⟨i,hi,rfl⟩:=List.getElem_of_mem hb
    have:=rv i (by omega) hi
    refine this.2.2.2 r ?_
    have hf:=this.2.2.1
    revert hr hf
    generalize rs[i]=q
    intro hr hf
    cases q<;>first|exact hr|cases hf
  match ys,rs,yl,rl,rv,gen with
  | [],[],_,_,_,gen=>exact gen (by simp)
  | [y],[r],_,_,rv,_=>
    obtain⟨q1,q2,q3,q4⟩:=rv 0 (by simp) (by simp)
    exact⟨q1,q2,q4⟩
  |y::z::t,r::q::p,_,_,_,gen=>exact gen (by simp)
  | [],_::_,h1,h2,_,_=>simp at h1 h2;omega
  | [_],[],h1,h2,_,_=>simp at h1 h2;omega
  | [_],_::_::_,h1,h2,_,_=>simp at h1 h2;omega
  |_::_::_,[],h1,h2,_,_=>simp at h1 h2;omega
  |_::_::_,[_],h1,h2,_,_=>simp at h1 h2;omega
 have outGet: ∀i ob,hget (out.zipIdx.map fun p=>(p.2,p.1)) i=some ob→∃(hi:i<ns.length) (ob0:Obj),hget s.heap ns[i]=some ob0∧ob={ob0 with cells:=ob0.cells.map (ren2 (idx ns))}:=by
  intro i ob hob
  rw[hget_enter]at hob
  have hi:i<out.length:=by
   rcases Nat.lt_or_ge i out.length with hh|hh
   ·exact hh
   ·rw[List.getElem?_eq_none hh]at hob;cases hob
  rw[zge hi]at hob
  injection hob with hob
  obtain⟨ob0,e1,e2⟩:=outI i (by omega) hi
  exact⟨by omega,ob0,e1,by rw[←hob,e2]⟩
 have post:a'.defers=[]∧∃v,(results fn a'.tmps).run P w'= .ok v w'∧∃v1 O3 βe,Ending.returned v= .returned v1∧(∀k,k<n0→βe k=β k)∧GR N0 w' F βe O3 (fun _=>undef) [] (out.zipIdx.map fun p=>(p.2,p.1)) v1 (one rs)∧(one rs).notOwn=true∧Kp N0 w (XX F Ow) w' (XX F O3)∧FF F w w':=by
  refine⟨x.act.defers,_,run_results yr,_,O2,β3,rfl,fun k hk=> ?_,?_,hval.2.1,x.kp.shrink hx,x.ff⟩
  ·simp only[β3];rw[nsI k hk];exact x.at_ k hk
  exact{
   inv:={
    apart:=by
     intro k k' c h1 h2
     cases k<;>cases k'<;>first|exact h1.elim|exact h2.elim|skip
     case cell.cell i j i' j'=>
      obtain⟨q1,h1⟩:=h1
      obtain⟨q2,h2⟩:=h2
      have:=x.gr.inv.apart _ _ _ h1 h2
      injection this with e1 e2
      subst e2
      have:i=i':=by rw[←idxI i q1,←idxI i' q2,e1]
      rw[this]
     case cell.obj i j i'=>
      obtain⟨q1,h1⟩:=h1
      obtain⟨q2,h2⟩:=h2
      have:=x.gr.inv.apart _ _ _ h1 h2
      cases this
     case obj.cell i i' j'=>
      obtain⟨q1,h1⟩:=h1
      obtain⟨q2,h2⟩:=h2
      have:=x.gr.inv.apart _ _ _ h1 h2
      cases this
     case obj.obj i i'=>
      obtain⟨q1,h1⟩:=h1
      obtain⟨q2,h2⟩:=h2
      have:=x.gr.inv.apart _ _ _ h1 h2
      injection this with e1
      have:i=i':=by rw[←idxI i q1,←idxI i' q2,e1]
      rw[this]
    apartF:=fun k c hk hf=>let⟨k',h1,_⟩:=O2Ow k c hk;x.gr.inv.apartF _ _ h1 hf
    live:=fun c hc=>x.gr.inv.live c (hx c hc)
    low:=fun c hc=>x.gr.inv.low c (hx c hc)
    base:=x.gr.inv.base
    glob:=x.gr.inv.glob}
   slot:=fun k=>⟨.undef _,.of rfl⟩
   val:=⟨hval.1,.of hval.2.1⟩
   obj:=fun i ob hob=>by
    obtain⟨hi2,ob0,e1,e2⟩:=outGet i ob hob
    subst e2
    have q:=x.gr.obj _ ob0 e1
    obtain⟨ob0',e1',hcl⟩:=r4 _ (List.getElem_mem hi2)
    rw[e1]at e1'
    injection e1' with e1'
    subst e1'
    have hpl: ∀j,place β3 i j=place β' ns[i] j:=fun j=>by simp only[place,β3,backI i hi2]
    refine⟨fun j hj=> ?_,fun hw j hj=> ?_,fun hw j hj hf=> ?_⟩
    ·simp only[List.length_map]at hj
     obtain⟨c1,u,c2,c3,c4⟩:=q.cell j hj
     simp only[List.getElem_map]
     refine⟨by rw[ren2_isCell];exact c1,u,by rw[hpl];exact c2,(c3.mono kp).re2 (idx ns) (isCell_flat1 c1) fun o ho=>reV o (hcl _ (List.getElem_mem hj) o ho),(c4.ren2 _).mono fun c hc=>⟨hi2,hc⟩⟩
    ·simp only[List.length_map]at hj
     rw[hpl]
     exact⟨hi2,q.wr hw j hj⟩
    ·simp only[List.length_map]at hj
     rw[hpl]at hf
     exact q.rd hw j hj (hx _ hf)
   refE:=fun k r hr=>by simp at hr
   refV:=fun r hr=>outSome r (hval.2.2 r hr)
   refH:=fun i ob hob c hc r hr=>by
    obtain⟨hi2,ob0,e1,e2⟩:=outGet i ob hob
    subst e2
    obtain⟨ob0',e1',hcl⟩:=r4 _ (List.getElem_mem hi2)
    rw[e1]at e1'
    injection e1' with e1'
    subst e1'
    obtain⟨c0,hc0,rfl⟩:=List.mem_map.1 hc
    rw[refs2_ren]at hr
    obtain⟨o,ho,rfl⟩:=List.mem_map.1 hr
    exact outSome _ (ltI o (hcl c0 hc0 o ho))}
 exact post
theorem func_ok {f:Nat}{G:MFunc}(hk:okFunc P f G=true)(N:Nat)(hC: ∀k,k≤N→CallOK Γ P (runs M XE k).call){args:List AV}{hin:List Obj}{res:AV}{hout:List Obj}
 (hb:callB (runs M XE N) G args hin=some (res,hout)):Call1 Γ P f args hin res hout:=by
 unfold okFunc at hk
 split at hk
 case h_2=>cases hk
 rename_i fn hfn
 simp only[zba,Bool.not_eq_true',Nat.ble_eq]at hk
 obtain⟨⟨⟨k1,k2⟩,k3⟩,k4⟩:=hk
 split at k4
 case h_2=>cases k4
 rename_i c hbody
 unfold callB at hb
 split at hb
 case isFalse=>cases hb
 rename_i hargs
 obtain⟨⟨e,s⟩,hs,hb⟩:=zbi hb
 have hfin:finish G hin.length s=some (res,hout)∧(e= .norm∨e= .ret):=by
  cases e with
  |norm=>exact⟨hb,.inl rfl⟩
  |exit id=>cases hb
  |ret=>exact⟨hb,.inr rfl⟩
 obtain⟨hfin,he⟩:=hfin
 clear hb
 obtain⟨⟨hle,hm100⟩,hpost⟩:=fin_ok k3 hfin
 refine⟨hle,⟨fn,hfn,k1,by rw[hbody];rfl⟩,?_⟩
 intro N0 w F β Ow args' g hsz
 refine calls_of_wp hfn hbody (code_wp (m:=hin.length) (F:=F) (N0:=N0) hm100 c G.body k4 N hC (s:=enter args hin) (e:=e) (β:=β) (Ow:=Ow) ?_ ⟨?_,rfl⟩ ?_ hs ?_)
 ·have:slots {tmps:=args'++Array.replicate (fn.ntmps-args'.size) undef,defers:=[]}=fun k=>args'.getD k undef:=by
   funext k
   simp only[slots,Array.getD_eq_getD_getElem?]
   rcases Nat.lt_or_ge k args'.size with hlt|hge
   ·rw[Array.getElem?_append_left hlt]
   ·rw[Array.getElem?_append_right hge,Array.getElem?_eq_none hge,Array.getElem?_replicate]
    split<;>rfl
  rw[this]
  exact g
 ·simp;omega
 ·intro k hk
  simp only[enter,hget_enter,zge hk];rfl
 intro a' w' β' Ow' x
 have post:=hpost N0 fn.ntmps F w β Ow a' w' β' Ow' x
 rcases he with rfl|rfl
 ·exact post
 ·exact post
def ExtOK (Γ:Glob)(P:Program)(M:Prog)(XE:Nat→List AV→Option (AV×List Obj)):Prop:= ∀f args v o,M f=none→XE f args=some (v,o)→Call1 Γ P f args [] v o
theorem all_ok (hM: ∀f G,M f=some G→okFunc P f G=true)(hX:ExtOK Γ P M XE): ∀N k,k≤N→CallOK Γ P (runs M XE k).call:=by
 intro N
 induction N with
 |zero=>
  intro k hk
  obtain rfl:k=0:=by omega
  intro f args hin res hout h
  cases h
 |succ N ih=>
  intro k hk
  rcases Nat.lt_or_ge k (N+1)with hlt|hge
  ·exact ih k (by omega)
  obtain rfl:k=N+1:=by omega
  intro f args hin res hout h
  simp only[runs]at h
  cases hf:M f with
  |some G=>
   rw[hf]at h
   exact func_ok (hM f G hf) N ih h
  |none=>
   rw[hf]at h
   simp only at h
   split at h
   ·rename_i he
    have:hin=[]:=by simpa using he
    subst this
    exact hX f args res hout hf h
   ·cases h
theorem lim_ok (hM: ∀f G,M f=some G→okFunc P f G=true)(hX:ExtOK Γ P M XE){f:Nat}{args:List AV}{hin:List Obj}{res:AV}{hout:List Obj}(h:(lim M XE).call f args hin=some (res,hout)):Call1 Γ P f args hin res hout:=by
 obtain⟨k,hk⟩:=(lim_call M XE).1 h
 exact all_ok hM hX k k (Nat.le_refl _) _ _ _ _ _ hk
end
end Go.Proofs.PF
