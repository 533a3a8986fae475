/-
  Plain texts of this claim. Conditions: none beyond each theorem's own.
-/
import Derived.Test.YtaoijbibmcgdaaaGreatX3
import Derived.RangeFuncWrites
set_option linter.unusedVariables false
set_option linter.unusedSimpArgs false
namespace Go.Proofs.YtaoijbibmcgdaaaGreat.x0
open Go.Proofs Go.Proofs.PF Go.RowKit Go.Shelf
attribute [local go_sem] Oper.semAt_some
theorem wpListIn_append_zero {F:Fence}{n:Nat}{P:Program}(w:World){ops:Array Oper}{rest:List Oper}{o:Oper}{a:Act}{Q:Exit→Act→World→Prop}
 (hg:o.guard=none) (s x:Operand) (t:TypeId) (hop:o.op=Op.call {callee:=Callee.builtin Builtin.append,args:= #[s,x],argTypes:= #[t,t]}) (e:TypeId) (size:Nat) (h1:P.underlying t=some (.slice e)) (hz:szT P e=some size)
 (A:Option Addr) (len cap:Nat) (hs:a.eval s= .slice A len cap) (hc:len≤cap) (A2:Option Addr) (c2:Nat) (hx:a.eval x= .slice A2 0 c2)
 (hK:wpListIn F n P ops Q rest (a.put o.dst (.slice A len cap)) w):wpListIn F n P ops Q (o::rest) a w:=by
 refine wpListIn_plain hg fun K hK'=> ?_
 have hrun:(Builtin.append_ #[t,t] o.type #[.slice A len cap,.slice A2 0 c2]).run P w= .ok (.slice A (len+0) cap) w:=by
  refine run_app_room (news:=[]) h1 hz (by unfold srcT;rw[h1]) (by simp[Builtin.lenOf,go_sem]) ?_ (by omega) ?_
  ·cases A2<;>simp[Builtin.firstCells,go_sem]
  ·cases A<;>rfl
 unfold Oper.wpIn
 refine⟨?_,?_⟩
 ·simp[Oper.about,hop,resolve,Target.leads,Sem.run_pure]
 ·rw[Oper.semAt_plain F _ _ (by rw[hop];intro c hc';cases hc')]
  simp[execOp,hop,resolve,invoke,builtin,hs,hx,hrun,Result.andThen]
  exact hK' _ _ hK
def dvals (d:GDeliver):List Value:=[.int .i64 d.From,.int .i64 d.Slot,.int .i64 d.Cycle,.string ⟨d.Text.toArray⟩]
theorem dvals_len (l:List GDeliver):(l.flatMap dvals).length=l.length*4:=by
 induction l with
 |nil=>rfl
 |cons d l ih=>rw[List.flatMap_cons,List.length_append,ih,List.length_cons];simp[dvals];omega
theorem dvals_at {l:List GDeliver}{i j:Nat}(hi:i<l.length)(hj:j<4):(l.flatMap dvals)[i*4+j]? =(dvals l[i])[j]? :=by
 have:=(flatten_at (e:=4) (l.map dvals) (by intro x hx;obtain⟨d,-,rfl⟩:=List.mem_map.1 hx;rfl)).2 i j (by simpa using hi) (by simpa [dvals]using hj)
 rw[←List.flatMap_def]at this
 rw[this,zge (by simpa [dvals]using hj)]
 simp
theorem str_of {s:ByteArray}{l:List UInt8}(h:s.data.toList=l):s=⟨l.toArray⟩:=by
 subst h
 cases s
 simp
theorem dval_rel {w:World}{X:Cell→Prop}{β:Nat→Cell}{d:GDeliver}{j:Nat}(hj:j<4){u:Value}(h:VRel w X β u ((GDeliver.av d).cells[j]'(by simpa using hj))):(dvals d)[j]? =some u:=by
 match j,hj with
 |0,_=>cases h;rfl
 |1,_=>cases h;rfl
 |2,_=>cases h;rfl
 |3,_=>cases h with|str s l hs=>rw[str_of hs];rfl
theorem dval_rel' {w:World}{X:Cell→Prop}{β:Nat→Cell}{d:GDeliver}{j:Nat}(hj:j<4){u:Value}(h:(dvals d)[j]? =some u):VRel w X β u ((GDeliver.av d).cells[j]'(by simpa using hj)):=by
 match j,hj with
 |0,_=>injection h with h;subst h;exact .int _ _
 |1,_=>injection h with h;subst h;exact .int _ _
 |2,_=>injection h with h;subst h;exact .int _ _
 |3,_=>injection h with h;subst h;exact .str _ _ (by simp)
theorem got_cells {w:World}{β:Nat→Cell}{A:Option Addr}{cap:Nat}{l:List GDeliver}(h:VRel w nX β (.slice A (l.map GDeliver.av).length cap) (lav GDeliver.av l)):
 l=[]∨∃b o,A=some ⟨b,o,none⟩∧∀j u,(l.flatMap dvals)[j]? =some u→w.cell? ⟨b,o+j,none⟩=some u:=by
 cases l with
 |nil=>exact .inl rfl
 |cons d l=>
  right
  obtain⟨b,o,cp,e,-⟩:=lst_get h 0 (by simp)
  injection e with e1 e2 e3
  subst e1 e3
  refine⟨b,o,rfl,fun j u hu=> ?_⟩
  have hlt:j<((d::l).flatMap dvals).length:=by
   rcases Nat.lt_or_ge j ((d::l).flatMap dvals).length with h|h
   ·exact h
   ·rw[List.getElem?_eq_none h]at hu;cases hu
  rw[dvals_len]at hlt
  have hi:j/4<(d::l).length:=by omega
  have hj:j%4<4:=Nat.mod_lt _ (by omega)
  obtain⟨b',o',cp',e',hc⟩:=lst_get h (j/4) (by simpa using hi)
  injection e' with e1 e2 e3
  injection e1 with e1
  injection e1 with e1 e4
  subst e1 e4
  simp only[List.getElem_map]at hc
  obtain⟨u',h1,h2⟩:=hc (j%4) (by simpa using hj)
  have h3:=dval_rel hj h2
  have h4:=dvals_at hi hj
  rw[show j/4*4+j%4=j from by omega,hu,h3]at h4
  injection h4 with h4
  subst h4
  show w.cell? _=_
  have:o+(j/4*4+j%4)=o+j:=by omega
  simp only[AV.cells,List.length_cons,List.length_nil,Nat.zero_add]at h1
  rw[show(4:Nat)=0+1+1+1+1 from rfl]at this
  simpa [cat,this]using h1
theorem info56 :(Tryz.prog.info? 56).map (fun i=>(i.zero,i.size,i.bytes))=some (some (.agg #[.int .i64 0,.int .i64 0,.int .i64 0,.string ⟨#[]⟩]),4,40):=by kernel_rfl
theorem wp_app {F:Fence}{n:Nat}(w:World){ops:Array Oper}{rest:List Oper}{o:Oper}{a:Act}{Q:Exit→Act→World→Prop}
 (hg:o.guard=none) (s x:Operand) (hop:o.op=Op.call {callee:=Callee.builtin Builtin.append,args:= #[s,x],argTypes:= #[49,49]})
 (base:Nat) (v:Value) (k:Nat) (xs:List Value) (hs:a.eval s=v) (hown:w.ownsRow base 56 4 v k xs) (β:Nat→Cell) (A:Option Addr) (cap:Nat) (l:List GDeliver) (hx:a.eval x= .slice A l.length cap)
 (hl0:VRel w nX β (.slice A l.length cap) (lav GDeliver.av l)) (b1:k+l.length≤4294967296) (b3:base≤w.heap.size)
 (hK: ∀v' w',w'.ownsRow base 56 4 v' (k+l.length) (xs++l.flatMap dvals)→w.grownBy w' v.ownBlock→wpListIn F n Tryz.prog ops Q rest (a.put o.dst v') w'):
 wpListIn F n Tryz.prog ops Q (o::rest) a w:=by
 have hl:VRel w nX β (.slice A (l.map GDeliver.av).length cap) (lav GDeliver.av l):=by rw[List.length_map];exact hl0
 obtain⟨i,hi,hz0,hz1,hz2⟩:=info_parts info56
 rcases got_cells hl with rfl|⟨b,of,rfl,hc⟩
 ·have hown':=hown
  rcases hown.2 with⟨rfl,h0⟩|⟨g,cp,cur,rfl,hb,hgb,hk,-⟩
  ·refine wpListIn_append_zero w hg s x 49 hop 56 4 Tryz.underlying49 (by unfold szT;rw[hi];simp[hz1]) none 0 0 hs (Nat.le_refl _) A cap hx (hK _ _ (by simpa [h0]using hown') (World.grownBy.refl ..))
  ·refine wpListIn_append_zero w hg s x 49 hop 56 4 Tryz.underlying49 (by unfold szT;rw[hi];simp[hz1]) (some ⟨g,0,none⟩) k cp hs hk A cap hx (hK _ _ (by simpa using hown') (World.grownBy.refl ..))
 ·refine wpListIn_append_own w hg s x 49 hop base 56 i _ 4 40 Tryz.underlying49 hi hz0 hz1 hz2 rfl (by decide) v k xs hs hown ⟨b,of,none⟩ l.length cap (l.flatMap dvals) hx (dvals_len l) (fun j u hu=>by
   have:=hc j u hu
   by_cases h0:j=0
   ·subst h0;simpa [Addr.add]using this
   ·simpa [Addr.add,h0]using this) (fun u hu=> ?_) (by simp only[maxLen];omega) (by omega) b3 (fun v' w' h1 h2 _=>hK v' w' h1 h2)
  obtain⟨d,-,hd⟩:=List.mem_flatMap.1 hu
  simp only[dvals,List.mem_cons,List.not_mem_nil,or_false]at hd
  rcases hd with rfl|rfl|rfl|rfl<;>rfl
set_option maxHeartbeats 1000000 in
theorem ticks_in (n:Nat)(RV:Value)(hR:RV.oneCell'=true)(node fr to:Int)(w:World):
 CallsIn Fence.wide n Tryz.prog 180 #[RV,.int .i64 node,.int .i64 fr,.int .i64 to] w fun e w'=>e= .returned (.func (.func 223) #[] #[.pointer (some ⟨w.heap.size+2,0,none⟩),.pointer (some ⟨w.heap.size+3,0,none⟩),.pointer (some ⟨w.heap.size,0,none⟩),.pointer (some ⟨w.heap.size+1,0,none⟩)])∧
  w'=(((w.alloc (.cells #[RV] 29)).alloc (.cells #[.int .i64 node] 3)).alloc (.cells #[.int .i64 fr] 3)).alloc (.cells #[.int .i64 to] 3):=by
 refine callsIn_of_wp Tryz.func180 rfl trivial ?_ rfl
 simp only[Tryz.ntmps180,List.size_toArray,List.length_cons,List.length_nil,Nat.reduceAdd,Nat.reduceSub,Array.replicate_succ,Array.replicate_zero,List.push_toArray,List.append_toArray,List.nil_append,List.cons_append]
 gi_wp2
 go_ret
 exact⟨rfl,rfl⟩
end Go.Proofs.YtaoijbibmcgdaaaGreat.x0
