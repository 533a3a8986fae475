/-
  Plain texts of this claim. Conditions: none beyond each theorem's own.
-/
import Derived.Test.YtaoijbibmcgdaaaGreatX4
import Derived.RangeFuncNested
set_option linter.unusedVariables false
set_option linter.unusedSimpArgs false
namespace Go.Proofs.YtaoijbibmcgdaaaGreat.x0
open Go.Proofs Go.Proofs.PF Go.RowKit Go.Shelf
attribute [local go_sem] Oper.semAt_some
theorem Kq.trans {n0:Nat}{bs:List Nat}{A B C:World}(h:Kq n0 bs A B)(k:Kq n0 bs B C):Kq n0 bs A C:=⟨h.1.trans k.1,fun b hb=>(k.2 b hb).trans (h.2 b hb)⟩
theorem Kq.refl (n0:Nat)(bs:List Nat)(A:World):Kq n0 bs A A:=⟨Below.refl _ _,fun _ _=>rfl⟩
noncomputable def gl {w0:World}{β:Nat→Cell}(pre:List (ElT w0 β)):List GDeliver:=pre.flatMap fun x=>x.1.r.Got
theorem row_ne {W:World}{base:Nat}{v:Value}{k:Nat}{xs:List Value}(h:W.ownsRow base 56 4 v k xs){j:Nat}{o:Go.Obj}(hj:W.heap[j]? =some o)(hno: ∀cur,o≠.cells cur 56 (0,0)):v.ownBlock≠some j:=by
 intro e
 rcases h.2 with⟨rfl,_⟩|⟨g,cap,cur,rfl,_,hgb,_⟩
 ·cases e
 ·have:g=j:=by simpa [Value.ownBlock]using e
  subst this;rw[hgb]at hj;cases hj;exact hno cur rfl
theorem row_kept {W W':World}{row:Option Nat}{base:Nat}{v:Value}{k:Nat}{xs:List Value}(h:W.ownsRow base 56 4 v k xs)(hg:W.grownBy W' row)(hr: ∀r,row=some r→∃o:Go.Obj,W.heap[r]? =some o∧∀cur,o≠.cells cur 56 (0,0)):W'.ownsRow base 56 4 v k xs:=by
 refine h.kept hg ?_
 cases hv:v.ownBlock with
 |none=>exact .inl rfl
 |some g=>
  refine .inr fun e=> ?_
  obtain⟨o,ho,hno⟩:=hr g (by rw[←e])
  exact row_ne h ho hno hv
structure GotI (w:World)(A0:Option Addr)(L cap0:Nat)(node fr to:Int){β:Nat→Cell}(pre:List (ElT w β))(W:World):Prop where
 row: ∃v,W.heap[w.heap.size]? =some (.cells #[v] 49 (0,0))∧W.ownsRow w.heap.size 56 4 v (gl pre).length ((gl pre).flatMap dvals)
 below:Below w.heap.size w W
 size:w.heap.size+5≤W.heap.size
 b1:W.heap[w.heap.size+1]? =some (.cells #[.slice A0 L cap0] 29 (0,0))
 b2:W.heap[w.heap.size+2]? =some (.cells #[.int .i64 node] 3 (0,0))
 b3:W.heap[w.heap.size+3]? =some (.cells #[.int .i64 fr] 3 (0,0))
 b4:W.heap[w.heap.size+4]? =some (.cells #[.int .i64 to] 3 (0,0))
theorem GotI.own {w:World}{A0:Option Addr}{L cap0:Nat}{node fr to:Int}{β:Nat→Cell}:OwnFrom (w.heap.size+5) (GotI w A0 L cap0 node fr to (β:=β)):=by
 intro s W W' row h hg hr
 have kp: ∀k o,k<w.heap.size+5→W.heap[k]? =some o→W'.heap[k]? =some o:=fun k o hk ho=>(hg.block k (by have:=h.size;omega) (fun e=>by have:=(hr k e.symm).1;omega)).trans ho
 obtain⟨v,hv,ho⟩:=h.row
 refine⟨⟨v,kp _ _ (by omega) hv,row_kept ho hg fun r e=> ?_⟩,h.below.grown hg h.below.size (fun k e=>by have:=(hr k e).1;omega),Nat.le_trans h.size hg.size,kp _ _ (by omega) h.b1,kp _ _ (by omega) h.b2,kp _ _ (by omega) h.b3,kp _ _ (by omega) h.b4⟩
 obtain⟨-,o,h1,h2⟩:=hr r e
 exact⟨o,h1,fun cur e=>by subst e;cases h2⟩
theorem gl_len {w0:World}{β:Nat→Cell}(pre:List (ElT w0 β)):(gl pre).length≤pre.length*1048576:=by
 induction pre with
 |nil=>simp[gl]
 |cons x pre ih=>
  have:=x.2.2.2
  simp only[gl,List.flatMap_cons,List.length_append,List.length_cons]at ih ⊢
  omega
theorem gl_snoc {w0:World}{β:Nat→Cell}(pre:List (ElT w0 β))(x:ElT w0 β):gl (pre++[x])=gl pre++x.1.r.Got:=by simp[gl]
theorem kp_below {w W:World}(h:Below w.heap.size w W):Kp 0 w nX W nX:=
 ⟨h.os,h.tape,h.output,h.size,fun c hc=>World.frozen?_of_block (h.block c.1 hc),fun k hk=>absurd hk (Nat.not_lt_zero k),fun c v hc _=>⟨(World.cell?_of_block (h.block c.1 (cat_lt hc))).trans hc,fun h=>h⟩⟩
theorem cell_of {W:World}{B:Nat}{cs:Array Value}{t:TypeId}(h:W.heap[B]? =some (.cells cs t (0,0)))(j:Nat)(hj:j<cs.size):W.cell? ⟨B,j,none⟩=some cs[j]∧W.frozen? ⟨B,j,none⟩=false:=by
 constructor
 ·simp[World.cell?,h,hj]
 ·simp[World.frozen?,h]
theorem grown_set (W:World)(b:Nat)(v:Value):W.grownBy (W.setCell ⟨b,0,none⟩ v) (some b):=
 ⟨rfl,rfl,rfl,(KeepsWalks.setCell W _ v).size,fun k _ hk=>Below.heap_setCell _ _ _ k (fun e=>hk (by rw[e]))⟩
theorem box_set {W:World}{B:Nat}{v:Value}{t:TypeId}(v':Value)(h:W.heap[B]? =some (.cells #[v] t (0,0))):(W.setCell ⟨B,0,none⟩ v').heap[B]? =some (.cells #[v'] t (0,0)):=by
 obtain⟨hlt,hk⟩:=Array.getElem?_eq_some_iff.1 h
 show(W.heap.modify B _)[B]? =_
 rw[Array.getElem?_eq_getElem (by rw[Array.size_modify];exact hlt),Array.getElem_modify_self,hk]
 rfl
theorem got_round {w:World}{A0:Option Addr}{L cap0:Nat}{node fr to:Int}{β:Nat→Cell}{pre:List (ElT w β)}{x:ElT w β}{W w3:World}{v v':Value}(hI:GotI w A0 L cap0 node fr to pre W)
 (hv:W.heap[w.heap.size]? =some (.cells #[v] 49 (0,0))) (hrow:W.ownsRow w.heap.size 56 4 v (gl pre).length ((gl pre).flatMap dvals)) (hown':w3.ownsRow w.heap.size 56 4 v' ((gl pre).length+x.1.r.Got.length) ((gl pre).flatMap dvals++x.1.r.Got.flatMap dvals)) (hg3:W.grownBy w3 v.ownBlock):
 KeepsFrom (w.heap.size+5) W (w3.setCell ⟨w.heap.size,0,none⟩ v')∧Kq w.heap.size [w.heap.size+3,w.heap.size+4,w.heap.size+1,w.heap.size+2] W (w3.setCell ⟨w.heap.size,0,none⟩ v')∧GotI w A0 L cap0 node fr to (pre++[x]) (w3.setCell ⟨w.heap.size,0,none⟩ v'):=by
 have hsz:=hI.size
 have hg4:=grown_set w3 w.heap.size v'
 have lt: ∀{k:Nat} {o:Go.Obj},W.heap[k]? =some o→k<W.heap.size:=fun h=>(Array.getElem?_eq_some_iff.1 h).1
 have st3: ∀(k:Nat) (o:Go.Obj),W.heap[k]? =some o→(∀cur,o≠.cells cur 56 (0,0))→w3.heap[k]? =some o:=fun k o ho hno=>(hg3.block k (lt ho) (fun e=>row_ne hrow ho hno e.symm)).trans ho
 have all: ∀(k:Nat) (o:Go.Obj),W.heap[k]? =some o→(∀cur,o≠.cells cur 56 (0,0))→k≠w.heap.size→(w3.setCell ⟨w.heap.size,0,none⟩ v').heap[k]? =some o:=fun k o ho hno hk=>
  (hg4.block k (Nat.lt_of_lt_of_le (lt ho) hg3.size) (fun e=>hk (Option.some.inj e))).trans (st3 k o ho hno)
 have hv3:=st3 _ _ hv (fun cur e=>by cases e)
 have hs3:=hg3.size
 have hbl:Below w.heap.size W (w3.setCell ⟨w.heap.size,0,none⟩ v'):=
  ((Below.refl _ W).grown hg3 (by omega) (fun k e=>(hrow.lt k e).1)).grown hg4 (by omega) (fun k e=>by injection e with e;omega)
 refine⟨⟨Nat.le_trans hg3.size hg4.size,fun k o hk ho hc=>all k o ho (fun cur e=>by subst e;cases hc) (by omega)⟩,⟨hbl,fun b hb=> ?_⟩,?_⟩
 ·simp only[List.mem_cons,List.not_mem_nil,or_false]at hb
  rcases hb with rfl|rfl|rfl|rfl
  ·rw[hI.b3];exact all _ _ hI.b3 (fun cur e=>by cases e) (by omega)
  ·rw[hI.b4];exact all _ _ hI.b4 (fun cur e=>by cases e) (by omega)
  ·rw[hI.b1];exact all _ _ hI.b1 (fun cur e=>by cases e) (by omega)
  ·rw[hI.b2];exact all _ _ hI.b2 (fun cur e=>by cases e) (by omega)
 ·refine⟨⟨v',box_set v' hv3,?_⟩,hI.below.trans hbl,Nat.le_trans hsz (Nat.le_trans hg3.size hg4.size),all _ _ hI.b1 (fun cur e=>by cases e) (by omega),all _ _ hI.b2 (fun cur e=>by cases e) (by omega),all _ _ hI.b3 (fun cur e=>by cases e) (by omega),all _ _ hI.b4 (fun cur e=>by cases e) (by omega)⟩
  rw[gl_snoc,List.length_append,List.flatMap_append]
  exact row_kept hown' hg4 fun r e=>by injection e with e;subst e;exact⟨_,hv3,fun cur e=>by cases e⟩
set_option maxRecDepth 100000 in
set_option maxHeartbeats 4000000 in
theorem Got_in (n:Nat)(hn:3≤n){w:World}{β:Nat→Cell}(A0:Option Addr)(L cap0:Nat)(node fr to lo:Int)(N:Nat)(hlo:lo=max fr 0)(hN: ∀k:Nat,k≤N→(lo+k<min to L↔k<N))(hL:(L:Int)≤4294967296)
 (hfr: -9223372036854775808≤fr∧fr≤9223372036854775807) (el:Nat→ElT w β) (hel: ∀k,k<N→(el k).1.t=lo+k)
 (hat: ∀k,k<N→∀n W,Below w.heap.size w W→CallsIn Fence.wide n Tryz.prog 112 #[.slice A0 L cap0,.int .i64 (lo+k),.int .i64 node] W fun e W'=>e= .returned (elR (el k).1)∧Below W.heap.size W W') (hN4:N≤4096):
 CallsIn Fence.wide n Tryz.prog 113 #[.slice A0 L cap0,.int .i64 node,.int .i64 fr,.int .i64 to] w fun e W'=> ∃v,e= .returned v∧W'.ownsRow w.heap.size 56 4 v (gl ((List.range N).map el)).length ((gl ((List.range N).map el)).flatMap dvals)∧Below w.heap.size w W':=by
 have h1:1≤n:=by omega
 refine callsIn_of_wp_marks Tryz.func113 rfl trivial ?_ rfl
 simp only[Tryz.ntmps113,List.size_toArray,List.length_cons,List.length_nil,Nat.reduceAdd,Nat.reduceSub,Array.replicate_succ,Array.replicate_zero,List.push_toArray,List.append_toArray,List.nil_append,List.cons_append]
 gi_wp2
 refine And.intro True.intro ?_
 refine(ticks_in (n-1) (.slice A0 L cap0) rfl node fr to _).mono ?_
 rintro e w' ⟨rfl,rfl⟩
 simp only[]
 gi_wp2
 simp only[World.size_alloc,Nat.add_assoc,Nat.reduceAdd]
 obtain⟨W1,hW1⟩: ∃W1,((((w.alloc (.cells #[.slice none 0 0] 49)).alloc (.cells #[.slice A0 L cap0] 29)).alloc (.cells #[.int .i64 node] 3)).alloc (.cells #[.int .i64 fr] 3)).alloc (.cells #[.int .i64 to] 3)=W1:=⟨_,rfl⟩
 rw[hW1]
 have hh:W1.heap=((((w.heap.push (.cells #[.slice none 0 0] 49)).push (.cells #[.slice A0 L cap0] 29)).push (.cells #[.int .i64 node] 3)).push (.cells #[.int .i64 fr] 3)).push (.cells #[.int .i64 to] 3):=by rw[←hW1];rfl
 have hs1:W1.heap.size=w.heap.size+5:=by rw[hh];simp
 have hb1:Below w.heap.size w W1:=by
  rw[←hW1]
  exact(((((Below.refl _ w).alloc (Nat.le_refl _) _).alloc (by simp) _).alloc (by simp;omega) _).alloc (by simp;omega) _).alloc (by simp;omega) _
 have hI0:GotI w A0 L cap0 node fr to (β:=β) [] W1:=by
  refine⟨⟨.slice none 0 0,?_,rfl,.inl ⟨rfl,rfl⟩⟩,hb1,by omega,?_,?_,?_,?_⟩<;>(rw[hh];simp only[Array.getElem?_push,Array.size_push];simp only[show w.heap.size+1+1=w.heap.size+2 from rfl,show w.heap.size+1+1+1=w.heap.size+3 from rfl,show w.heap.size+1+1+1+1=w.heap.size+4 from rfl];simp;try omega)
 clear hW1 hh
 refine wpIn_rangeFunc_ownH rfl h1 (gf:=223) (lb:= #[.pointer (some ⟨w.heap.size+3,0,none⟩),.pointer (some ⟨w.heap.size+4,0,none⟩),.pointer (some ⟨w.heap.size+1,0,none⟩),.pointer (some ⟨w.heap.size+2,0,none⟩)]) rfl True.intro (enters_of Tryz.func223 (by kernel_rfl) rfl)
  (encs:=elV) (Kp:=Kq w.heap.size [w.heap.size+3,w.heap.size+4,w.heap.size+1,w.heap.size+2]) (S:=fun ys=>ys=(List.range N).map el) (Sp:=fun _=>True) (N:=N) (w0:=W1) ?seq Kq.trans ?kb (Below.refl _ _) (fun _=>rfl)
  (GotI w A0 L cap0 node fr to) (fun _ _ _=>False) (by rw[hs1];exact GotI.own) (fun _ _ _ _ _ hs _ _=>hs) hI0
  (fun x a' W=> ∃B,a'={tmps:= #[.slice A0 L cap0,.int .i64 node,.int .i64 fr,.int .i64 to,undef,undef,undef,undef,.slice none 0 0,.pointer (some ⟨w.heap.size,0,none⟩),undef,.pointer (some ⟨B,0,none⟩),.slice A0 L cap0,.int .i64 node,.int .i64 fr,.int .i64 to,.func (.func 223) #[] #[.pointer (some ⟨w.heap.size+3,0,none⟩),.pointer (some ⟨w.heap.size+4,0,none⟩),.pointer (some ⟨w.heap.size+1,0,none⟩),.pointer (some ⟨w.heap.size+2,0,none⟩)],.int .i64 x.1.t,elR x.1,undef,undef,undef,undef,undef],defers:=[]}∧
    W.heap[B]? =some (.cells #[.bool x.1.r.Pulse,.bool x.1.r.Sync,.int .i64 x.1.r.Number,.int .i64 x.1.r.Slot,.string x.1.me,.int .i64 x.1.r.Sent,.slice x.1.A x.1.r.Got.length x.1.cap] 51 (0,0))∧w.heap.size+5≤B)
  ?ax ?assign ?body ?done ?stop
 case seq=>
  intro l J Jx W hW hJ hJx hY h0
  have hI:=hI0
  have kp: ∀k o,k<w.heap.size+5→W1.heap[k]? =some o→W.heap[k]? =some o:=fun k o hk ho=>(hW.block k (by omega)).trans ho
  exact ticks1_in (n-1) (by omega) l _ _ _ _ fr to node lo N L A0 cap0 hlo hN hL hfr el hel hat J Jx W hJ hY (hb1.trans (hW.mono hb1.size)) (cell_of (kp _ _ (by omega) hI.b3) 0 (by simp)).1 (cell_of (kp _ _ (by omega) hI.b4) 0 (by simp)).1 (cell_of (kp _ _ (by omega) hI.b1) 0 (by simp)).1 (cell_of (kp _ _ (by omega) hI.b2) 0 (by simp)).1 h0
 case kb=>
  intro W l o o' hl ho _ _
  refine⟨belowK_b (w:=w) (Nat.le_refl _) W l o o' (by omega) ho (by assumption) (by assumption),fun b hb=>World.putObj_heap_other ?_⟩
  simp only[List.mem_cons,List.not_mem_nil,or_false]at hb
  omega
 case ax=>
  rintro x a' _ W W' row ⟨B,rfl,hB,h5⟩ hg hr
  refine⟨B,rfl,(hg.block B (Array.getElem?_eq_some_iff.1 hB).1 (fun e=> ?_)).trans hB,h5⟩
  obtain⟨-,o,h2,h3⟩:=hr B e.symm
  rw[hB]at h2;cases h2;cases h3
 case assign=>
  intro l pre x W K hI hK
  gi_wp2
  refine hK _ _ ⟨by simp,fun k o _ ho hc=>(Below.heap_alloc W _ k (Array.getElem?_eq_some_iff.1 ho).1).trans ho⟩ ⟨(Below.refl _ W).alloc hI.below.size _,fun b hb=>Below.heap_alloc W _ b (by have:=hI.size;simp only[List.mem_cons,List.not_mem_nil,or_false]at hb;omega)⟩
   (GotI.own _ _ _ none hI (World.grownBy_alloc W _ none) (fun r e=>by cases e)) ⟨W.heap.size,rfl,World.alloc_heap_new W _,hI.size⟩
 case body=>
  rintro l pre x _ W hl hr hI ⟨B,rfl,hB,h5⟩ hlen
  obtain⟨v,hv,hrow⟩:=hI.row
  have hsz:=hI.size
  have c0:W.cell? ⟨w.heap.size,0,none⟩=some v:=(cell_of hv 0 (by simp)).1
  have f0:=(cell_of hv 0 (by simp)).2
  have c6:W.cell? ⟨B,6,none⟩=some (.slice x.1.A x.1.r.Got.length x.1.cap):=(cell_of hB 6 (by simp)).1
  have hx:=(x.2.2.1).mono (kp_below hI.below)
  have hgl:=gl_len pre
  have hg1:=x.2.2.2
  gi_wp2_with (gi_at_builtin;refine wp_app _ rfl _ _ rfl w.heap.size v _ _ rfl hrow β x.1.A x.1.cap x.1.r.Got rfl hx (by omega) (by omega) ?_;intro v' w3 hown' hg3
               have hv3:w3.heap[w.heap.size]? =some (.cells #[v] 49 (0,0)):=(hg3.block w.heap.size (by omega) (fun e=>row_ne hrow hv (fun cur e=>by cases e) e.symm)).trans hv
               have c3:w3.cell? ⟨w.heap.size,0,none⟩=some v:=(cell_of hv3 0 (by simp)).1
               have f3:=(cell_of hv3 0 (by simp)).2
               obtain⟨A',n',cap',rfl⟩: ∃A' n' cap',v'= .slice A' n' cap':=by
                rcases hown'.2 with⟨rfl,-⟩|⟨g,cp,cur,rfl,-⟩<;>exact⟨_,_,_,rfl⟩
               go_frame)
  rw[hs1]
  exact got_round hI hv hrow hown' hg3
 case done=>
  rintro D ys W hD rfl hI hK
  obtain⟨v,hv,hrow⟩:=hI.row
  have c0:W.cell? ⟨w.heap.size,0,none⟩=some v:=(cell_of hv 0 (by simp)).1
  gi_wp2
  refine⟨by simp,.inl ⟨_,_,rfl,run_takeDeferred hK,?_⟩⟩
  exact⟨_,results_tmp rfl _ _ _,v,rfl,row_kept hrow (grownBy_putObj' W D _) (fun r e=>by injection e with e;subst e;exact⟨_,hK,fun cur e=>by cases e⟩),hI.below.trans (belowK_b (w:=w) (Nat.le_refl _) W D _ _ (by omega) hK rfl rfl)⟩
 case stop=>
  rintro D c pre W _ _ h _
  exact h.elim
end Go.Proofs.YtaoijbibmcgdaaaGreat.x0
