/-
  Plain texts of this claim. Conditions: none beyond each theorem's own.
-/
import Derived.Test.YtaoijbibmcgdaaaGreatX1
import Derived.Test.YtaoijbibmcgdaaaGreatD0
import Derived.RangeFuncBox
import Derived.RangeFuncLeaves
import Derived.Shelf.Abstract
import Derived.WalkKit
import Derived.OwnWalkIn
import Derived.TacticsInMore
import Derived.LoopNIn
import Derived.LoopIn
import Derived.Maps.OwnIn
set_option linter.unusedVariables false
set_option linter.unusedSimpArgs false
namespace Go.Proofs.YtaoijbibmcgdaaaGreat.x0
open Go.Proofs Go.Proofs.PF Go.RowKit Go.Shelf
attribute [local go_sem] Oper.semAt_some
set_option maxRecDepth 100000 in
set_option maxHeartbeats 2000000 in
theorem at_walk (n:Nat)(A:Option Addr)(len cap:Nat)(t node:Int)(W:World)
 (b o len2 cap2:Nat) (A2:Option Addr) (h0:0≤t) (h1:t<len) (hA:A=some ⟨b,o,none⟩) (hc:W.cell? ⟨b,o+t.toNat,none⟩=some (.slice A2 len2 cap2)) (h2:0≤node) (h3:node<len2) (b2 o2:Nat) (hA2:A2=some ⟨b2,o2,none⟩)
 (p s:Bool) (nu sl se:Int) (me:ByteArray) (A3:Option Addr) (len3 cap3:Nat)
 (hcc: ∀j (hj:j<7),W.cell? ⟨b2,o2+node.toNat*7+j,none⟩=some (#[Value.bool p,.bool s,.int .i64 nu,.int .i64 sl,.string me,.int .i64 se,.slice A3 len3 cap3][j])):
 CallsIn Fence.wide n Tryz.prog 112 #[.slice A len cap,.int .i64 t,.int .i64 node] W fun e W'=>e= .returned (.agg #[.bool p,.bool s,.int .i64 nu,.int .i64 sl,.string me,.int .i64 se,.slice A3 len3 cap3])∧Below W.heap.size W W':=by
 refine callsIn_of_wp Tryz.func112 rfl trivial ?_ rfl
 simp only[Tryz.ntmps112,List.size_toArray,List.length_cons,List.length_nil,Nat.reduceAdd,Nat.reduceSub,Array.replicate_succ,Array.replicate_zero,List.push_toArray,List.append_toArray,List.nil_append,List.cons_append]
 subst hA hA2
 have al: ∀(ob:Go.Obj) (p:Addr) (v:Value),W.cell? p=some v→(W.alloc ob).cell? p=some v:=fun ob p v h=>cell_kept h (World.grownBy_alloc W ob none) (fun r e=>by cases e)
 have hc':=fun ob=>al ob _ _ hc
 have e0: ∀ob,(W.alloc ob).cell? ⟨b2,o2+node.toNat*7,none⟩=some (.bool p):=fun ob=>al ob _ _ (hcc 0 (by decide))
 have e1: ∀ob,(W.alloc ob).cell? ⟨b2,o2+node.toNat*7+1,none⟩=some (.bool s):=fun ob=>al ob _ _ (hcc 1 (by decide))
 have e2: ∀ob,(W.alloc ob).cell? ⟨b2,o2+node.toNat*7+2,none⟩=some (.int .i64 nu):=fun ob=>al ob _ _ (hcc 2 (by decide))
 have e3: ∀ob,(W.alloc ob).cell? ⟨b2,o2+node.toNat*7+3,none⟩=some (.int .i64 sl):=fun ob=>al ob _ _ (hcc 3 (by decide))
 have e4: ∀ob,(W.alloc ob).cell? ⟨b2,o2+node.toNat*7+4,none⟩=some (.string me):=fun ob=>al ob _ _ (hcc 4 (by decide))
 have e5: ∀ob,(W.alloc ob).cell? ⟨b2,o2+node.toNat*7+5,none⟩=some (.int .i64 se):=fun ob=>al ob _ _ (hcc 5 (by decide))
 have e6: ∀ob,(W.alloc ob).cell? ⟨b2,o2+node.toNat*7+6,none⟩=some (.slice A3 len3 cap3):=fun ob=>al ob _ _ (hcc 6 (by decide))
 clear hcc hc al
 gi_wp2
 refine bodyPost_ret (v:=.agg #[.bool p,.bool s,.int .i64 nu,.int .i64 sl,.string me,.int .i64 se,.slice A3 len3 cap3]) ?_ rfl ⟨rfl,(Below.refl _ W).alloc (Nat.le_refl _) _⟩
 simp[results,Tryz.f112,go_sem]
noncomputable abbrev rep0 :Value:=.agg #[.bool false,.bool false,.int .i64 0,.int .i64 0,.string ⟨#[]⟩,.int .i64 0,.slice none 0 0]
set_option maxRecDepth 100000 in
set_option maxHeartbeats 2000000 in
theorem at_out (n:Nat)(A:Option Addr)(len cap:Nat)(t node:Int)(W:World)
 (hc:t<0∨(0≤t∧(len:Int)≤t)∨(0≤t∧t<len∧node<0)∨(0≤t∧t<len∧0≤node∧∃b o A2 len2 cap2,A=some ⟨b,o,none⟩∧W.cell? ⟨b,o+t.toNat,none⟩=some (.slice A2 len2 cap2)∧(len2:Int)≤node)):
 CallsIn Fence.wide n Tryz.prog 112 #[.slice A len cap,.int .i64 t,.int .i64 node] W fun e W'=>e= .returned rep0∧Below W.heap.size W W':=by
 have al: ∀(ob:Go.Obj) (p:Addr) (v:Value),W.cell? p=some v→(W.alloc ob).cell? p=some v:=fun ob p v h=>cell_kept h (World.grownBy_alloc W ob none) (fun r e=>by cases e)
 refine callsIn_of_wp Tryz.func112 rfl trivial ?_ rfl
 simp only[Tryz.ntmps112,List.size_toArray,List.length_cons,List.length_nil,Nat.reduceAdd,Nat.reduceSub,Array.replicate_succ,Array.replicate_zero,List.push_toArray,List.append_toArray,List.nil_append,List.cons_append]
 rcases hc with h|⟨h1,h2⟩|⟨h1,h2,h3⟩|⟨h1,h2,h3,b,o,A2,len2,cap2,rfl,hc,h4⟩
 ·clear al
  gi_wp2
  refine bodyPost_ret (v:=rep0) ?_ rfl ⟨rfl,(Below.refl _ W).alloc (Nat.le_refl _) _⟩
  simp[results,Tryz.f112,go_sem]
 ·clear al
  gi_wp2
  refine bodyPost_ret (v:=rep0) ?_ rfl ⟨rfl,(Below.refl _ W).alloc (Nat.le_refl _) _⟩
  simp[results,Tryz.f112,go_sem]
 ·clear al
  gi_wp2
  refine bodyPost_ret (v:=rep0) ?_ rfl ⟨rfl,(Below.refl _ W).alloc (Nat.le_refl _) _⟩
  simp[results,Tryz.f112,go_sem]
 ·have hc':=fun ob=>al ob _ _ hc
  clear al hc
  gi_wp2
  refine bodyPost_ret (v:=rep0) ?_ rfl ⟨rfl,(Below.refl _ W).alloc (Nat.le_refl _) _⟩
  simp[results,Tryz.f112,go_sem]
abbrev nX :Cell→Prop:=fun _=>False
noncomputable abbrev repV (p s:Bool)(nu sl:Int)(me:ByteArray)(se:Int)(A:Option Addr)(len cap:Nat):Value:=.agg #[.bool p,.bool s,.int .i64 nu,.int .i64 sl,.string me,.int .i64 se,.slice A len cap]
theorem rep_rel {w:World}{β:Nat→Cell}{u0 u1 u2 u3 u4 u5 u6:Value}{r:GReport}(h0:VRel w nX β u0 (.bool r.Pulse))(h1:VRel w nX β u1 (.bool r.Sync))(h2:VRel w nX β u2 (iav r.Number))(h3:VRel w nX β u3 (iav r.Slot))(h4:VRel w nX β u4 (.str r.Members))(h5:VRel w nX β u5 (iav r.Sent))(h6:VRel w nX β u6 (lav GDeliver.av r.Got)):
 ∃me A cap,me.data.toList=r.Members∧ #[u0,u1,u2,u3,u4,u5,u6]= #[Value.bool r.Pulse,.bool r.Sync,.int .i64 r.Number,.int .i64 r.Slot,.string me,.int .i64 r.Sent,.slice A (r.Got.map GDeliver.av).length cap]∧VRel w nX β (.slice A (r.Got.map GDeliver.av).length cap) (lav GDeliver.av r.Got):=by
 cases h0;cases h1;cases h2;cases h3;cases h5
 cases h4 with
 |str me l hm=>
  obtain⟨A,cap,rfl⟩:=lst_len h6
  exact⟨me,A,cap,hm,rfl,h6⟩
theorem at_val {w0:World}{β:Nat→Cell}{RV:Value}{rows:List (List GReport)}(hR:VRel w0 nX β RV (lav (lav GReport.av) rows))(t node:Int)(r:GReport)(hr:trace_At rows t node=some r):
 ∃me A cap,me.data.toList=r.Members∧VRel w0 nX β (.slice A (r.Got.map GDeliver.av).length cap) (lav GDeliver.av r.Got)∧
  ∀n W,Below w0.heap.size w0 W→CallsIn Fence.wide n Tryz.prog 112 #[RV,.int .i64 t,.int .i64 node] W fun e W'=>e= .returned (repV r.Pulse r.Sync r.Number r.Slot me r.Sent A (r.Got.map GDeliver.av).length cap)∧Below W.heap.size W W':=by
 obtain⟨A0,cap0,rfl⟩:=lst_len hR
 have hl:((rows.map (lav GReport.av)).length:Nat)=rows.length:=by simp
 have up: ∀{W:World} {b o:Nat} {u:Value},Below w0.heap.size w0 W→cat w0 (b,o)=some u→W.cell? ⟨b,o,none⟩=some u:=fun hB hc=>(hB.cell (p:=⟨_,_,none⟩) (cat_lt hc)).trans hc
 have none0:r=GReport.mk false false 0 0 [] 0 []→(∀n W,Below w0.heap.size w0 W→CallsIn Fence.wide n Tryz.prog 112 #[.slice A0 (rows.map (lav GReport.av)).length cap0,.int .i64 t,.int .i64 node] W fun e W'=>e= .returned rep0∧Below W.heap.size W W')→
  ∃me A cap,me.data.toList=r.Members∧VRel w0 nX β (.slice A (r.Got.map GDeliver.av).length cap) (lav GDeliver.av r.Got)∧
  ∀n W,Below w0.heap.size w0 W→CallsIn Fence.wide n Tryz.prog 112 #[.slice A0 (rows.map (lav GReport.av)).length cap0,.int .i64 t,.int .i64 node] W fun e W'=>e= .returned (repV r.Pulse r.Sync r.Number r.Slot me r.Sent A (r.Got.map GDeliver.av).length cap)∧Below W.heap.size W W':=by
  rintro rfl h
  exact⟨⟨#[]⟩,none,0,rfl,.lst0 _ _ _ (by simp),h⟩
 unfold trace_At at hr
 split at hr
 ·rename_i h
  injection hr with hr
  exact none0 hr.symm fun n W hB=>at_out n _ _ _ _ _ W (.inl h)
 ·rename_i h
  split at hr
  ·rename_i h2
   injection hr with hr
   exact none0 hr.symm fun n W hB=>at_out n _ _ _ _ _ W (.inr (.inl ⟨by omega,by rw[hl];omega⟩))
  ·rename_i h2
   split at hr
   ·rename_i h3
    injection hr with hr
    exact none0 hr.symm fun n W hB=>at_out n _ _ _ _ _ W (.inr (.inr (.inl ⟨by omega,by rw[hl];omega,h3⟩)))
   ·rename_i h3
    obtain⟨z0,hz0,hr⟩:=zbi hr
    have hi:=idx_in hz0
    have hz0':=idx_some hz0
    have hi':t.toNat<rows.length:=by omega
    have ez:rows[t.toNat]=z0:=by rw[zge hi']at hz0';injection hz0'
    obtain⟨b,o,cap,eA,hc⟩:=lst_get hR t.toNat (by rw[hl];exact hi')
    injection eA with eA _ ec
    subst eA ec
    obtain⟨u,hu,hv⟩:=hc 0 (by simp)
    simp only[List.getElem_map,ez,AV.cells,List.length_cons,List.length_nil,Nat.zero_add,Nat.mul_one,Nat.add_zero,List.getElem_cons_zero]at hu hv
    obtain⟨A2,cap2,rfl⟩:=lst_len hv
    have hl2:((z0.map GReport.av).length:Nat)=z0.length:=by simp
    split at hr
    ·rename_i h4
     injection hr with hr
     exact none0 hr.symm fun n W hB=>at_out n _ _ _ _ _ W (.inr (.inr (.inr ⟨by omega,by rw[hl];omega,by omega,b,o,A2,_,cap2,rfl,up hB hu,by rw[hl2];exact h4⟩)))
    ·rename_i h4
     obtain⟨z2,hz2,hr⟩:=zbi hr
     have:z2=z0:=by rw[hz0]at hz2;injection hz2 with hz2;exact hz2.symm
     subst this
     obtain⟨z3,hz3,hr⟩:=zbi hr
     injection hr with hr
     subst hr
     have hj:=idx_in hz3
     have hj':node.toNat<z2.length:=by omega
     have hz3':=idx_some hz3
     have ez3:z2[node.toNat]=z3:=by rw[zge hj']at hz3';injection hz3'
     obtain⟨b2,o2,cap3,eA,hc2⟩:=lst_get hv node.toNat (by rw[hl2];exact hj')
     injection eA with eA _ ec
     subst eA ec
     simp only[List.getElem_map,ez3,AV.cells,List.length_cons,List.length_nil,Nat.zero_add]at hc2
     obtain⟨u0,q0,v0⟩:=hc2 0 (by simp)
     obtain⟨u1,q1,v1⟩:=hc2 1 (by simp)
     obtain⟨u2,q2,v2⟩:=hc2 2 (by simp)
     obtain⟨u3,q3,v3⟩:=hc2 3 (by simp)
     obtain⟨u4,q4,v4⟩:=hc2 4 (by simp)
     obtain⟨u5,q5,v5⟩:=hc2 5 (by simp)
     obtain⟨u6,q6,v6⟩:=hc2 6 (by simp)
     obtain⟨me,A,cp,hm,harr,hg⟩:=rep_rel v0 v1 v2 v3 v4 v5 v6
     simp only[Array.mk.injEq,List.cons.injEq,and_true]at harr
     obtain⟨rfl,rfl,rfl,rfl,rfl,rfl,rfl⟩:=harr
     refine⟨me,A,cp,hm,hg,fun n W hB=> ?_⟩
     refine at_walk n _ _ _ t node W b o _ cap2 _ (by omega) (by rw[hl];omega) rfl (up hB hu) (by omega) (by rw[hl2];omega) b2 o2 rfl _ _ _ _ _ _ _ _ _ (fun j hj=> ?_)
     have hk: ∀k,o2+(node.toNat*7+k)=o2+node.toNat*7+k:=fun k=>by omega
     match j,hj with
     |0,_=>rw[←hk];exact up hB q0
     |1,_=>rw[←hk];exact up hB q1
     |2,_=>rw[←hk];exact up hB q2
     |3,_=>rw[←hk];exact up hB q3
     |4,_=>rw[←hk];exact up hB q4
     |5,_=>rw[←hk];exact up hB q5
     |6,_=>rw[←hk];exact up hB q6
end Go.Proofs.YtaoijbibmcgdaaaGreat.x0
