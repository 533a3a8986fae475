/-
  Plain texts of this claim. Conditions: none beyond each theorem's own.
-/
import Derived.Test.YtaoijbibmcgdaaaGreatX5
import Derived.Maps.OwnIn
import Derived.Maps.Views
set_option linter.unusedVariables false
set_option linter.unusedSimpArgs false
namespace Go.Proofs.YtaoijbibmcgdaaaGreat.x0
open Go.Proofs Go.Proofs.PF Go.RowKit Go.Shelf
attribute [local go_sem] Oper.semAt_some
noncomputable def ndLoop (m:Ground_machine)(r:GRound):List GDeliver→Int→List Int→Option (Int⊕List Int)
 | [],_,hs=>some (.inr hs)
 |d::ds,last,hs=>(round_machine_message m r d last).bind fun e=>if e=0 then ndLoop m r ds d.Slot (d.Slot::hs)else some (.inl e)
noncomputable def ndLate (m:Ground_machine)(hs:List Int):List Int→Int→Option Int
 | [],_=>some 0
 |o::os,k=>if k∈hs then ndLate m hs os (k+1)else(round_machine_lies m o).bind fun b=>if b=true then ndLate m hs os (k+1)else some 10
noncomputable def round_machine_node (m:Ground_machine)(r:GRound)(l:List GDeliver):Option Int:=
 if l.length≤4294967296∧m.Conf.Table.length≤4294967296 then(ndLoop m r l (-1) []).bind fun q=>match q with
  | .inl e=>some e
  | .inr hs=>ndLate m hs m.Conf.Table 0 else none
noncomputable abbrev mcA (c:GConf)(A:Option Addr)(len cap:Nat)(B:Option Addr)(len2 cap2:Nat):Array Value:= #[.int .i64 c.N,.int .i64 c.F,.int .i64 c.D,.int .i64 c.Period,.int .i64 c.Rate,.int .i64 c.Drift,.int .i64 c.Offset,.int .i64 c.Slot,.int .i64 c.Mod,.int .i64 c.Fresh,.slice A len cap,.slice B len2 cap2]
noncomputable abbrev rdA (nu:Int)(me:ByteArray)(A:Option Addr)(len cap:Nat)(B:Option Addr)(len2 cap2:Nat):Array Value:= #[.int .i64 nu,.string me,.slice A len cap,.slice B len2 cap2]
theorem wf64 {x:Int}(h: -9223372036854775808≤x∧x≤9223372036854775807):(Lit.int .i64 x).wf=true:=by
 simpa [Lit.wf,IntKind.min,IntKind.max,IntKind.bits,IntKind.signed]using h
theorem int_at {w:World}{β:Nat→Cell}{A:Option Addr}{cap n:Nat}{l:List Int}(h:VRel w nX β (.slice A n cap) (lav iav l)){k:Nat}(hk:k<l.length): ∃b o,A=some ⟨b,o,none⟩∧w.cell? ⟨b,o+k,none⟩=some (.int .i64 l[k]):=by
 obtain⟨b,o,cp,e,hc⟩:=lst_get h k (by simpa using hk)
 injection e with e1 e2 e3
 subst e1
 obtain⟨u,h1,h2⟩:=hc 0 (by simp)
 simp only[List.getElem_map,AV.cells,List.length_cons,List.length_nil,Nat.zero_add,Nat.mul_one,Nat.add_zero,List.getElem_cons_zero]at h1 h2
 cases h2
 exact⟨b,o,rfl,h1⟩
theorem dagg {w:World}{X:Cell→Prop}{β:Nat→Cell}(d:GDeliver):VRel w X β (.agg (dvals d).toArray) (GDeliver.av d):=by
 refine .agg _ _ rfl (fun a ha=> ?_) fun j hj=> ?_
 ·simp only[List.mem_cons,List.not_mem_nil,or_false]at ha
  rcases ha with rfl|rfl|rfl|rfl<;>exact⟨rfl,rfl⟩
 ·have hj':j<4:=hj
  match j,hj' with
  |0,_=>exact .int _ _
  |1,_=>exact .int _ _
  |2,_=>exact .int _ _
  |3,_=>exact .str _ _ (by simp)
theorem msg_in {w:World}{β:Nat→Cell}{MV RV:Value}{m:Ground_machine}{r:GRound}(hM:VRel w nX β MV (Ground_machine.av m))(hR:VRel w nX β RV (GRound.av r)){d:GDeliver}{last e:Int}(he:round_machine_message m r d last=some e)
 (n:Nat) (W:World) (hB:Below w.heap.size w W):CallsIn Fence.wide n Tryz.prog 203 #[MV,RV,.agg (dvals d).toArray,.int .i64 last] W fun e' W'=>e'= .returned (.int .i64 e)∧Below W.heap.size W W':=by
 refine callsIn_wide.2 ?_
 obtain⟨q,hq,rfl⟩:=(round_machine_message_sim m r d last).h e he
 refine(call_data (lookF_ok fs_ok) xe_ok hq (β:=β) rfl (fun i h1 h2=> ?_) (fun a ha=> ?_)).mono ?_
 ·have h4:i<4:=h1
  match i,h4 with
  |0,_=>exact hM.mono (kp_below hB)
  |1,_=>exact hR.mono (kp_below hB)
  |2,_=>exact dagg d
  |3,_=>exact .int _ _
 ·simp only[List.mem_cons,List.not_mem_nil,or_false]at ha
  rcases ha with rfl|rfl|rfl|rfl<;>exact⟨rfl,rfl⟩
 ·rintro e' W' ⟨v,rfl,hv,hb⟩
  cases hv
  exact⟨rfl,hb⟩
theorem msg_ok {m:Ground_machine}{r:GRound}{d:GDeliver}{last:Int}(h:round_machine_message m r d last=some 0):last<d.Slot∧d.Slot<m.Conf.Table.length:=by
 unfold round_machine_message at h
 split at h
 ·cases h
 ·split at h
  ·cases h
  ·omega
theorem lies_in {w:World}{β:Nat→Cell}{MV:Value}{m:Ground_machine}(hM:VRel w nX β MV (Ground_machine.av m)){o:Int}{b:Bool}(he:round_machine_lies m o=some b)
 (n:Nat) (W:World) (hB:Below w.heap.size w W):CallsIn Fence.wide n Tryz.prog 202 #[MV,.int .i64 o] W fun e' W'=>e'= .returned (.bool b)∧Below W.heap.size W W':=by
 refine callsIn_wide.2 ?_
 obtain⟨q,hq,rfl⟩:=(round_machine_lies_sim m o).h b he
 refine(call_data (lookF_ok fs_ok) xe_ok hq (β:=β) rfl (fun i h1 h2=> ?_) (fun a ha=> ?_)).mono ?_
 ·have h4:i<2:=h1
  match i,h4 with
  |0,_=>exact hM.mono (kp_below hB)
  |1,_=>exact .int _ _
 ·simp only[List.mem_cons,List.not_mem_nil,or_false]at ha
  rcases ha with rfl|rfl<;>exact⟨rfl,rfl⟩
 ·rintro e' W' ⟨v,rfl,hv,hb⟩
  cases hv
  exact⟨rfl,hb⟩
abbrev DW :=DataW Unit
def cnt (hs:List Int)(k:Int):Int:=if k∈hs then 1 else 0
def MapOk (hs:List Int)(D:DW):Prop:=Maps.IsMap D∧∀k:Int,D.atKey (.int .i64 k) (.lit (.int .i64 0))= .lit (.int .i64 (cnt hs k))
theorem MapOk.nil :MapOk [] (.map []):=⟨Maps.isMap_empty,fun k=>rfl⟩
theorem MapOk.put {hs:List Int}{D:DW}(h:MapOk hs D){k:Int}:MapOk (k::hs) (D.put (.int .i64 k) (.lit (.int .i64 1))):=by
 refine⟨h.1.put _ _,fun j=> ?_⟩
 by_cases hj:j=k
 ·subst hj
  rw[Maps.atKey_put_same h.1 (show WideAt.IsKeyLit (.int .i64 j)from True.intro),cnt,if_pos (by simp)]
 ·rw[Maps.atKey_put_other (by intro e;injection e with _ e;exact hj e),h.2 j,cnt,cnt]
  simp[hj]
structure NdI (w:World)(MA RA:Array Value)(i:Nat)(hs:List Int)(W:World):Prop where
 below:Below w.heap.size w W
 size:w.heap.size+3≤W.heap.size
 bm:W.heap[w.heap.size]? =some (.cells MA 147 (0,0))
 br:W.heap[w.heap.size+1]? =some (.cells RA 43 (0,0))
 map: ∃D:DW,W.ownsMap Tryz.prog 3 (plainElem Tryz.prog 3) (w.heap.size+2) i D∧MapOk hs D
theorem NdI.grown {w:World}{MA RA:Array Value}{i:Nat}{hs:List Int}{W W':World}(h:NdI w MA RA i hs W)(hB:Below W.heap.size W W'):NdI w MA RA i hs W':=by
 obtain⟨D,h1,h2⟩:=h.map
 have hsz:=h.size
 have hg:W.grownBy W' none:=⟨hB.os,hB.tape,hB.output,hB.size,fun k hk _=>hB.block k hk⟩
 refine⟨h.below.trans (hB.mono h.below.size),Nat.le_trans hsz hB.size,(hB.block _ (by omega)).trans h.bm,(hB.block _ (by omega)).trans h.br,D,h1.kept hg (fun e=>by cases e),h2⟩
theorem NdI.put {w:World}{MA RA:Array Value}{i:Nat}{hs:List Int}{W W':World}(h:NdI w MA RA i hs W){k:Int}{D:DW}(hown:W'.ownsMap Tryz.prog 3 (plainElem Tryz.prog 3) (w.heap.size+2) (i+1) (D.put (.int .i64 k) (.lit (.int .i64 1))))(hm:MapOk hs D)(hg:W.grownBy W' (some (w.heap.size+2))):NdI w MA RA (i+1) (k::hs) W':=by
 have hsz:=h.size
 have hs:=hg.size
 have kp: ∀j (o:Go.Obj),j<w.heap.size+2→W.heap[j]? =some o→W'.heap[j]? =some o:=fun j o hj ho=>(hg.block j (by omega) (fun e=>by injection e with e;omega)).trans ho
 exact⟨h.below.grown hg (by omega) (fun j e=>by injection e with e;omega),by omega,kp _ _ (by omega) h.bm,kp _ _ (by omega) h.br,_,hown,hm.put⟩
set_option maxRecDepth 100000 in
set_option maxHeartbeats 4000000 in
theorem node_in (n:Nat)(hn:3≤n){w:World}{β:Nat→Cell}(m:Ground_machine)(r:GRound)(l:List GDeliver)(e:Int)(A B A1 B1 A2:Option Addr)(cap capB lenB len1 cap1 len2 cap2 capl:Nat)(me:ByteArray)
 (hM:VRel w nX β (.agg (mcA m.Conf A m.Conf.Table.length cap B lenB capB)) (Ground_machine.av m)) (hR:VRel w nX β (.agg (rdA r.Number me A1 len1 cap1 B1 len2 cap2)) (GRound.av r)) (hL:VRel w nX β (.slice A2 l.length capl) (lav GDeliver.av l))
 (he:round_machine_node m r l=some e):
  CallsIn Fence.wide n Tryz.prog 137 #[.agg (mcA m.Conf A m.Conf.Table.length cap B lenB capB),.agg (rdA r.Number me A1 len1 cap1 B1 len2 cap2),.slice A2 l.length capl] w fun e' W'=>e'= .returned (.int .i64 e)∧Below w.heap.size w W':=by
 have h1:1≤n:=by omega
 refine callsIn_of_wp Tryz.func137 rfl trivial ?_ rfl
 simp only[Tryz.ntmps137,List.size_toArray,List.length_cons,List.length_nil,Nat.reduceAdd,Nat.reduceSub,Array.replicate_succ,Array.replicate_zero,List.push_toArray,List.append_toArray,List.nil_append,List.cons_append]
 have hmm:= @run_makeMap Tryz.prog
 unfold round_machine_node at he
 split at he
 case isFalse=>cases he
 rename_i hlen
 obtain⟨q,hq,he⟩:=zbi he
 gi_wp2
 obtain⟨W1,hW1⟩: ∃W1,((w.alloc (.cells (mcA m.Conf A m.Conf.Table.length cap B lenB capB) 147)).alloc (.cells (rdA r.Number me A1 len1 cap1 B1 len2 cap2) 43)).alloc (.map #[] 0)=W1:=⟨_,rfl⟩
 rw[hW1]
 have hI0:NdI w (mcA m.Conf A m.Conf.Table.length cap B lenB capB) (rdA r.Number me A1 len1 cap1 B1 len2 cap2) 0 [] W1:=by
  have hh:W1.heap=((w.heap.push (.cells (mcA m.Conf A m.Conf.Table.length cap B lenB capB) 147)).push (.cells (rdA r.Number me A1 len1 cap1 B1 len2 cap2) 43)).push (.map #[] 0):=by rw[←hW1];rfl
  refine⟨?_,by rw[hh];simp,?_,?_,.map [],?_,MapOk.nil⟩
  ·rw[←hW1];exact(((Below.refl _ w).alloc (Nat.le_refl _) _).alloc (by simp) _).alloc (by simp;omega) _
  ·rw[hh];simp only[Array.getElem?_push,Array.size_push];simp;try omega
  ·rw[hh];simp only[Array.getElem?_push,Array.size_push];simp;try omega
  ·rw[←hW1]
   have:=World.ownsMap_made ((w.alloc (.cells (mcA m.Conf A m.Conf.Table.length cap B lenB capB) 147)).alloc (.cells (rdA r.Number me A1 len1 cap1 B1 len2 cap2) 43)) Tryz.prog 3 (plainElem (H:=Unit) Tryz.prog 3)
   simpa using this
 clear hW1 hmm
 gi_loopw [7,17] (fun p p' wr=> ∃(i:Nat) (last:Int) (hs:List Int),p= .int .i64 last∧p'= .int .i64 i∧i≤l.length∧ndLoop m r (l.drop i) last hs=some q∧(∀k∈hs,k≤last)∧ -1≤last∧NdI w (mcA m.Conf A m.Conf.Table.length cap B lenB capB) (rdA r.Number me A1 len1 cap1 B1 len2 cap2) i hs wr)
  (fun p p' wr=>leftT l.length p')
 case atStart=>exact⟨0,-1,[],rfl,rfl,Nat.zero_le _,by simpa using hq,by simp,by omega,hI0⟩
 case round=>
  obtain⟨i,last,hs,rfl,rfl,hi,hnd,hle,hl1,hI⟩:=hrel
  have hsz:=hI.size
  have al: ∀(ob:Go.Obj) (p:Addr) (v:Value),wr.cell? p=some v→(wr.alloc ob).cell? p=some v:=fun ob p v h=>cell_kept h (World.grownBy_alloc wr ob none) (fun r e=>by cases e)
  by_cases hlt:i<l.length
  ·have hL':VRel w nX β (.slice A2 (l.map GDeliver.av).length capl) (lav GDeliver.av l):=by rw[List.length_map];exact hL
   obtain⟨b,o,rfl,hc⟩:=(got_cells hL').resolve_left (by rintro rfl;simp at hlt)
   rw[List.drop_eq_getElem_cons hlt]at hnd
   simp only[ndLoop]at hnd
   obtain⟨em,hem,hnd⟩:=zbi hnd
   have dc: ∀j u,j<4→(dvals l[i])[j]? =some u→wr.cell? ⟨b,o+(i*4+j),none⟩=some u:=fun j u hj hu=>by
    have:=hc (i*4+j) u (by rw[dvals_at hlt hj];exact hu)
    exact(hI.below.cell (p:=⟨_,_,none⟩) (cat_lt (c:=(_,_)) this)).trans this
   generalize hd:l[i]=d at*
   have d0:wr.cell? ⟨b,o+i*4,none⟩=some (.int .i64 d.From):=dc 0 _ (by omega) rfl
   have d1:wr.cell? ⟨b,o+i*4+1,none⟩=some (.int .i64 d.Slot):=by rw[Nat.add_assoc];exact dc 1 _ (by omega) rfl
   have d2:wr.cell? ⟨b,o+i*4+2,none⟩=some (.int .i64 d.Cycle):=by rw[Nat.add_assoc];exact dc 2 _ (by omega) rfl
   have d3:wr.cell? ⟨b,o+i*4+3,none⟩=some (.string ⟨d.Text.toArray⟩):=by rw[Nat.add_assoc];exact dc 3 _ (by omega) rfl
   have m0: ∀ob,(wr.alloc ob).cell? ⟨w.heap.size,0,none⟩=some (.int .i64 m.Conf.N):=fun ob=>al ob _ _ (cell_of hI.bm 0 (by simp)).1
   have m1: ∀ob,(wr.alloc ob).cell? ⟨w.heap.size,1,none⟩=some (.int .i64 m.Conf.F):=fun ob=>al ob _ _ (cell_of hI.bm 1 (by simp)).1
   have m2: ∀ob,(wr.alloc ob).cell? ⟨w.heap.size,2,none⟩=some (.int .i64 m.Conf.D):=fun ob=>al ob _ _ (cell_of hI.bm 2 (by simp)).1
   have m3: ∀ob,(wr.alloc ob).cell? ⟨w.heap.size,3,none⟩=some (.int .i64 m.Conf.Period):=fun ob=>al ob _ _ (cell_of hI.bm 3 (by simp)).1
   have m4: ∀ob,(wr.alloc ob).cell? ⟨w.heap.size,4,none⟩=some (.int .i64 m.Conf.Rate):=fun ob=>al ob _ _ (cell_of hI.bm 4 (by simp)).1
   have m5: ∀ob,(wr.alloc ob).cell? ⟨w.heap.size,5,none⟩=some (.int .i64 m.Conf.Drift):=fun ob=>al ob _ _ (cell_of hI.bm 5 (by simp)).1
   have m6: ∀ob,(wr.alloc ob).cell? ⟨w.heap.size,6,none⟩=some (.int .i64 m.Conf.Offset):=fun ob=>al ob _ _ (cell_of hI.bm 6 (by simp)).1
   have m7: ∀ob,(wr.alloc ob).cell? ⟨w.heap.size,7,none⟩=some (.int .i64 m.Conf.Slot):=fun ob=>al ob _ _ (cell_of hI.bm 7 (by simp)).1
   have m8: ∀ob,(wr.alloc ob).cell? ⟨w.heap.size,8,none⟩=some (.int .i64 m.Conf.Mod):=fun ob=>al ob _ _ (cell_of hI.bm 8 (by simp)).1
   have m9: ∀ob,(wr.alloc ob).cell? ⟨w.heap.size,9,none⟩=some (.int .i64 m.Conf.Fresh):=fun ob=>al ob _ _ (cell_of hI.bm 9 (by simp)).1
   have m10: ∀ob,(wr.alloc ob).cell? ⟨w.heap.size,10,none⟩=some (.slice A m.Conf.Table.length cap):=fun ob=>al ob _ _ (cell_of hI.bm 10 (by simp)).1
   have m11: ∀ob,(wr.alloc ob).cell? ⟨w.heap.size,11,none⟩=some (.slice B lenB capB):=fun ob=>al ob _ _ (cell_of hI.bm 11 (by simp)).1
   have r0: ∀ob,(wr.alloc ob).cell? ⟨w.heap.size+1,0,none⟩=some (.int .i64 r.Number):=fun ob=>al ob _ _ (cell_of hI.br 0 (by simp)).1
   have r1: ∀ob,(wr.alloc ob).cell? ⟨w.heap.size+1,1,none⟩=some (.string me):=fun ob=>al ob _ _ (cell_of hI.br 1 (by simp)).1
   have r2: ∀ob,(wr.alloc ob).cell? ⟨w.heap.size+1,2,none⟩=some (.slice A1 len1 cap1):=fun ob=>al ob _ _ (cell_of hI.br 2 (by simp)).1
   have r3: ∀ob,(wr.alloc ob).cell? ⟨w.heap.size+1,3,none⟩=some (.slice B1 len2 cap2):=fun ob=>al ob _ _ (cell_of hI.br 3 (by simp)).1
   clear dc al hc
   gi_wp2
   refine And.intro True.intro ?_
   refine(msg_in hM hR hem (n-1) _ (hI.below.alloc hI.below.size _)).mono ?_
   rintro e' w' ⟨rfl,hB'⟩
   simp only[]
   have hbx:(wr.alloc (.cells (dvals d).toArray 56)).heap[wr.heap.size]? =some (.cells (dvals d).toArray 56 (0,0)):=World.alloc_heap_new wr _
   have hbx':w'.heap[wr.heap.size]? =some (.cells (dvals d).toArray 56 (0,0)):=(hB'.block _ (by simp)).trans hbx
   have hI':NdI w _ _ i hs w':=hI.grown (((Below.refl _ wr).alloc (Nat.le_refl _) _).trans (hB'.mono (by simp)))
   have s1:w'.cell? ⟨wr.heap.size,1,none⟩=some (.int .i64 d.Slot):=(cell_of hbx' 1 (by simp[dvals])).1
   clear m0 m1 m2 m3 m4 m5 m6 m7 m8 m9 m10 m11 r0 r1 r2 r3 d0 d1 d2 d3
   by_cases h0:em=0
   ·subst h0
    rw[if_pos rfl]at hnd
    obtain⟨o1,o2⟩:=msg_ok hem
    obtain⟨D,hown,hmap⟩:=hI'.map
    have hkey:=Maps.keyOf_int_mk Tryz.underlying3 (a:=d.Slot) (wf64 (by omega))
    have hc0:cnt hs d.Slot=0:=by
     unfold cnt
     rw[if_neg fun h=>by have:=hle _ h;omega]
    gi_wp2_with (first
     |(gi_at_lookup;refine wpListIn_lookup_own_int _ rfl _ _ 193 rfl 3 3 .i64 (Maps.int_keyed Tryz.underlying3) Tryz.underlying193 Tryz.underlying3 (Tryz.zeroValue3 _) (w.heap.size+2) i D rfl hown _ _ rfl hkey ?_;intro c hat hwc;rw[hmap.2,hc0]at hat;cases hat)
     |(gi_at_mapUpdate;refine wpListIn_mapUpdate_own _ rfl _ _ _ 193 rfl 3 3 (Maps.int_keyed Tryz.underlying3) Tryz.underlying193 _ (w.heap.size+2) i D rfl hown (by simp only[maxLen];omega) _ _ _ rfl rfl hkey (.lit (.int .i64 1)) [] (plainElem_int Tryz.underlying3 (by decide)) ?_;intro w1 hown1 hgrow1))
    refine⟨⟨i+1,d.Slot,d.Slot::hs,rfl,by simp,hlt,hnd,?_,by omega,hI'.put hown1 hmap hgrow1⟩,by simp only[leftT];omega⟩
    intro k hk
    rcases List.mem_cons.1 hk with rfl|hk
    ·omega
    ·have:=hle k hk;omega
   ·rw[if_neg h0]at hnd
    injection hnd with hnd
    subst hnd
    injection he with he
    subst he
    gi_wp2
    go_ret
    exact⟨rfl,hI'.below⟩
  ·have hil:i=l.length:=by omega
   subst hil
   rw[List.drop_length]at hnd
   injection hnd with hnd
   subst hnd
   have hTV:VRel w nX β (.slice A m.Conf.Table.length cap) (lav iav m.Conf.Table):=by
    cases hM with|agg _ _ hl hf hv=>exact hv 10 (by simp)
   have n10:wr.cell? ⟨w.heap.size,10,none⟩=some (.slice A m.Conf.Table.length cap):=(cell_of hI.bm 10 (by simp)).1
   gi_wp2
   gi_loopw [41] (fun p wr=> ∃k:Nat,p= .int .i64 k∧k≤m.Conf.Table.length∧ndLate m hs (m.Conf.Table.drop k) k=some e∧NdI w (mcA m.Conf A m.Conf.Table.length cap B lenB capB) (rdA r.Number me A1 len1 cap1 B1 len2 cap2) l.length hs wr)
    (fun p wr=>leftT m.Conf.Table.length p)
   case atStart=>exact⟨0,rfl,Nat.zero_le _,he,hI⟩
   case round=>
    clear n10 al hI hsz
    obtain⟨k,rfl,hk,hnd,hI⟩:=hrel
    have hsz:=hI.size
    by_cases hlt2:k<m.Conf.Table.length
    ·obtain⟨b,o,rfl,hc⟩:=int_at hTV hlt2
     have hc':=(hI.below.cell (p:=⟨_,_,none⟩) (cat_lt (c:=(_,_)) hc)).trans hc
     rw[List.drop_eq_getElem_cons hlt2]at hnd
     generalize hd:m.Conf.Table[k]=ow at*
     simp only[ndLate]at hnd
     obtain⟨D,hown,hmap⟩:=hI.map
     have hkey:=Maps.keyOf_int_mk Tryz.underlying3 (a:=(k:Int)) (wf64 (by omega))
     have hat:=hmap.2 (k:Int)
     by_cases hin:(k:Int)∈hs
     ·rw[if_pos hin]at hnd
      rw[cnt,if_pos hin]at hat
      gi_wp2_with (gi_at_lookup;refine wpListIn_lookup_own_int _ rfl _ _ 193 rfl 3 3 .i64 (Maps.int_keyed Tryz.underlying3) Tryz.underlying193 Tryz.underlying3 (Tryz.zeroValue3 _) (w.heap.size+2) l.length D rfl hown _ _ rfl hkey ?_;intro c hat' hwc;rw[hat]at hat';cases hat')
      refine And.intro True.intro ?_
      gi_wp2
      exact⟨⟨k+1,by simp,hlt2,by simpa using hnd,hI⟩,by simp only[leftT];omega⟩
     ·rw[if_neg hin]at hnd
      rw[cnt,if_neg hin]at hat
      obtain⟨lb,hlb,hnd⟩:=zbi hnd
      have m0:wr.cell? ⟨w.heap.size,0,none⟩=some (.int .i64 m.Conf.N):=(cell_of hI.bm 0 (by simp)).1
      have m1:wr.cell? ⟨w.heap.size,1,none⟩=some (.int .i64 m.Conf.F):=(cell_of hI.bm 1 (by simp)).1
      have m2:wr.cell? ⟨w.heap.size,2,none⟩=some (.int .i64 m.Conf.D):=(cell_of hI.bm 2 (by simp)).1
      have m3:wr.cell? ⟨w.heap.size,3,none⟩=some (.int .i64 m.Conf.Period):=(cell_of hI.bm 3 (by simp)).1
      have m4:wr.cell? ⟨w.heap.size,4,none⟩=some (.int .i64 m.Conf.Rate):=(cell_of hI.bm 4 (by simp)).1
      have m5:wr.cell? ⟨w.heap.size,5,none⟩=some (.int .i64 m.Conf.Drift):=(cell_of hI.bm 5 (by simp)).1
      have m6:wr.cell? ⟨w.heap.size,6,none⟩=some (.int .i64 m.Conf.Offset):=(cell_of hI.bm 6 (by simp)).1
      have m7:wr.cell? ⟨w.heap.size,7,none⟩=some (.int .i64 m.Conf.Slot):=(cell_of hI.bm 7 (by simp)).1
      have m8:wr.cell? ⟨w.heap.size,8,none⟩=some (.int .i64 m.Conf.Mod):=(cell_of hI.bm 8 (by simp)).1
      have m9:wr.cell? ⟨w.heap.size,9,none⟩=some (.int .i64 m.Conf.Fresh):=(cell_of hI.bm 9 (by simp)).1
      have m10:wr.cell? ⟨w.heap.size,10,none⟩=some (.slice (some ⟨b,o,none⟩) m.Conf.Table.length cap):=(cell_of hI.bm 10 (by simp)).1
      have m11:wr.cell? ⟨w.heap.size,11,none⟩=some (.slice B lenB capB):=(cell_of hI.bm 11 (by simp)).1
      gi_wp2_with (gi_at_lookup;refine wpListIn_lookup_own_int _ rfl _ _ 193 rfl 3 3 .i64 (Maps.int_keyed Tryz.underlying3) Tryz.underlying193 Tryz.underlying3 (Tryz.zeroValue3 _) (w.heap.size+2) l.length D rfl hown _ _ rfl hkey ?_;intro c hat' hwc;rw[hat]at hat';cases hat')
      refine And.intro True.intro ?_
      refine(lies_in hM hlb (n-1) _ hI.below).mono ?_
      rintro e' w' ⟨rfl,hB'⟩
      simp only[]
      have hI':=hI.grown hB'
      cases lb
      ·rw[if_neg (by simp)]at hnd
       injection hnd with hnd
       subst hnd
       gi_wp2
       go_ret
       exact⟨rfl,hI'.below⟩
      ·rw[if_pos rfl]at hnd
       gi_wp2
       exact⟨⟨k+1,by simp,hlt2,by simpa using hnd,hI'⟩,by simp only[leftT];omega⟩
    ·have hkl:k=m.Conf.Table.length:=by omega
     subst hkl
     rw[List.drop_length]at hnd
     injection hnd with hnd
     subst hnd
     gi_wp2
     go_ret
     exact⟨rfl,hI.below⟩
end Go.Proofs.YtaoijbibmcgdaaaGreat.x0
