/-
  Plain texts of this claim. Conditions: none beyond each theorem's own.
-/
import Derived.Test.YtaoijbibmcgdaaaGreatX2
set_option linter.unusedVariables false
set_option linter.unusedSimpArgs false
namespace Go.Proofs.YtaoijbibmcgdaaaGreat.x0
open Go.Proofs Go.Proofs.PF Go.RowKit Go.Shelf
attribute [local go_sem] Oper.semAt_some
structure El where
 t:Int
 r:GReport
 me:ByteArray
 A:Option Addr
 cap:Nat
def OkEl (w0:World)(β:Nat→Cell)(x:El):Prop:=x.me.data.toList=x.r.Members∧VRel w0 nX β (.slice x.A x.r.Got.length x.cap) (lav GDeliver.av x.r.Got)∧x.r.Got.length≤1048576
abbrev ElT (w0:World)(β:Nat→Cell):={x:El // OkEl w0 β x}
noncomputable abbrev elR (x:El):Value:=repV x.r.Pulse x.r.Sync x.r.Number x.r.Slot x.me x.r.Sent x.A x.r.Got.length x.cap
noncomputable abbrev elV {w0:World}{β:Nat→Cell}(x:ElT w0 β):Array Value:= #[.int .i64 x.1.t,elR x.1]
def Kq (n0:Nat)(bs:List Nat)(W W':World):Prop:=Below n0 W W'∧∀k∈bs,W'.heap[k]? =W.heap[k]?
noncomputable def leftT (hi:Int):Value→Nat
 | .int _ t=>(hi-t).toNat
 |_=>0
set_option maxRecDepth 100000 in
set_option maxHeartbeats 2000000 in
theorem ticks1_in (n:Nat)(hn:1≤n)(l B1 B2 B3 B4:Nat)(fr to node lo:Int)(N L:Nat){w0:World}{β:Nat→Cell}(A0:Option Addr)(cap0:Nat)(hlo:lo=max fr 0)(hN: ∀k:Nat,k≤N→(lo+k<min to L↔k<N))(hL:(L:Int)≤4294967296)
 (hfr: -9223372036854775808≤fr∧fr≤9223372036854775807) (el:Nat→ElT w0 β) (hel: ∀k,k<N→(el k).1.t=lo+k)
 (hat: ∀k,k<N→∀n W,Below w0.heap.size w0 W→CallsIn Fence.wide n Tryz.prog 112 #[.slice A0 L cap0,.int .i64 (lo+k),.int .i64 node] W fun e W'=>e= .returned (elR (el k).1)∧Below W.heap.size W W')
 (J Jx:List (ElT w0 β)→World→Prop) (W:World) (hJ:AbidesFrom W.heap.size J)
 (hY: ∀pre x W,J pre W→pre.length<N→YieldAt Fence.wide (n-1) Tryz.prog l (elV x) W fun e W'=>
   (e= .returned (.bool true)∧J (pre++[x]) W'∧Kq w0.heap.size [B1,B2,B3,B4] W W')∨(e= .returned (.bool false)∧Jx (pre++[x]) W'))
 (hW:Below w0.heap.size w0 W) (h1:W.cell? ⟨B1,0,none⟩=some (.int .i64 fr)) (h2:W.cell? ⟨B2,0,none⟩=some (.int .i64 to)) (h3:W.cell? ⟨B3,0,none⟩=some (.slice A0 L cap0)) (h4:W.cell? ⟨B4,0,none⟩=some (.int .i64 node)) (h0:J [] W):
 CallsIn Fence.wide n Tryz.prog 223 #[.func (.yield l) #[] #[],.pointer (some ⟨B1,0,none⟩),.pointer (some ⟨B2,0,none⟩),.pointer (some ⟨B3,0,none⟩),.pointer (some ⟨B4,0,none⟩)] W fun e W'=>(∃v,e= .returned v)∧
  ((∃ys,ys=(List.range N).map el∧J ys W')∨(∃pre,True∧Jx pre W')):=by
 subst hlo
 refine callsIn_of_wp Tryz.func223 rfl trivial ?_ rfl
 simp only[Tryz.ntmps223,List.size_toArray,List.length_cons,List.length_nil,Nat.reduceAdd,Nat.reduceSub,Array.replicate_succ,Array.replicate_zero,List.push_toArray,List.append_toArray,List.nil_append,List.cons_append]
 rcases Int.lt_or_le fr 0 with hf|hf
 all_goals gi_wp2
 all_goals gi_loopw [6] (fun p wr=> ∃k:Nat,p= .int .i64 (max fr 0+k)∧k≤N∧J ((List.range k).map el) wr∧Below w0.heap.size w0 wr∧W.heap.size≤wr.heap.size∧(∀b∈[B1,B2,B3,B4],wr.heap[b]? =W.heap[b]?))
  (fun p wr=>leftT (max fr 0+N) p)
 all_goals first
  |exact⟨0,congrArg (Value.int .i64) (by omega),Nat.zero_le _,h0,hW,Nat.le_refl _,fun _ _=>rfl⟩
  |(obtain⟨k,rfl,hk,hJs,hB,hsz,hbs⟩:=hrel
    have c1:wr.cell? ⟨B1,0,none⟩=some (.int .i64 fr):=(World.cell?_of_block (hbs B1 (by simp))).trans h1
    have c2:wr.cell? ⟨B2,0,none⟩=some (.int .i64 to):=(World.cell?_of_block (hbs B2 (by simp))).trans h2
    have c3:wr.cell? ⟨B3,0,none⟩=some (.slice A0 L cap0):=(World.cell?_of_block (hbs B3 (by simp))).trans h3
    have c4:wr.cell? ⟨B4,0,none⟩=some (.int .i64 node):=(World.cell?_of_block (hbs B4 (by simp))).trans h4
    have hkN:=hN k hk
    by_cases hlt:k<N
    ·have hlt':=hkN.2 hlt
     gi_wp2
     all_goals
      have h112:=hat k hlt (n-1) wr hB
      refine And.intro ?_ ?_
      exact True.intro
      refine h112.mono ?_
      rintro e w' ⟨rfl,hB'⟩
      have hg:wr.grownBy w' none:=⟨hB'.os,hB'.tape,hB'.output,hB'.size,fun j hj _=>hB'.block j hj⟩
      have hJ':=hJ _ _ _ none hJs hg (fun r e=>by cases e)
      obtain⟨fn,tmps,assign,body,hy,hR⟩:=hY _ (el k) w' hJ' (by simpa using hlt)
      simp only[elV,hel k hlt]at hy
      simp only[]
      gi_wp2
      refine hR.mono ?_
      rintro e W3 (⟨rfl,hJ3,hK3⟩|⟨rfl,hJx3⟩)
      ·simp only[]
       gi_wp2
       go_roundw
       case rel=>
        refine⟨k+1,congrArg (Value.int .i64) (by omega),hlt,?_,?_,?_,?_⟩
        ·rw[List.range_succ,List.map_append];exact hJ3
        ·exact hB.trans ((hB'.mono hB.size).trans hK3.1)
        ·exact Nat.le_trans hsz (Nat.le_trans hB'.size hK3.1.size)
        ·intro b hb
         have hbl:b<wr.heap.size:=by
          simp only[List.mem_cons,List.not_mem_nil,or_false]at hb
          rcases hb with rfl|rfl|rfl|rfl
          ·exact cat_lt (c:=(_,_)) c1
          ·exact cat_lt (c:=(_,_)) c2
          ·exact cat_lt (c:=(_,_)) c3
          ·exact cat_lt (c:=(_,_)) c4
         exact(hK3.2 b hb).trans ((hB'.block b hbl).trans (hbs b hb))
       case measure=>simp only[leftT];omega
      ·simp only[]
       gi_wp2
       refine bodyPost_ret (results_none rfl _ _ _) rfl ?_
       exact⟨⟨_,rfl⟩,.inr ⟨_,True.intro,hJx3⟩⟩
    ·have hlt': ¬(max fr 0+k<min to L):=fun h=>hlt (hkN.1 h)
     have hkn:k=N:=by omega
     subst hkn
     gi_wp2
     all_goals go_end0
     all_goals exact⟨⟨_,rfl⟩,.inl hJs⟩)
end Go.Proofs.YtaoijbibmcgdaaaGreat.x0
