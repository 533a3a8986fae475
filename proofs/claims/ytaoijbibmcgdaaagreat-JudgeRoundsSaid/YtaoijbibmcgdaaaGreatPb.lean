/-
  What the rows' arguments are known to be.
-/
import Derived.Test.YtaoijbibmcgdaaaGreatPa
import Derived.Test.YtaoijbibmcgdaaaGreatDb
namespace Go.Proofs.YtaoijbibmcgdaaaGreat
open Go.Proofs.PF
def comP (rows:Rows)(l:List Int)(n0 t:Int):Prop:= ∀n∈l,(atV rows t n).Pulse=(atV rows t n0).Pulse
instance (rows :Rows)(l:List Int)(n0 t:Int):Decidable (comP rows l n0 t):=by unfold comP;infer_instance
end Go.Proofs.YtaoijbibmcgdaaaGreat
set_option linter.unusedVariables false
set_option linter.unusedSimpArgs false
namespace Go.Proofs.YtaoijbibmcgdaaaGreat
open Go.Proofs.PF
def FitN (N:Int)(rows:Rows):Prop:=rows.length≤100000000∧∀l∈rows,(l.length:Int)=N
theorem fit_at {N:Int}{rows:Rows}(hf:FitN N rows){t n:Int}(h0:0≤t)(h1:t<(rows.length:Int))(h2:0≤n)(h3:n<N): ∃z,idx? rows t=some z∧idx? z n=some (atV rows t n):=by
 obtain⟨z,hz,hz2,hm⟩:=idx_in h0 h1
 obtain⟨r,hr,hr2,-⟩:=idx_in (l:=z) h2 (by rw[hf.2 z hm];exact h3)
 refine⟨z,hz,?_⟩
 rw[hr]
 unfold atV
 rw[if_neg (by omega),if_neg (by omega),hz2,Option.bind_some,hr2];rfl
section
variable {N:Int} {rows:Rows} (hf:FitN N rows) {l:List Int} (hl:l.length≤1000) (hin: ∀n∈l,0≤n∧n<N) {n0:Int} (h0:l[0]? =some n0)
include hf hl hin h0
end
end Go.Proofs.YtaoijbibmcgdaaaGreat
set_option linter.unusedVariables false
set_option linter.unusedSimpArgs false
namespace Go.Proofs.YtaoijbibmcgdaaaGreat
open Go.Proofs.PF
section
variable {N:Int} {rows:Rows} (hf:FitN N rows) {l:List Int} (hl:l.length≤1000) (hin: ∀n∈l,0≤n∧n<N) {n0:Int} (h0:l[0]? =some n0) {s:GScript} (hc:CIn s.Conf) (hp:plainV s.Conf=0)
include hf hl hin h0 hc hp
end
end Go.Proofs.YtaoijbibmcgdaaaGreat
set_option linter.unusedVariables false
set_option linter.unusedSimpArgs false
namespace Go.Proofs.YtaoijbibmcgdaaaGreat
open Go.Proofs.PF
def FitP (s:GScript)(rows:Rows):Prop:=(rows.length:Int)=(s.Ticks.length:Int)∧∀l∈rows,(l.length:Int)=s.Conf.N
instance (s :GScript)(rows:Rows):Decidable (FitP s rows):=by unfold FitP;infer_instance
theorem fits_eq {s:GScript}{rows:Rows}(hr:rows.length≤100000000):r39_fits s rows=some (decide (FitP s rows)):=by
 unfold r39_fits
 by_cases h1:(rows.length:Int)≠(s.Ticks.length:Int)
 ·rw[if_pos h1,decide_eq_false fun h=>h1 h.1]
 rw[if_neg h1]
 have L:=loopO_anys (f:=fun p=>r39_fits_0_step rows s p) rows (fun l=>(l.length:Int)≠s.Conf.N) false (fun k x hk hx=>by
  simp only[r39_fits_0_step]
  rw[if_pos (by omega),idx_get hx,Option.bind_some,wrI rfl (by omega)]
  split<;>rfl) (by simp only[r39_fits_0_step];rw[if_neg (by omega)])
 unfold r39_fits_0
 rw[L]
 by_cases h: ∃l∈rows,(l.length:Int)≠s.Conf.N
 ·rw[if_pos h,decide_eq_false (by rintro⟨_,h2⟩;obtain⟨l,hl,hn⟩:=h;exact hn (h2 l hl))];rfl
 ·rw[if_neg h,decide_eq_true ⟨Classical.not_not.1 h1,fun l hl=>Classical.byContradiction fun hn=>h ⟨l,hl,hn⟩⟩];rfl
noncomputable def allV (s:GScript):Int:=max 0 (wr (lastV s+allC s.Conf))
noncomputable def run0 :Gjudge_run:=Gjudge_run.mk (GScript.mk (GConf.mk 0 0 0 0 0 0 0 0 0 0 []) [] [] []) [] [] 0
theorem holds_zero {s:GScript}(h:holdsV s=0):scriptV s=0:=by
 unfold holdsV at h
 by_cases h1:scriptV s≠0
 ·rw[if_pos h1]at h;exact absurd h h1
 ·exact Classical.not_not.1 h1
theorem open_eq {s:GScript}(h:SIn s){rows:Rows}(hr:rows.length≤100000000):
 judge_open s rows=some (if holdsV s≠0 then(run0,holdsV s)else if FitP s rows then(Gjudge_run.mk s (honV s) rows (allV s),0)else(run0,2)):=by
 unfold judge_open
 rw[holds_eq h,Option.bind_some]
 by_cases h0:holdsV s≠0
 ·rw[if_pos h0,if_pos h0];rfl
 rw[if_neg h0,if_neg h0]
 have hz:=holds_zero (Classical.not_not.1 h0)
 by_cases h1:(rows.length:Int)≠(s.Ticks.length:Int)
 ·rw[if_pos h1,if_neg fun hh=>h1 hh.1];rfl
 rw[if_neg h1]
 have L:=loopO_anys (f:=fun p=>judge_open_0_step rows s rows (rows.length:Int) run0 p) rows (fun l=>(l.length:Int)≠s.Conf.N) ((2:Int),run0) (fun k x hk hx=>by
  simp only[judge_open_0_step]
  rw[if_pos (by omega),idx_get hx,Option.bind_some,wrI rfl (by omega)]
  split<;>rfl) (by simp only[judge_open_0_step];rw[if_neg (by omega)])
 rw[show judge_open_0 rows s rows (rows.length:Int) (Gjudge_run.mk (GScript.mk (GConf.mk 0 0 0 0 0 0 0 0 0 0 ([]:List Int)) ([]:List Int) ([]:List (List UInt8)) ([]:List GTick)) ([]:List Int) ([]:List (List GReport)) 0) 0=_ from L]
 by_cases hq: ∃l∈rows,(l.length:Int)≠s.Conf.N
 ·rw[if_pos hq,if_neg (by rintro⟨_,h2⟩;obtain⟨l,hl,hn⟩:=hq;exact hn (h2 l hl))];rfl
 ·rw[if_neg hq,if_pos ⟨Classical.not_not.1 h1,fun l hl=>Classical.byContradiction fun hn=>hq ⟨l,hl,hn⟩⟩,Option.bind_some]
  simp only[Sum.elim_inr,honest_eq h,pAll_eq h hz,Option.bind_some]
  rfl
end Go.Proofs.YtaoijbibmcgdaaaGreat
set_option linter.unusedVariables false
set_option linter.unusedSimpArgs false
namespace Go.Proofs.YtaoijbibmcgdaaaGreat
open Go.Proofs.PF
theorem loopO_fold {α σ:Type}{f:σ×Int→Option ((σ×Int)⊕σ)}(l:List α)(g:σ→α→σ)(a0:σ)
 (h: ∀(k:Nat) x a,k<l.length→l[k]? =some x→f (a,(k:Int))=some (.inl (g a x,(k:Int)+1))) (he: ∀a,f (a,(l.length:Int))=some (.inr a)):loopO f (a0,0)=some (l.foldl g a0):=by
 refine loopO_at (inv:=fun k=>((l.take k).foldl g a0,(k:Int))) l.length (by simp) (fun k hk=> ?_) ?_
 ·rw[h k l[k] _ hk (List.getElem?_eq_getElem hk),←List.take_append_getElem hk,List.foldl_append]
  rfl
 ·rw[he,List.take_length]
noncomputable def imgO (c:GConf)(im:List UInt8):List UInt8:=(if plainV c=0 then mendV c (pMem c im)else noMem).Out
noncomputable def tickS (c:GConf)(i:Int)(a:List UInt8)(t:GTick):List UInt8:=
 t.Writes.foldl (fun a w=>if w.Node=i then w.Text else a) (t.Bursts.foldl (fun a b=>if b.Node=i then imgO c b.Image else a) a)
structure ImB (s:GScript):Prop where
 b: ∀t∈s.Ticks,∀b∈t.Bursts,b.Image.length≤1000000000
 i: ∀im∈s.Images,im.length≤1000000000
noncomputable def lineV (s:GScript)(i t:Int)(a:List UInt8):List UInt8:=(s.Ticks.take (t+1).toNat).foldl (tickS s.Conf i) a
section
variable {s:GScript} (h:SIn s) (hb:ImB s)
include h hb
theorem said2_eq (i t:Int)(a:List UInt8):judge_Said_2 i t s s.Ticks (s.Ticks.length:Int) a 0=some (lineV s i t a):=by
 have hT:=h.t
 refine loopO_at (f:=fun p:List UInt8×Int=>judge_Said_2_step i t s s.Ticks (s.Ticks.length:Int) p.1 p.2) (inv:=fun k=>((s.Ticks.take k).foldl (tickS s.Conf i) a,(k:Int))) (min s.Ticks.length (t+1).toNat) (by simp) (fun k hk=> ?_) ?_
 ·have hk2:k<s.Ticks.length:=by omega
  have hz:=List.getElem?_eq_getElem (l:=s.Ticks) (i:=k) hk2
  have ht:=h.tt _ (List.getElem_mem hk2)
  have hbt:=hb.b _ (List.getElem_mem hk2)
  simp only[judge_Said_2_step]
  rw[if_pos (by omega),idx_get hz,Option.bind_some,if_neg (by omega)]
  have e1: ∀A,judge_Said_0 i t s s.Ticks (s.Ticks.length:Int) (k:Int) s.Ticks[k].Bursts (s.Ticks[k].Bursts.length:Int) s.Ticks[k] A 0=some (s.Ticks[k].Bursts.foldl (fun a b=>if b.Node=i then imgO s.Conf b.Image else a) A):=fun A=>
   loopO_fold (f:=fun p:List UInt8×Int=>judge_Said_0_step i t s s.Ticks (s.Ticks.length:Int) (k:Int) s.Ticks[k].Bursts (s.Ticks[k].Bursts.length:Int) s.Ticks[k] p.1 p.2) s.Ticks[k].Bursts _ A (fun j x b hj hx=>by
    have hl:=ht.b
    simp only[judge_Said_0_step]
    rw[if_pos (by omega),idx_get hx,Option.bind_some,wrI rfl (by omega)]
    split
    ·rw[read_eq _ _ h.conf (hbt x (List.mem_of_getElem? hx))];rfl
    ·rfl) (fun b=>by simp only[judge_Said_0_step];rw[if_neg (by omega)])
  have e2: ∀A,judge_Said_1 i t s s.Ticks (s.Ticks.length:Int) (k:Int) s.Ticks[k].Writes (s.Ticks[k].Writes.length:Int) s.Ticks[k] A 0=some (s.Ticks[k].Writes.foldl (fun a w=>if w.Node=i then w.Text else a) A):=fun A=>
   loopO_fold (f:=fun p:List UInt8×Int=>judge_Said_1_step i t s s.Ticks (s.Ticks.length:Int) (k:Int) s.Ticks[k].Writes (s.Ticks[k].Writes.length:Int) s.Ticks[k] p.1 p.2) s.Ticks[k].Writes _ A (fun j x b hj hx=>by
    have hl:=ht.w
    simp only[judge_Said_1_step]
    rw[if_pos (by omega),idx_get hx,Option.bind_some,wrI rfl (by omega)]
    split<;>rfl) (fun b=>by simp only[judge_Said_1_step];rw[if_neg (by omega)])
  rw[e1,Option.bind_some,e2,Option.bind_some,wrI rfl (by omega),←List.take_append_getElem hk2,List.foldl_append]
  rfl
 ·simp only[judge_Said_2_step]
  unfold lineV
  by_cases hlt:s.Ticks.length≤(t+1).toNat
  ·rw[Nat.min_eq_left hlt,if_neg (by omega),List.take_length,List.take_of_length_le hlt]
  ·rw[Nat.min_eq_right (by omega)]
   obtain⟨z,hz,-,-⟩:=idx_in (l:=s.Ticks) (i:=(((t+1).toNat:Nat):Int)) (by omega) (by omega)
   rw[if_pos (by omega),hz,Option.bind_some,if_pos (by omega)]
theorem rsaid2_eq (i t:Int)(a:List UInt8):r39_Said_2 i t s a 0=some (lineV s i t a):=by
 have _:=hb
 have hT:=h.t
 refine loopO_at (f:=fun p:List UInt8×Int=>r39_Said_2_step i t s p.1 p.2) (inv:=fun k=>((s.Ticks.take k).foldl (tickS s.Conf i) a,(k:Int))) (min s.Ticks.length (t+1).toNat) (by simp) (fun k hk=> ?_) ?_
 ·have hk2:k<s.Ticks.length:=by omega
  have hz:=idx_get (List.getElem?_eq_getElem (l:=s.Ticks) (i:=k) hk2)
  have ht:=h.tt _ (List.getElem_mem hk2)
  simp only[r39_Said_2_step]
  rw[if_pos (by omega),if_pos (by omega)]
  have e1: ∀A,r39_Said_0 i t s (k:Int) A 0=some (s.Ticks[k].Bursts.foldl (fun a b=>if b.Node=i then imgO s.Conf b.Image else a) A):=fun A=>
   loopO_fold (f:=fun p:List UInt8×Int=>r39_Said_0_step i t s (k:Int) p.1 p.2) s.Ticks[k].Bursts _ A (fun j x b hj hx=>by
    have hl:=ht.b
    simp only[r39_Said_0_step,hz,Option.bind_some,idx_get hx]
    rw[if_pos (by omega),wrI rfl (by omega)]
    split
    ·rw[read_eq' _ _ h.conf];rfl
    ·rfl) (fun b=>by simp only[r39_Said_0_step,hz,Option.bind_some];rw[if_neg (by omega)])
  have e2: ∀A,r39_Said_1 i t s (k:Int) A 0=some (s.Ticks[k].Writes.foldl (fun a w=>if w.Node=i then w.Text else a) A):=fun A=>
   loopO_fold (f:=fun p:List UInt8×Int=>r39_Said_1_step i t s (k:Int) p.1 p.2) s.Ticks[k].Writes _ A (fun j x b hj hx=>by
    have hl:=ht.w
    simp only[r39_Said_1_step,hz,Option.bind_some,idx_get hx]
    rw[if_pos (by omega),wrI rfl (by omega)]
    split<;>rfl) (fun b=>by simp only[r39_Said_1_step,hz,Option.bind_some];rw[if_neg (by omega)])
  rw[e1,Option.bind_some,e2,Option.bind_some,wrI rfl (by omega),←List.take_append_getElem hk2,List.foldl_append]
  rfl
 ·simp only[r39_Said_2_step]
  unfold lineV
  by_cases hlt:s.Ticks.length≤(t+1).toNat
  ·rw[Nat.min_eq_left hlt,List.take_length,List.take_of_length_le hlt]
   split
   ·rw[if_neg (by omega)]
   ·rfl
  ·rw[Nat.min_eq_right (by omega),if_neg (by omega)]
omit hb in
omit h in
theorem simage_eq (i:Int):script_Image s i=some (if IsN s.Conf i then(s.Images[i.toNat]?).getD []else []):=by
 unfold script_Image script_listed_string
 rw[is_eq,Option.bind_some]
 by_cases h1:IsN s.Conf i
 ·rw[decide_eq_true h1,if_neg (by simp),if_pos h1]
  by_cases h2:i<(s.Images.length:Int)
  ·obtain⟨z,hz,hz2,-⟩:=idx_in (l:=s.Images) h1.1 h2
   rw[if_pos h2,hz,hz2];rfl
  ·have e:s.Images[i.toNat]? =none:=List.getElem?_eq_none (by omega)
   rw[if_neg h2,e];rfl
 ·rw[decide_eq_false h1,if_pos (by simp),if_neg h1]
omit hb in
omit h in
theorem rimage_eq (i:Int):r33_Image s i=some (if IsN s.Conf i then(s.Images[i.toNat]?).getD []else []):=by
 unfold r33_Image
 by_cases h0:i<0
 ·rw[if_pos h0,if_neg fun hh=>by have:=hh.1;omega]
 rw[if_neg h0]
 by_cases h2:(s.Images.length:Int)≤i
 ·have e:s.Images[i.toNat]? =none:=List.getElem?_eq_none (by omega)
  rw[if_pos h2,e]
  split<;>rfl
 rw[if_neg h2,node_eq,Option.bind_some]
 by_cases h1:IsN s.Conf i
 ·rw[decide_eq_true h1,if_neg (by simp),if_pos h1]
  obtain⟨z,hz,hz2,-⟩:=idx_in (l:=s.Images) h1.1 (by omega)
  rw[hz,hz2];rfl
 ·rw[decide_eq_false h1,if_pos (by simp),if_neg h1]
noncomputable def saidV (s:GScript)(i t:Int):List UInt8:=
 if i<0 then []else if min s.Conf.N 13≤i then []else lineV s i t (imgO s.Conf (if IsN s.Conf i then(s.Images[i.toNat]?).getD []else []))
theorem said_eq (i t:Int):judge_Said s i t=some (saidV s i t):=by
 unfold judge_Said saidV
 by_cases h0:i<0
 ·rw[if_pos h0,if_pos h0]
 rw[if_neg h0,if_neg h0]
 by_cases h1:min s.Conf.N 13≤i
 ·rw[if_pos h1,if_pos h1]
 rw[if_neg h1,if_neg h1,simage_eq,Option.bind_some,read_eq _ _ h.conf ?_,Option.bind_some,said2_eq h hb]
 ·rfl
 ·split
  ·cases e:s.Images[i.toNat]? with
   |none=>simp
   |some z=>exact hb.i z (List.mem_of_getElem? e)
  ·simp
theorem rsaid_eq (i t:Int):r39_Said s i t=some (saidV s i t):=by
 unfold r39_Said saidV
 by_cases h0:i<0
 ·rw[if_pos h0,if_pos h0]
 rw[if_neg h0,if_neg h0]
 by_cases h1:min s.Conf.N 13≤i
 ·rw[if_pos h1,if_pos h1]
 rw[if_neg h1,if_neg h1,rimage_eq,Option.bind_some,read_eq' _ _ h.conf,Option.bind_some,rsaid2_eq h hb]
 rfl
end
end Go.Proofs.YtaoijbibmcgdaaaGreat
set_option linter.unusedVariables false
set_option linter.unusedSimpArgs false
namespace Go.Proofs.YtaoijbibmcgdaaaGreat
open Go.Proofs.PF
theorem xat_eq (rows:Rows)(t n:Int):x0.trace_At rows t n=some (atV rows t n):=at_eq rows t n
theorem atR_eq (rows:Rows)(t n:Int):x0.atR rows t n=atV rows t n:=by
 unfold x0.atR
 rw[xat_eq];rfl
theorem got_eq {rows:Rows}{n a b:Int}(h:x0.gotC rows a):trace_Got rows n a b=some (x0.gotL rows n a b):=by
 show x0.gotP rows n a b=_
 unfold x0.gotP
 rw[if_pos h]
theorem rgot_eq {rows:Rows}{n a b:Int}(h:x0.gotC rows a):r36_Got rows n a b=some (x0.gotL rows n a b):=by
 obtain⟨c1,c2,c3,c4⟩:=h
 have hg: ∀k:Nat,((x0.atR rows (max a 0+(k:Int)) n).Got).length≤1048576:=fun k=>by
  rw[atR_eq];exact x0.at_mem c2 (xat_eq rows _ n)
 have L:loopO (fun p:List GDeliver×Int=>r36_Got_0_step rows n b p.1 p.2) ([],max a 0)=some (x0.gotL rows n a b):=by
  refine loopO_at (f:=fun p:List GDeliver×Int=>r36_Got_0_step rows n b p.1 p.2) (inv:=fun k=>((List.range k).flatMap fun k:Nat=>(x0.atR rows (max a 0+(k:Int)) n).Got,max a 0+(k:Int))) (x0.gN rows.length a b) (by simp) (fun k hk=> ?_) ?_
  ·unfold x0.gN at hk
   have hl:=grow_len (fun k:Nat=>(x0.atR rows (max a 0+(k:Int)) n).Got) 1048576 hg k
   have hk2:=hg k
   simp only[r36_Got_0_step]
   rw[if_pos (by omega),if_pos (by omega),rat_eq,Option.bind_some,wrI (n:=max a 0+(k:Int)+1) rfl (by omega),←atR_eq,if_pos (by simp only[lenMax];omega),List.range_succ,List.flatMap_append,List.flatMap_singleton,
    show max a 0+((k+1:Nat):Int)=max a 0+(k:Int)+1 by omega]
  ·simp only[r36_Got_0_step]
   unfold x0.gotL
   by_cases h1:max a 0+((x0.gN rows.length a b:Nat):Int)<b
   ·rw[if_pos h1,if_neg (by unfold x0.gN at h1 ⊢;omega)]
   ·rw[if_neg h1]
 unfold r36_Got r36_Got_0
 rw[L];rfl
end Go.Proofs.YtaoijbibmcgdaaaGreat
set_option linter.unusedVariables false
set_option linter.unusedSimpArgs false
namespace Go.Proofs.YtaoijbibmcgdaaaGreat
open Go.Proofs.PF
theorem set_len {α:Type}(v:Int→α): ∀(l:List Int) (x:List α),(l.foldl (fun x n=>x.set n.toNat (v n)) x).length=x.length
 | [],x=>rfl
 |n::l,x=>by rw[List.foldl_cons,set_len v l];simp
theorem set_all {α:Type}(v:Int→α): ∀(l:List Int) (x:List α),(∀n∈l,0≤n)→∀j:Nat,j<x.length→(l.foldl (fun x n=>x.set n.toNat (v n)) x)[j]? =if(j:Int)∈l then some (v (j:Int))else x[j]?
 | [],x,_,j,_=>by simp
 |n::l,x,h,j,hj=>by
  rw[List.foldl_cons,set_all v l (x.set n.toNat (v n)) (fun m hm=>h m (List.mem_cons_of_mem _ hm)) j (by simpa using hj)]
  have hn:=h n (List.mem_cons_self ..)
  by_cases h1:(j:Int)∈l
  ·rw[if_pos h1,if_pos (List.mem_cons_of_mem _ h1)]
  ·rw[if_neg h1,List.getElem?_set]
   by_cases h2:n.toNat=j
   ·have e:n=(j:Int):=by omega
    subst e
    rw[if_pos h2,if_pos (by omega),if_pos (List.mem_cons_self ..)]
   ·rw[if_neg h2,if_neg]
    intro hm
    rcases List.mem_cons.1 hm with e|e
    ·omega
    ·exact h1 e
theorem set_map {α:Type}(v:Int→α)(d:α)(N:Nat)(l:List Int)(h: ∀n∈l,0≤n):l.foldl (fun x n=>x.set n.toNat (v n)) (List.replicate N d)=(List.range N).map fun j:Nat=>if(j:Int)∈l then v (j:Int)else d:=by
 refine List.ext_getElem? fun j=> ?_
 by_cases hj:j<N
 ·rw[set_all v l _ h j (by simpa using hj),List.getElem?_map,List.getElem?_range hj,List.getElem?_replicate,if_pos hj]
  simp only[Option.map_some]
  split<;>rfl
 ·rw[List.getElem?_eq_none (by rw[set_len];simp;omega),List.getElem?_eq_none (by simp;omega)]
end Go.Proofs.YtaoijbibmcgdaaaGreat
set_option linter.unusedVariables false
set_option linter.unusedSimpArgs false
namespace Go.Proofs.YtaoijbibmcgdaaaGreat
open Go.Proofs.PF
noncomputable def lineA (s:GScript)(l:List Int)(t:Int)(j:Nat):List UInt8:=if(j:Int)∈l then saidV s (j:Int) t else []
noncomputable def gotA (s:GScript)(rows:Rows)(l:List Int)(t:Int)(j:Nat):List GDeliver:=if(j:Int)∈l then x0.gotL rows (j:Int) t (t+s.Conf.Period)else []
noncomputable def rndV (s:GScript)(rows:Rows)(l:List Int)(n0 t:Int):GRound:=
 ⟨(atV rows t n0).Number,(atV rows t n0).Members,(List.range s.Conf.N.toNat).map (lineA s l t),(List.range s.Conf.N.toNat).map (gotA s rows l t)⟩
theorem round_eq {s:GScript}(h:SIn s)(hb:ImB s)(hp:plainV s.Conf=0){rows:Rows}(hf:FitN s.Conf.N rows){l:List Int}(hl:l.length≤1000)(hin: ∀n∈l,0≤n∧n<s.Conf.N){n0:Int}(h0:l[0]? =some n0)
 (a:Int) {t:Int} (t0:0≤t) (t1:t<(rows.length:Int)) (hg:x0.gotC rows t):judge_run_round (Gjudge_run.mk s l rows a) t=some (rndV s rows l n0 t):=by
 have hr:=hf.1
 have pp:=period_le hp
 have hN:4≤s.Conf.N∧s.Conf.N≤13:=⟨((plain_zero _).1 hp).1.1,((plain_zero _).1 hp).1.2.1⟩
 have hNN:0≤s.Conf.N∧s.Conf.N≤lenMax:=⟨by omega,by simp only[lenMax];omega⟩
 have z0:idx? l 0=some n0:=idx_get h0
 have i0:=hin n0 (List.mem_of_getElem? h0)
 obtain⟨z,hz,hz2⟩:=fit_at hf t0 t1 i0.1 i0.2
 have L: ∀x6,judge_run_round_0 t (Gjudge_run.mk s l rows a) l (l.length:Int) (atV rows t n0).Number (atV rows t n0).Members s.Conf.N.toNat s.Conf.N.toNat (atV rows t n0) x6 0 (List.replicate s.Conf.N.toNat (Gr.full,[])) (List.replicate s.Conf.N.toNat [])=
  some (l.foldl (fun x n=>x.set n.toNat (Gr.no,x0.gotL rows n t (t+s.Conf.Period))) (List.replicate s.Conf.N.toNat (Gr.full,[])),l.foldl (fun x n=>x.set n.toNat (saidV s n t)) (List.replicate s.Conf.N.toNat [])):=fun x6=>by
  refine loopO_at (f:=fun p:Int×(List (Gr×List GDeliver))×(List (List UInt8))=>judge_run_round_0_step t (Gjudge_run.mk s l rows a) l (l.length:Int) (atV rows t n0).Number (atV rows t n0).Members s.Conf.N.toNat s.Conf.N.toNat (atV rows t n0) x6 p.1 p.2.1 p.2.2)
   (inv:=fun k=>((k:Int),(l.take k).foldl (fun x n=>x.set n.toNat (Gr.no,x0.gotL rows n t (t+s.Conf.Period))) (List.replicate s.Conf.N.toNat (Gr.full,[])),(l.take k).foldl (fun x n=>x.set n.toNat (saidV s n t)) (List.replicate s.Conf.N.toNat []))) l.length (by simp) (fun k hk=> ?_) ?_
  ·have hx:=List.getElem?_eq_getElem (l:=l) (i:=k) hk
   have ix:=hin l[k] (List.getElem_mem hk)
   have hi:0≤l[k]∧l[k]<((s.Conf.N.toNat:Nat):Int):=⟨ix.1,by omega⟩
   have hj:l[k].toNat<s.Conf.N.toNat:=by omega
   have m5:=mod_some ((l.take k).foldl (fun x n=>x.set n.toNat (saidV s n t)) (List.replicate s.Conf.N.toNat [])) l[k].toNat (fun _=>saidV s l[k] t) (by rw[set_len (fun n=>saidV s n t),List.length_replicate];exact hj)
   have m4:=mod_some ((l.take k).foldl (fun x n=>x.set n.toNat (Gr.no,x0.gotL rows n t (t+s.Conf.Period))) (List.replicate s.Conf.N.toNat (Gr.full,[]))) l[k].toNat (fun _=>(Gr.no,x0.gotL rows l[k] t (t+s.Conf.Period))) (by rw[set_len (fun n=>(Gr.no,x0.gotL rows n t (t+s.Conf.Period))),List.length_replicate];exact hj)
   simp only[judge_run_round_0_step]
   rw[if_pos (by omega),idx_get hx,Option.bind_some,said_eq h hb,Option.bind_some,if_pos hi,m5,Option.bind_some,wrI (m:=t+s.Conf.Period) rfl (by omega),got_eq hg,Option.bind_some,
    if_pos hi,m4,Option.bind_some,wrI (n:=(k:Int)+1) rfl (by omega),←List.take_append_getElem hk,List.foldl_append,List.foldl_append]
   rfl
  ·simp only[judge_run_round_0_step]
   rw[if_neg (by omega),List.take_length]
 unfold judge_run_round judge_run_first
 rw[hz,Option.bind_some,z0,Option.bind_some,Option.bind_some,hz2,Option.bind_some,if_pos hNN,if_pos hNN]
 simp only[L,Option.bind_some]
 have e5:=set_map (fun n=>saidV s n t) [] s.Conf.N.toNat l fun n hn=>(hin n hn).1
 have e4:=set_map (fun n=>((Gr.no,x0.gotL rows n t (t+s.Conf.Period)):Gr×List GDeliver)) (Gr.full,[]) s.Conf.N.toNat l fun n hn=>(hin n hn).1
 rw[e5,e4]
 rw[sub_all _ _ (by simp),Option.bind_some,sub_all _ _ (by simp),Option.bind_some,List.map_map]
 unfold rndV
 congr 2
 refine List.map_congr_left fun j _=> ?_
 simp only[Function.comp,gotA]
 split<;>rfl
end Go.Proofs.YtaoijbibmcgdaaaGreat
set_option linter.unusedVariables false
set_option linter.unusedSimpArgs false
namespace Go.Proofs.YtaoijbibmcgdaaaGreat
open Go.Proofs.PF
theorem mem_hon {s:GScript}{j:Nat}(hj:(j:Int)<clV s.Conf.N):(j:Int)∈honV s↔(j:Int)∉s.Faulty:=by
 refine⟨fun h=>(honV_in h).2,fun h=> ?_⟩
 unfold honV
 refine List.mem_flatMap.2 ⟨j,List.mem_range.2 (by omega),?_⟩
 unfold honG
 rw[if_neg h]
 exact List.mem_singleton.2 rfl
theorem rround_eq {s:GScript}(h:SIn s)(hb:ImB s)(hp:plainV s.Conf=0){rows:Rows}(hr:rows.length≤100000000){t:Int}(t0:0≤t)(t1:t<(rows.length:Int))(hg:x0.gotC rows t){A2:List Int}{r7:Int}(hA:idx? A2 r7=some t)
 (t2:Int) (o2:List GRound) (nu:Int) (me:List UInt8):r39_Rounds_0 rows s t2 o2 A2 r7 0 (GRound.mk nu me [] [])=
   some ⟨nu,me,(List.range s.Conf.N.toNat).map (lineA s (honV s) t),(List.range s.Conf.N.toNat).map (gotA s rows (honV s) t)⟩:=by
 have pp:=period_le hp
 have hN:4≤s.Conf.N∧s.Conf.N≤13:=⟨((plain_zero _).1 hp).1.1,((plain_zero _).1 hp).1.2.1⟩
 have hcl:clV s.Conf.N=s.Conf.N:=by unfold clV;rw[if_neg (by omega),if_neg (by omega)]
 refine loopO_at (f:=fun p:Int×GRound=>r39_Rounds_0_step rows s t2 o2 A2 r7 p.1 p.2) (inv:=fun k=>((k:Int),GRound.mk nu me ((List.range k).map (lineA s (honV s) t)) ((List.range k).map (gotA s rows (honV s) t)))) s.Conf.N.toNat (by simp) (fun k hk=> ?_) ?_
 ·have hm:=mem_hon (s:=s) (j:=k) (by omega)
  have l1: ∀x:List UInt8,((List.range k).map (lineA s (honV s) t)).length+List.length [x]≤lenMax:=fun x=>by simp only[List.length_map,List.length_range,List.length_cons,List.length_nil,lenMax];omega
  have l2: ∀x:List GDeliver,((List.range k).map (gotA s rows (honV s) t)).length+List.length [x]≤lenMax:=fun x=>by simp only[List.length_map,List.length_range,List.length_cons,List.length_nil,lenMax];omega
  have hlt:(k:Int)<s.Conf.N:=by omega
  simp only[r39_Rounds_0_step]
  rw[if_pos hlt,rfaulty_eq h,Option.bind_some,List.range_succ,List.map_append,List.map_append]
  by_cases hq:(k:Int)∈s.Faulty
  ·have hn:(k:Int)∉honV s:=fun hh=>hm.1 hh hq
   rw[if_pos (decide_eq_true hq),if_pos (l1 _),if_pos (l2 _),wrI (n:=(k:Int)+1) rfl (by omega)]
   simp only[List.map_cons,List.map_nil,lineA,gotA,if_neg hn]
   rfl
  ·have hn:(k:Int)∈honV s:=hm.2 hq
   rw[if_neg (by simpa using hq),hA,Option.bind_some,rsaid_eq h hb,Option.bind_some,if_pos (l1 _),Option.bind_some,Option.bind_some,wrI (n:=t+s.Conf.Period) rfl (by omega),rgot_eq hg,Option.bind_some,if_pos (l2 _),wrI (n:=(k:Int)+1) rfl (by omega)]
   simp only[List.map_cons,List.map_nil,lineA,gotA,if_pos hn]
   rfl
 ·simp only[r39_Rounds_0_step]
  rw[if_neg (by omega)]
end Go.Proofs.YtaoijbibmcgdaaaGreat
set_option linter.unusedVariables false
set_option linter.unusedSimpArgs false
namespace Go.Proofs.YtaoijbibmcgdaaaGreat
open Go.Proofs.PF
theorem stV_in {c:GConf}(hp:plainV c=0){rows:Rows}{n f t:Int}(h:t∈stV c rows n f):0≤t∧t<(rows.length:Int):=by
 have pp:=period_le hp
 unfold stV at h
 obtain⟨k,hk,h⟩:=List.mem_flatMap.1 h
 have:=List.mem_range.1 hk
 unfold stG at h
 split at h
 ·simp only[List.mem_singleton]at h
  subst h
  omega
 ·cases h
theorem stV_len (c:GConf)(hp:plainV c=0)(rows:Rows)(n f:Int):(stV c rows n f).length≤rows.length:=by
 have pp:=period_le hp
 have:=st_len rows n (max f 0) ((rows.length:Int)-c.Period+1-max f 0).toNat
 unfold stV
 omega
section
variable {s:GScript} (h:SIn s) (hb:ImB s) (hp:plainV s.Conf=0) {rows:Rows} (hf:FitN s.Conf.N rows) {n0:Int} (hg: ∀t,0≤t→t<(rows.length:Int)→x0.gotC rows t) (h0:(honV s)[0]? =some n0)
include h hb hp hf hg h0
theorem rounds_eq {a:Int}(ha:a≤1000000000):judge_run_rounds (Gjudge_run.mk s (honV s) rows a)=some ((stV s.Conf rows n0 a).map (rndV s rows (honV s) n0)):=by
 have hr:=hf.1
 have hN:4≤s.Conf.N∧s.Conf.N≤13:=⟨((plain_zero _).1 hp).1.1,((plain_zero _).1 hp).1.2.1⟩
 have hcl:clV s.Conf.N=s.Conf.N:=by unfold clV;rw[if_neg (by omega),if_neg (by omega)]
 have hin: ∀n∈honV s,0≤n∧n<s.Conf.N:=fun n hn=>by have:=(honV_in hn).1;exact⟨this.1,hcl▸this.2⟩
 have hl:=honV_len s
 have z0:idx? (honV s) 0=some n0:=idx_get h0
 have hS:=stV_len s.Conf hp rows n0 a
 unfold judge_run_rounds judge_run_first
 rw[z0,Option.bind_some,Option.bind_some,starts_eq h.conf hp hr n0 a ha,Option.bind_some]
 have hmem: ∀t∈stV s.Conf rows n0 a,0≤t∧t<(rows.length:Int):=fun t ht=>stV_in hp ht
 generalize stV s.Conf rows n0 a=l at hS hmem
 have L:judge_run_rounds_0 (Gjudge_run.mk s (honV s) rows a) l (l.length:Int) [] 0=some (l.map (rndV s rows (honV s) n0)):=by
  refine loopO_at (f:=fun p:List GRound×Int=>judge_run_rounds_0_step (Gjudge_run.mk s (honV s) rows a) l (l.length:Int) p.1 p.2) (inv:=fun k=>((l.take k).map (rndV s rows (honV s) n0),(k:Int))) l.length (by simp) (fun k hk=> ?_) ?_
  ·have ht:=hmem l[k] (List.getElem_mem hk)
   simp only[judge_run_rounds_0_step]
   rw[if_pos (by omega),idx_get (List.getElem?_eq_getElem hk),Option.bind_some,round_eq h hb hp hf (by omega) hin h0 a ht.1 ht.2 (hg _ ht.1 ht.2),Option.bind_some,
    if_pos (by simp only[List.length_map,List.length_take,List.length_cons,List.length_nil,lenMax];omega),wrI (n:=(k:Int)+1) rfl (by omega),←List.take_append_getElem hk,List.map_append]
   rfl
  ·simp only[judge_run_rounds_0_step]
   rw[if_neg (by omega),List.take_length]
 rw[L];rfl
theorem rrounds_eq (l:List Int)(hS:l.length≤rows.length)(hmem: ∀t∈l,0≤t∧t<(rows.length:Int)):r39_Rounds_1 rows s n0 l [] 0=some (l.map (rndV s rows (honV s) n0)):=by
 have hr:=hf.1
 have hN:4≤s.Conf.N∧s.Conf.N≤13:=⟨((plain_zero _).1 hp).1.1,((plain_zero _).1 hp).1.2.1⟩
 have hcl:clV s.Conf.N=s.Conf.N:=by unfold clV;rw[if_neg (by omega),if_neg (by omega)]
 have i0:=(honV_in (List.mem_of_getElem? h0)).1
 have i1:n0<s.Conf.N:=hcl▸i0.2
 refine loopO_at (f:=fun p:List GRound×Int=>r39_Rounds_1_step rows s n0 l p.1 p.2) (inv:=fun k=>((l.take k).map (rndV s rows (honV s) n0),(k:Int))) l.length (by simp) (fun k hk=> ?_) ?_
 ·have ht:=hmem l[k] (List.getElem_mem hk)
  have hx:=idx_get (List.getElem?_eq_getElem hk)
  obtain⟨z,hz,hz2⟩:=fit_at hf ht.1 ht.2 i0.1 i1
  simp only[r39_Rounds_1_step]
  rw[if_pos (by omega)]
  simp only[hx,Option.bind_some,hz,hz2]
  rw[rround_eq h hb hp hr ht.1 ht.2 (hg _ ht.1 ht.2) hx,Option.bind_some,
   if_pos (by simp only[List.length_map,List.length_take,List.length_cons,List.length_nil,lenMax];omega),wrI (n:=(k:Int)+1) rfl (by omega),←List.take_append_getElem hk,List.map_append]
  rfl
 ·simp only[r39_Rounds_1_step]
  rw[if_neg (by omega),List.take_length]
end
end Go.Proofs.YtaoijbibmcgdaaaGreat
set_option linter.unusedVariables false
set_option linter.unusedSimpArgs false
namespace Go.Proofs.YtaoijbibmcgdaaaGreat
open Go.Proofs.PF
structure RIn (rows:Rows):Prop where
 n:rows.length≤4096
 g: ∀l∈rows,∀r∈l,r.Got.length≤1048576
noncomputable def roundsV (s:GScript)(rows:Rows):List GRound:=
 if holdsV s≠0 then []else if FitP s rows then(stV s.Conf rows ((honV s)[0]?.getD 0) (allV s)).map (rndV s rows (honV s) ((honV s)[0]?.getD 0))else []
section
variable {s:GScript} (h:SIn s) (hb:ImB s) {rows:Rows} (hr:RIn rows)
include h hb hr
theorem Rounds_eq (ha:holdsV s=0→allV s≤1000000000)(h1:holdsV s=0→∃n0,(honV s)[0]? =some n0):judge_Rounds s rows=some (roundsV s rows):=by
 have hn:=hr.n
 unfold judge_Rounds roundsV
 rw[open_eq h (by omega),Option.bind_some]
 by_cases h0:holdsV s≠0
 ·simp only[if_pos h0]
 ·simp only[if_neg h0]
  by_cases hq:FitP s rows
  ·obtain⟨n0,hn0⟩:=h1 (Classical.not_not.1 h0)
   have hp:=plain_of (holds_zero (Classical.not_not.1 h0))
   simp only[if_pos hq]
   rw[if_neg (by simp),rounds_eq h hb hp ⟨by omega,hq.2⟩ (fun t t0 t1=>⟨hn,hr.g,by omega,by omega⟩) hn0 (ha (Classical.not_not.1 h0)),hn0]
   rfl
  ·simp only[if_neg hq]
   rfl
theorem rRounds_eq (ha:holdsV s=0→allV s≤1000000000)(h1:holdsV s=0→∃n0,(honV s)[0]? =some n0):r39_Rounds s rows=some (roundsV s rows):=by
 have hn:=hr.n
 unfold r39_Rounds roundsV
 rw[rholds_eq h,Option.bind_some]
 by_cases h0:holdsV s≠0
 ·rw[if_pos h0,if_pos h0]
 ·rw[if_neg h0,if_neg h0,fits_eq (by omega),Option.bind_some,notb]
  by_cases hq:FitP s rows
  ·obtain⟨n0,hn0⟩:=h1 (Classical.not_not.1 h0)
   have hz:=holds_zero (Classical.not_not.1 h0)
   have hp:=plain_of hz
   have e:stV s.Conf rows n0 (wr (lastV s+allC s.Conf))=stV s.Conf rows n0 (allV s):=by
    unfold stV;rw[show max (wr (lastV s+allC s.Conf)) 0=max (allV s) 0 by unfold allV;omega]
   have hle:wr (lastV s+allC s.Conf)≤1000000000:=by have:=ha (Classical.not_not.1 h0);unfold allV at this;omega
   rw[if_pos hq,if_pos hq,rhonest_eq h,Option.bind_some,show idx? (honV s) 0=some n0 from idx_get hn0,Option.bind_some,rAll_eq h hz,Option.bind_some,rstarts_eq h.conf hp (by omega) n0 _ hle,Option.bind_some,e,
    rrounds_eq h hb hp ⟨by omega,hq.2⟩ (fun t t0 t1=>⟨hn,hr.g,by omega,by omega⟩) hn0 _ (stV_len _ hp _ _ _) (fun t ht=>stV_in hp ht),hn0]
   rfl
  ·rw[if_neg hq,if_neg hq]
end
end Go.Proofs.YtaoijbibmcgdaaaGreat
set_option linter.unusedVariables false
set_option linter.unusedSimpArgs false
namespace Go.Proofs.YtaoijbibmcgdaaaGreat
open Go.Proofs.PF
theorem lastN_in (p:Nat→Prop): ∀k,-1≤lastN p k∧lastN p k<(k:Int)+0∨lastN p k= -1
 |0=>.inr rfl
 |k+1=>by
  simp only[lastN]
  split
  ·rcases lastN_in p k with h|h
   ·exact .inl (by omega)
   ·exact .inr h
  ·exact .inl (by omega)
theorem allC_in {c:GConf}(hp:plainV c=0):0≤allC c∧allC c≤3000:=by
 have hl:=lenV_in c ((plain_zero c).1 hp)
 have pp:=period_le hp
 unfold allC setC
 rw[wrI (n:=4*lenV c) rfl (by omega),wrI (n:=1+4*lenV c) rfl (by omega),wrI (n:=2*c.Period) rfl (by omega),wrI (n:=1+4*lenV c+2*c.Period) rfl (by omega),wrI (n:=4*c.Period) rfl (by omega),wrI rfl (by omega)]
 omega
theorem allV_le {s:GScript}(h:SIn s)(hp:plainV s.Conf=0):0≤allV s∧allV s≤1000000000:=by
 have hT:=h.t
 have hc:=allC_in hp
 have hl:=lastN_in (calmN s) s.Ticks.length
 unfold allV lastV
 rw[wrI rfl (by omega)]
 omega
end Go.Proofs.YtaoijbibmcgdaaaGreat
namespace Go.Proofs.YtaoijbibmcgdaaaGreat
open Go.Proofs.PF
theorem len_of_mem : ∀(n:Nat) (l:List Int),(∀k:Nat,k<n→(k:Int)∈l)→n≤l.length
 |0,_,_=>Nat.zero_le _
 |n+1,l,h=>by
  have hm:=h n (Nat.lt_succ_self n)
  have:=len_of_mem n (l.erase (n:Int)) fun k hk=>(List.mem_erase_of_ne (by omega)).2 (h k (by omega))
  rw[List.length_erase_of_mem hm]at this
  have:0<l.length:=List.length_pos_of_mem hm
  omega
theorem hon_some {s:GScript}(hp:plainV s.Conf=0)(hF: ¬s.Conf.F<(s.Faulty.length:Int)): ∃n0,(honV s)[0]? =some n0:=by
 obtain⟨n0,n1,f0,f1,f2⟩:=((plain_zero _).1 hp).1
 have hcl:clV s.Conf.N=s.Conf.N:=by unfold clV;rw[if_neg (by omega),if_neg (by omega)]
 cases e:honV s with
 |cons x r=>exact⟨x,rfl⟩
 |nil=>
  exfalso
  have:=len_of_mem s.Conf.N.toNat s.Faulty fun k hk=>by
   have hm:=mem_hon (s:=s) (j:=k) (by omega)
   rw[e]at hm
   exact Classical.byContradiction fun hn=>by cases hm.2 hn
  omega
end Go.Proofs.YtaoijbibmcgdaaaGreat
set_option linter.unusedVariables false
set_option linter.unusedSimpArgs false
namespace Go.Proofs.YtaoijbibmcgdaaaGreat
open Go.Proofs.PF
structure FewT (t:GTick):Prop where
 u:(t.Units.length:Int)≤100
 d:(t.Delays.length:Int)≤400
 s:(t.Sends.length:Int)≤100
 b:(t.Bursts.length:Int)≤100
 y:(t.Strays.length:Int)≤100
 w:(t.Writes.length:Int)≤100
 bb: ∀x∈t.Bursts,(x.Image.length:Int)≤16000
structure FewS (s:GScript):Prop where
 t:(s.Ticks.length:Int)≤400
 c:(s.Conf.Table.length:Int)≤100
 f:(s.Faulty.length:Int)≤100
 i:(s.Images.length:Int)≤100
 ii: ∀x∈s.Images,(x.length:Int)≤16000
 tt: ∀t∈s.Ticks,FewT t
theorem few_eq (s:GScript): ∃b,r33_Few s 400=some b∧(b=true→FewS s):=by
 classical
 unfold r33_Few
 by_cases h1:400<(s.Ticks.length:Int)
 ·exact⟨false,if_pos h1,fun h=>by cases h⟩
 rw[if_neg h1]
 by_cases h2:100<(s.Conf.Table.length:Int)
 ·exact⟨false,if_pos h2,fun h=>by cases h⟩
 rw[if_neg h2]
 by_cases h3:100<(s.Faulty.length:Int)
 ·exact⟨false,if_pos h3,fun h=>by cases h⟩
 rw[if_neg h3]
 by_cases h4:100<(s.Images.length:Int)
 ·exact⟨false,if_pos h4,fun h=>by cases h⟩
 rw[if_neg h4]
 have L0:=loopO_alls (f:=fun z=>r33_Few_0_step s z) s.Images (fun x=>(x.length:Int)≤16000) (fun k x hk hx=>by
  simp only[r33_Few_0_step]
  rw[if_pos (by omega),idx_get hx,Option.bind_some,wrI rfl (by omega)]
  by_cases a:16000<(x.length:Int)
  ·rw[if_pos a,if_neg (by omega)]
  ·rw[if_neg a,if_pos (by omega)]) (by simp only[r33_Few_0_step];rw[if_neg (by omega)])
 have L1:=fun(o:Int) (t:GTick) (ht:(t.Bursts.length:Int)≤100)=>
  loopO_alls (f:=fun z=>r33_Few_1_step s o t.Bursts (t.Bursts.length:Int) t z) t.Bursts (fun x=>(x.Image.length:Int)≤16000) (fun k x hk hx=>by
   simp only[r33_Few_1_step]
   rw[if_pos (by omega),idx_get hx,Option.bind_some,wrI rfl (by omega)]
   by_cases a:16000<(x.Image.length:Int)
   ·rw[if_pos a,if_neg (by omega)]
   ·rw[if_neg a,if_pos (by omega)]) (by simp only[r33_Few_1_step];rw[if_neg (by omega)])
 have L2:=loopO_alls (f:=fun z=>r33_Few_2_step s z) s.Ticks FewT (fun k t hk ht=>by
  simp only[r33_Few_2_step]
  rw[if_pos (by omega),idx_get ht,Option.bind_some]
  by_cases a1:100<(t.Units.length:Int)
  ·rw[if_pos a1,if_neg (fun p=>by have:=p.u;omega)]
  rw[if_neg a1]
  by_cases a2:400<(t.Delays.length:Int)
  ·rw[if_pos a2,if_neg (fun p=>by have:=p.d;omega)]
  rw[if_neg a2]
  by_cases a3:100<(t.Sends.length:Int)
  ·rw[if_pos a3,if_neg (fun p=>by have:=p.s;omega)]
  rw[if_neg a3]
  by_cases a4:100<(t.Bursts.length:Int)
  ·rw[if_pos a4,if_neg (fun p=>by have:=p.b;omega)]
  rw[if_neg a4]
  by_cases a5:100<(t.Strays.length:Int)
  ·rw[if_pos a5,if_neg (fun p=>by have:=p.y;omega)]
  rw[if_neg a5]
  by_cases a6:100<(t.Writes.length:Int)
  ·rw[if_pos a6,if_neg (fun p=>by have:=p.w;omega)]
  rw[if_neg a6]
  unfold r33_Few_1
  rw[L1 _ t (by omega),Option.bind_some,wrI rfl (by omega)]
  by_cases a7: ∀x∈t.Bursts,(x.Image.length:Int)≤16000
  ·rw[if_pos a7,if_pos ⟨by omega,by omega,by omega,by omega,by omega,by omega,a7⟩];rfl
  ·rw[if_neg a7,if_neg (fun p=>a7 p.bb)];rfl) (by simp only[r33_Few_2_step];rw[if_neg (by omega)])
 unfold r33_Few_0 r33_Few_2
 rw[L0,Option.bind_some]
 by_cases a: ∀x∈s.Images,(x.length:Int)≤16000
 ·rw[if_pos a,Sum.elim_inr,L2,Option.bind_some]
  by_cases b: ∀t∈s.Ticks,FewT t
  ·exact⟨true,by rw[if_pos b];rfl,fun _=>⟨by omega,by omega,by omega,by omega,a,b⟩⟩
  ·exact⟨false,by rw[if_neg b];rfl,fun h=>by cases h⟩
 ·exact⟨false,by rw[if_neg a];rfl,fun h=>by cases h⟩
theorem few_sin {s:GScript}(h:FewS s)(hc:CIn s.Conf):SIn s:=by
 have h1:=h.f
 have h2:=h.i
 have h3:=h.t
 exact⟨hc,by omega,by omega,by omega,fun t ht=>by
  have a:=h.tt t ht
  have a1:=a.u
  have a2:=a.d
  have a3:=a.s
  have a4:=a.b
  have a5:=a.y
  have a6:=a.w
  exact⟨by omega,by omega,by omega,by omega,by omega,by omega⟩⟩
theorem few_imb {s:GScript}(h:FewS s):ImB s:=⟨fun t ht b hb=>by have:=(h.tt t ht).bb b hb;omega,fun im hi=>by have:=h.ii im hi;omega⟩
theorem rfew_eq (rows:Rows): ∃b,r36_Few rows 400=some b∧(b=true→RIn rows):=by
 classical
 unfold r36_Few
 by_cases h1:400<(rows.length:Int)
 ·exact⟨false,if_pos h1,fun h=>by cases h⟩
 rw[if_neg h1]
 have L0:=fun(i:Int) (l:List GReport) (hl:idx? rows i=some l) (h2:(l.length:Int)≤20)=>loopO_alls (f:=fun z=>r36_Few_0_step rows i z) l (fun r=>(r.Got.length:Int)≤40) (fun k x hk hx=>by
  simp only[r36_Few_0_step,hl,Option.bind_some]
  rw[if_pos (by omega),idx_get hx,Option.bind_some,wrI rfl (by omega)]
  by_cases a:40<(x.Got.length:Int)
  ·rw[if_pos a,if_neg (by omega)]
  ·rw[if_neg a,if_pos (by omega)]) (by simp only[r36_Few_0_step,hl,Option.bind_some];rw[if_neg (by omega)])
 have L1:=loopO_alls (f:=fun z=>r36_Few_1_step rows z) rows (fun l=>(l.length:Int)≤20∧∀r∈l,(r.Got.length:Int)≤40) (fun k l hk hl=>by
  simp only[r36_Few_1_step]
  rw[if_pos (by omega),idx_get hl,Option.bind_some]
  by_cases a1:20<(l.length:Int)
  ·rw[if_pos a1,if_neg (fun p=>by have:=p.1;omega)]
  rw[if_neg a1]
  unfold r36_Few_0
  rw[L0 _ l (idx_get hl) (by omega),Option.bind_some,wrI rfl (by omega)]
  by_cases a2: ∀r∈l,(r.Got.length:Int)≤40
  ·rw[if_pos a2,if_pos ⟨by omega,a2⟩];rfl
  ·rw[if_neg a2,if_neg (fun p=>a2 p.2)];rfl) (by simp only[r36_Few_1_step];rw[if_neg (by omega)])
 unfold r36_Few_1
 rw[L1]
 by_cases a: ∀l∈rows,(l.length:Int)≤20∧∀r∈l,(r.Got.length:Int)≤40
 ·exact⟨true,by rw[if_pos a];rfl,fun _=>⟨by omega,fun l hl r hr=>by have:=(a l hl).2 r hr;omega⟩⟩
 ·exact⟨false,by rw[if_neg a];rfl,fun h=>by cases h⟩
theorem in_cin {s:GScript}(h:GScript.In s):CIn s.Conf:=by
 obtain⟨h1,h2,h3,h4,h5,h6,h7,h8,h9,h10,⟨h11,h12⟩,-⟩:=h
 unfold SL at h11
 exact⟨h1,h2,h3,h4,h5,h6,by omega,h12⟩
theorem jfew_eq (s:GScript)(rows:Rows)(hs:GScript.In s): ∃b,l39_few s rows=some b∧(b=true→SIn s∧ImB s∧RIn rows):=by
 unfold l39_few
 obtain⟨b,e,hf⟩:=few_eq s
 rw[e,Option.bind_some]
 cases b with
 |false=>exact⟨false,rfl,fun h=>by cases h⟩
 |true=>
  have hf:=hf rfl
  obtain⟨b2,e2,hf2⟩:=rfew_eq rows
  exact⟨b2,by rw[if_pos rfl,e2];rfl,fun h=>⟨few_sin hf (in_cin hs),few_imb hf,hf2 h⟩⟩
end Go.Proofs.YtaoijbibmcgdaaaGreat
set_option linter.unusedVariables false
set_option linter.unusedSimpArgs false
namespace Go.Proofs.YtaoijbibmcgdaaaGreat
open Go.Proofs.PF
theorem same_got (l:List GDeliver)(h:l.length≤4294967296):r24_Same l l=some true:=by
 have L:=loopO_alls (f:=fun z=>r24_Same_0_step l l z) l (fun _=>True) (fun k x hk hx=>by
  simp only[r24_Same_0_step]
  rw[if_pos (by omega),idx_get hx,Option.bind_some,Option.bind_some,wrI rfl (by omega)]
  simp) (by simp only[r24_Same_0_step];rw[if_neg (by omega)])
 unfold r24_Same r24_Same_0
 rw[if_neg (by omega),L,if_pos (fun _ _=>trivial)]
 rfl
structure RndS (r:GRound):Prop where
 l:r.Lines.length≤1000
 g:r.Got.length≤1000
 d: ∀l∈r.Got,l.length≤4294967296
theorem same_refl {r:GRound}(h:RndS r):r38_Same r r=some true:=by
 have hl:=h.l
 have hg:=h.g
 have L0:=loopO_alls (f:=fun z=>r38_Same_0_step r r z) r.Lines (fun _=>True) (fun k x hk hx=>by
  simp only[r38_Same_0_step]
  rw[if_pos (by omega),idx_get hx,Option.bind_some,Option.bind_some,if_neg (by simp),if_pos trivial,wrI rfl (by omega)]) (by simp only[r38_Same_0_step];rw[if_neg (by omega)])
 have L1:=loopO_alls (f:=fun z=>r38_Same_1_step r r z) r.Got (fun _=>True) (fun k x hk hx=>by
  simp only[r38_Same_1_step]
  rw[if_pos (by omega),idx_get hx,Option.bind_some,Option.bind_some,same_got x (h.d x (List.mem_of_getElem? hx)),Option.bind_some,if_neg (by simp),if_pos trivial,wrI rfl (by omega)]) (by simp only[r38_Same_1_step];rw[if_neg (by omega)])
 unfold r38_Same r38_Same_0 r38_Same_1
 rw[if_neg (by simp),if_neg (by simp),if_neg (by simp),if_neg (by simp),L0,Option.bind_some,if_pos (fun _ _=>trivial),Sum.elim_inr,L1,if_pos (fun _ _=>trivial)]
 rfl
theorem gotL_len {rows:Rows}(hr:RIn rows)(n a b:Int):(x0.gotL rows n a b).length≤4294967296:=by
 have hn:=hr.n
 have:=grow_len (fun k:Nat=>(x0.atR rows (max a 0+(k:Int)) n).Got) 1048576 (fun k=>by rw[atR_eq];exact x0.at_mem hr.g (xat_eq rows _ n)) (x0.gN rows.length a b)
 unfold x0.gotL
 have h2:x0.gN rows.length a b≤4096:=by unfold x0.gN;omega
 have h3:=Nat.mul_le_mul_right 1048576 h2
 omega
theorem rounds_in {s:GScript}{rows:Rows}(hr:RIn rows):(roundsV s rows).length≤4096∧∀r∈roundsV s rows,RndS r:=by
 unfold roundsV
 by_cases h0:holdsV s≠0
 ·rw[if_pos h0];exact⟨by simp,fun r h=>by cases h⟩
 rw[if_neg h0]
 by_cases hq:FitP s rows
 ·rw[if_pos hq]
  have hp:=plain_of (holds_zero (Classical.not_not.1 h0))
  have hN:4≤s.Conf.N∧s.Conf.N≤13:=⟨((plain_zero _).1 hp).1.1,((plain_zero _).1 hp).1.2.1⟩
  refine⟨?_,fun r h=> ?_⟩
  ·have:=stV_len s.Conf hp rows ((honV s)[0]?.getD 0) (allV s)
   have:=hr.n
   rw[List.length_map]
   omega
  ·obtain⟨t,-,rfl⟩:=List.mem_map.1 h
   unfold rndV
   refine⟨by simp only[List.length_map,List.length_range];omega,by simp only[List.length_map,List.length_range];omega,fun l hl=> ?_⟩
   obtain⟨j,-,rfl⟩:=List.mem_map.1 hl
   unfold gotA
   split
   ·exact gotL_len hr _ _ _
   ·simp
 ·rw[if_neg hq];exact⟨by simp,fun r h=>by cases h⟩
theorem all_of {s:GScript}(h:SIn s)(h0:holdsV s=0):allV s≤1000000000:=(allV_le h (plain_of (holds_zero h0))).2
theorem hon_of {s:GScript}(h0:holdsV s=0): ∃n0,(honV s)[0]? =some n0:=by
 refine hon_some (plain_of (holds_zero h0)) fun hh=> ?_
 unfold holdsV at h0
 rw[if_neg (by
  by_cases h1:scriptV s≠0
  ·rw[if_pos h1]at h0;exact absurd h0 h1
  ·exact h1),if_pos hh]at h0
 cases h0
theorem JudgeRounds_true (s:GScript)(rows:List (List GReport))(node t:Int)(hs:GScript.In s)(h1:SL rows∧∀z∈rows,SL z∧∀y∈z,GReport.In y)(h2:I64 node)(h3:I64 t):l39_JudgeRounds s rows node t=some true:=by
 unfold l39_JudgeRounds
 obtain⟨b,e,hf⟩:=jfew_eq s rows hs
 rw[e,Option.bind_some]
 cases b with
 |false=>rfl
 |true=>
  obtain⟨hS,hB,hR⟩:=hf rfl
  have hr:=rounds_in (s:=s) hR
  have L:=loopO_alls (f:=fun z=>l39_JudgeRounds_0_step (roundsV s rows) (roundsV s rows) z) (roundsV s rows) (fun _=>True) (fun k x hk hx=>by
   have:=hr.1
   simp only[l39_JudgeRounds_0_step]
   rw[if_pos (by omega),idx_get hx,Option.bind_some,Option.bind_some,same_refl (hr.2 x (List.mem_of_getElem? hx)),Option.bind_some,if_neg (by simp),if_pos trivial,wrI rfl (by omega)]) (by simp only[l39_JudgeRounds_0_step];rw[if_neg (by omega)])
  rw[if_neg (by simp),Rounds_eq hS hB hR (all_of hS) hon_of,Option.bind_some,rRounds_eq hS hB hR (all_of hS) hon_of,Option.bind_some,if_neg (by simp),said_eq hS hB,Option.bind_some,rsaid_eq hS hB,Option.bind_some,if_neg (by simp)]
  unfold l39_JudgeRounds_0
  rw[L,Option.bind_some,if_pos (fun _ _=>trivial)]
  rfl
end Go.Proofs.YtaoijbibmcgdaaaGreat
namespace Go.Proofs.YtaoijbibmcgdaaaGreat
open Go.Proofs.PF
theorem JudgeRounds_law (l:List AV)(h:ArgsOf [([.i .i64,.i .i64,.i .i64,.i .i64,.i .i64,.i .i64,.i .i64,.i .i64,.i .i64,.i .i64,.l [.i .i64] false,.l [.i .i64] false,.l [.s] false,.l [.l [.i .i64] false,.l [.i .i64] false,.l [.i .i64,.i .i64,.i .i64,.s] true,.l [.i .i64,.s] true,.l [.i .i64,.i .i64,.i .i64,.s] true,.l [.i .i64,.s] true] true],true),([.l [.l [.b,.b,.i .i64,.i .i64,.s,.i .i64,.l [.i .i64,.i .i64,.i .i64,.s] true] true] false],false),([.i .i64],false),([.i .i64],false)] l):LM.call 4 l []=some (.bool true,[]):=by
 obtain⟨y0,_,rfl,p0,h⟩:=GScript.dec.arg h
 obtain⟨y1,_,rfl,p1,h⟩:=(Dec.list (Dec.list GReport.dec)).arg h
 obtain⟨y2,_,rfl,p2,h⟩:=Dec.i64.arg h
 obtain⟨y3,_,rfl,p3,h⟩:=Dec.i64.arg h
 obtain rfl:=Dec.end_ h
 obtain⟨q,e,rfl⟩:=(l39_JudgeRounds_sim y0 y1 y2 y3).h true (JudgeRounds_true y0 y1 y2 y3 p0 p1 p2 p3)
 exact e
end Go.Proofs.YtaoijbibmcgdaaaGreat
