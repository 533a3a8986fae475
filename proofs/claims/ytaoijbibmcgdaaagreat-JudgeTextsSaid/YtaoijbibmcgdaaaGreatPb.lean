/-
  What the rows' arguments are known to be.
-/
import Derived.Test.YtaoijbibmcgdaaaGreatPa
import Derived.Test.YtaoijbibmcgdaaaGreatDb
set_option linter.unusedVariables false
set_option linter.unusedSimpArgs false
namespace Go.Proofs.YtaoijbibmcgdaaaGreat
open Go.Proofs.PF
open Classical in
theorem loopO_allR {β:Type}{f:Int→Option (Int⊕(β⊕Unit))}(L:Int)(p:Int→Prop)(b:β)(he: ∀t,L≤t→f t=some (.inr (.inr ()))): ∀(m:Nat) (a:Int),(L-a).toNat=m→
 (∀t,a≤t→t<L→f t=some (if p t then .inl (t+1)else .inr (.inl b)))→loopO f a=some (if∀t,a≤t→t<L→p t then .inr ()else .inl b):=by
 intro m
 induction m with
 |zero=>
  intro a ha h
  rw[loopO_inr (he a (by omega)),if_pos fun t h1 h2=>absurd h1 (by omega)]
 |succ m ih=>
  intro a ha h
  have h1:=h a (Int.le_refl _) (by omega)
  by_cases hp:p a
  ·rw[if_pos hp]at h1
   rw[loopO_inl h1,ih (a+1) (by omega) fun t h1 h2=>h t (by omega) h2]
   by_cases hq: ∀t,a+1≤t→t<L→p t
   ·rw[if_pos hq,if_pos fun t h1 h2=>if e:t=a then e▸hp else hq t (by omega) h2]
   ·rw[if_neg hq,if_neg fun hh=>hq fun t h1 h2=>hh t (by omega) h2]
  ·rw[if_neg hp]at h1
   rw[loopO_inr h1,if_neg fun hh=>hp (hh a (Int.le_refl _) (by omega))]
def firstT (e:Int→Int):Int→Nat→Int
 |_,0=>0
 |a,m+1=>if e a≠0 then e a else firstT e (a+1) m
theorem loopO_first {f:Int→Option (Int⊕(Int⊕Unit))}(L:Int)(e:Int→Int)(he: ∀t,L≤t→f t=some (.inr (.inr ()))): ∀(m:Nat) (a:Int),(L-a).toNat=m→
 (∀t,a≤t→t<L→f t=some (if e t≠0 then .inr (.inl (e t))else .inl (t+1)))→loopO f a=some (if firstT e a m≠0 then .inl (firstT e a m)else .inr ()):=by
 intro m
 induction m with
 |zero=>intro a ha h;rw[loopO_inr (he a (by omega))];simp[firstT]
 |succ m ih=>
  intro a ha h
  have h1:=h a (Int.le_refl _) (by omega)
  by_cases hp:e a≠0
  ·rw[if_pos hp]at h1
   rw[loopO_inr h1]
   simp only[firstT,if_pos hp]
  ·rw[if_neg hp]at h1
   rw[loopO_inl h1,ih (a+1) (by omega) fun t h1 h2=>h t (by omega) h2]
   simp only[firstT,if_neg hp]
theorem first_end {x:Option (Int⊕Unit)}{v:Int}(h:x=some (if v≠0 then .inl v else .inr ())):(x.bind fun r=>Sum.elim (fun r3=>some r3) (fun _=>some 0) r)=some v:=by
 rw[h]
 by_cases hv:v≠0
 ·rw[if_pos hv];rfl
 ·rw[if_neg hv];rw[Classical.not_not.1 hv];rfl
def comP (rows:Rows)(l:List Int)(n0 t:Int):Prop:= ∀n∈l,(atV rows t n).Pulse=(atV rows t n0).Pulse
instance (rows :Rows)(l:List Int)(n0 t:Int):Decidable (comP rows l n0 t):=by unfold comP;infer_instance
theorem common_eq {rows:Rows}{l:List Int}(hl:l.length≤1000){n0:Int}(h0:l[0]? =some n0)(t:Int):window_Common rows l t=some (decide (comP rows l n0 t)):=by
 have z:idx? l 0=some n0:=idx_get h0
 refine every_eq (fun p=>window_Common_0_step rows l t l (l.length:Int) p) l (fun n=>(atV rows t n).Pulse=(atV rows t n0).Pulse) (fun k x hk hx=> ?_) ?_
 ·simp only[window_Common_0_step]
  rw[if_pos (by omega),idx_get hx,zbs,at_eq,zbs,z,zbs,at_eq,zbs,wrI rfl (by omega)]
  by_cases h:(atV rows t x).Pulse=(atV rows t n0).Pulse<;>simp[h]
 ·simp only[window_Common_0_step];rw[if_neg (by omega)]
def comA (rows:Rows)(l:List Int)(n0 f:Int):Prop:= ∀t,f≤t→t<(rows.length:Int)→comP rows l n0 t
open Classical in
theorem wcommon_eq {rows:Rows}(hr:rows.length≤100000000){l:List Int}(hl:l.length≤1000){n0:Int}(h0:l[0]? =some n0){f:Int}(hf:0≤f):window_common rows l f=some (decide (comA rows l n0 f)):=by
 unfold window_common window_common_0
 rw[loopO_allR (f:=fun s=>window_common_0_step rows l s) (rows.length:Int) (comP rows l n0) false (fun t ht=>by simp only[window_common_0_step];rw[if_neg (by omega)]) _ f rfl (fun t h1 h2=>by
  simp only[window_common_0_step]
  rw[if_pos h2,common_eq hl h0,zbs,wrI rfl (by omega),notb]
  by_cases h:comP rows l n0 t<;>simp[h])]
 by_cases h:comA rows l n0 f
 ·rw[if_pos (show∀t,f≤t→t<(rows.length:Int)→comP rows l n0 t from h),decide_eq_true h];rfl
 ·rw[if_neg (show¬∀t,f≤t→t<(rows.length:Int)→comP rows l n0 t from h),decide_eq_false h];rfl
def sinN (rows:Rows)(n t:Int):Nat→Int
 |0=> -1
 |k+1=>if(atV rows (k:Int) n).Pulse then t-(k:Int)else sinN rows n t k
def sinV (rows:Rows)(n t:Int):Int:=if(rows.length:Int)≤t then-1 else sinN rows n t (t+1).toNat
theorem since_eq {rows:Rows}(hr:rows.length≤100000000)(n:Int){t:Int}(ht:0≤t):window_Since rows n t=some (sinV rows n t):=by
 unfold window_Since sinV
 by_cases h1:(rows.length:Int)≤t
 ·rw[if_pos h1,if_pos h1]
 rw[if_neg h1,if_neg h1]
 have key: ∀k:Nat,(k:Int)≤t+1→∃v,loopO (fun s=>window_Since_0_step rows n t s) (t+1-(k:Int))=some v∧0≤v∧v≤t+1∧(if t-v<0 then-1 else v)=sinN rows n t k:=by
  intro k
  induction k with
  |zero=>
   intro _
   refine⟨t+1,loopO_inr (by simp only[window_Since_0_step];rw[wrI (m:= -1) (by omega) (by omega),if_neg (by omega)];congr 2;omega),by omega,by omega,?_⟩
   rw[if_pos (by omega)];rfl
  |succ k ih=>
   intro hk
   have e:wr (t-(t+1-((k+1:Nat):Int)))=(k:Int):=wrI (by omega) (by omega)
   by_cases hp:(atV rows (k:Int) n).Pulse=true
   ·refine⟨t-(k:Int),loopO_inr (by simp only[window_Since_0_step];rw[e,if_pos (by omega),at_eq,zbs,if_pos hp];congr 2;omega),by omega,by omega,?_⟩
    simp only[sinN,if_pos hp]
    rw[if_neg (by omega)]
   ·obtain⟨v,h1,h2⟩:=ih (by omega)
    refine⟨v,?_,?_⟩
    ·rw[loopO_inl (by simp only[window_Since_0_step];rw[e,if_pos (by omega),at_eq,zbs,if_neg hp,wrI (m:=t+1-(k:Int)) (by omega) (by omega)]),h1]
    ·simp only[sinN,if_neg hp];exact h2
 obtain⟨v,h2,h3,h4,h5⟩:=key (t+1).toNat (by omega)
 rw[show t+1-(((t+1).toNat:Nat):Int)=0 by omega]at h2
 unfold window_Since_0
 rw[h2,zbs,wrI (m:=t-v) rfl (by omega),←h5]
 split<;>rfl
def FitN (N:Int)(rows:Rows):Prop:=rows.length≤100000000∧∀l∈rows,(l.length:Int)=N
theorem fit_at {N:Int}{rows:Rows}(hf:FitN N rows){t n:Int}(h0:0≤t)(h1:t<(rows.length:Int))(h2:0≤n)(h3:n<N): ∃z,idx? rows t=some z∧idx? z n=some (atV rows t n):=by
 obtain⟨z,hz,hz2,hm⟩:=idx_in h0 h1
 obtain⟨r,hr,hr2,-⟩:=idx_in (l:=z) h2 (by rw[hf.2 z hm];exact h3)
 refine⟨z,hz,?_⟩
 rw[hr]
 unfold atV
 rw[if_neg (by omega),if_neg (by omega),hz2,zbs,hr2];rfl
theorem any_fix {α γ:Type}(f:Int×γ→Option ((Int×γ)⊕((Bool×γ)⊕γ)))(c:γ)(l:List α)(p:α→Prop) [DecidablePred p]
 (h: ∀(k:Nat) x,k<l.length→l[k]? =some x→f ((k:Int),c)=some (if p x then .inr (.inl (true,c))else .inl ((k:Int)+1,c))) (he:f ((l.length:Int),c)=some (.inr (.inr c))):
 ((loopO f (0,c)).bind fun r=>Sum.elim (fun r3=>some (r3.1,r3.2)) (fun r4=>some (false,r4)) r)=some (decide (∃x∈l,p x),c):=by
 have: ∀m k:Nat,k+m=l.length→loopO f ((k:Int),c)=some (if∃x∈l.drop k,p x then .inl (true,c)else .inr c):=by
  intro m
  induction m with
  |zero=>
   intro k hk
   obtain rfl:k=l.length:=by omega
   rw[loopO_inr he,List.drop_length,if_neg (by simp)]
  |succ m ih=>
   intro k hk
   have hlt:k<l.length:=by omega
   have h1:=h k l[k] hlt (zge hlt)
   rw[List.drop_eq_getElem_cons hlt]
   by_cases hp:p l[k]
   ·rw[if_pos hp]at h1
    rw[loopO_inr h1,if_pos ⟨_,List.mem_cons_self ..,hp⟩]
   ·rw[if_neg hp]at h1
    rw[loopO_inl h1,show((k:Int)+1)=((k+1:Nat):Int) by omega,ih (k+1) (by omega)]
    simp only[List.mem_cons,exists_eq_or_imp,hp,false_or]
 have:=this l.length 0 (by omega)
 rw[show((0:Nat):Int)=0 from rfl,List.drop_zero]at this
 rw[this]
 by_cases hp: ∃x∈l,p x
 ·rw[if_pos hp,decide_eq_true hp];rfl
 ·rw[if_neg hp,decide_eq_false hp];rfl
noncomputable def hasV (m:List UInt8)(n:Int):Bool:=(roster_Has m n).getD false
theorem has_roster (m:List UInt8)(n:Int):roster_Has m n=some (hasV m n):=by
 have: ∃b,roster_Has m n=some b:=by
  unfold roster_Has
  split
  ·split
   ·obtain⟨x,hx,-,-⟩:=idx_in (l:=m) (i:=n) (by omega) (by omega)
    rw[hx];exact⟨_,rfl⟩
   ·exact⟨_,rfl⟩
  ·exact⟨_,rfl⟩
 obtain⟨b,hb⟩:=this
 unfold hasV
 rw[hb];rfl
noncomputable def memE (rows:Rows)(l:List Int)(n0 t:Int):Int:=
 if∃n∈l,(atV rows t n).Members≠(atV rows t n0).Members then 7 else if∃n∈l,hasV (atV rows t n0).Members n=false then 12 else 0
section
variable {N:Int} {rows:Rows} (hf:FitN N rows) {l:List Int} (hl:l.length≤1000) (hin: ∀n∈l,0≤n∧n<N) {n0:Int} (h0:l[0]? =some n0)
include hf hl hin h0
theorem members_eq (s:GScript)(a:Int){t:Int}(t0:0≤t)(t1:t<(rows.length:Int)):judge_run_members (Gjudge_run.mk s l rows a) t=some (memE rows l n0 t):=by
 have z0:idx? l 0=some n0:=idx_get h0
 have i0:=hin n0 (List.mem_of_getElem? h0)
 obtain⟨z,hz,hz2⟩:=fit_at hf t0 t1 i0.1 i0.2
 unfold judge_run_members judge_run_first
 rw[hz,zbs,z0,zbs,zbs,hz2,zbs]
 have e1:judge_run_any_v3 (Gjudge_run.mk s l rows a) t (atV rows t n0).Members=some (decide (∃n∈l,(atV rows t n).Members≠(atV rows t n0).Members),(atV rows t n0).Members):=by
  refine any_fix (fun p=>judge_run_any_v3_0_step t (Gjudge_run.mk s l rows a) l (l.length:Int) p.1 p.2) _ l (fun n=>(atV rows t n).Members≠(atV rows t n0).Members) (fun k x hk hx=> ?_) ?_
  ·have ix:=hin x (List.mem_of_getElem? hx)
   obtain⟨y,hy,hy2⟩:=fit_at hf t0 t1 ix.1 ix.2
   simp only[judge_run_any_v3_0_step,judge_run_members_1]
   rw[if_pos (by omega),idx_get hx,zbs,hy,zbs,hy2,zbs,zbs,wrI rfl (by omega)]
   by_cases h:(atV rows t x).Members≠(atV rows t n0).Members<;>simp[h]
  ·simp only[judge_run_any_v3_0_step];rw[if_neg (by omega)]
 have e2:judge_run_any_v4 (Gjudge_run.mk s l rows a) t (atV rows t n0).Members=some (decide (∃n∈l,hasV (atV rows t n0).Members n=false),(atV rows t n0).Members):=by
  refine any_fix (fun p=>judge_run_any_v4_0_step t (Gjudge_run.mk s l rows a) l (l.length:Int) p.1 p.2) _ l (fun n=>hasV (atV rows t n0).Members n=false) (fun k x hk hx=> ?_) ?_
  ·have ix:=hin x (List.mem_of_getElem? hx)
   obtain⟨y,hy,hy2⟩:=fit_at hf t0 t1 ix.1 ix.2
   simp only[judge_run_any_v4_0_step,judge_run_members_2]
   rw[if_pos (by omega),idx_get hx,zbs,hy,zbs,hy2,zbs,has_roster,zbs,zbs,wrI rfl (by omega)]
   cases h:hasV (atV rows t n0).Members x<;>simp[h]
  ·simp only[judge_run_any_v4_0_step];rw[if_neg (by omega)]
 rw[e1,zbs]
 simp only[e2,zbs,decide_eq_true_eq]
 unfold memE
 split
 ·rfl
 ·split<;>rfl
theorem each_members (s:GScript){a:Int}(ha:0≤a)(x:Gjudge_run)(hx:x.f_rows=rows)(hx2:x.f_all=a):judge_run_each_v1 x (Gjudge_run.mk s l rows a)=some (firstT (memE rows l n0) a ((rows.length:Int)-a).toNat):=by
 obtain⟨xs,xl,xr,xa⟩:=x
 simp only at hx hx2
 subst hx hx2
 have hr:=hf.1
 refine first_end (loopO_first (f:=fun p=>judge_run_each_v1_0_step (Gjudge_run.mk s l xr xa) (Gjudge_run.mk xs xl xr xa) p) (xr.length:Int) (memE xr l n0) (fun t ht=>by simp only[judge_run_each_v1_0_step];rw[if_neg (by omega)]) _ xa rfl fun t h1 h2=> ?_)
 simp only[judge_run_each_v1_0_step]
 rw[if_pos (by omega),members_eq hf hl hin h0 s xa (by omega) h2,zbs,wrI rfl (by omega)]
 split<;>rfl
end
def modV (n m:Int):Int:=if m<1 then 0 else if Int.tmod n m<0 then wr (Int.tmod n m+m)else Int.tmod n m
theorem nmodV_eq (n m:Int):num_Mod n m=some (modV n m):=by
 unfold num_Mod modV
 by_cases h:m<1
 ·rw[if_pos h,if_pos h]
 ·rw[if_neg h,if_neg h,if_neg (by omega)]
  split<;>rfl
def nextV (c:GConf)(n:Int):Int:=modV (wr (modV n c.Mod+1)) c.Mod
theorem next_eq {c:GConf}(hc:CIn c)(hp:plainV c=0)(n:Int):number_Next c n []=some (nextV c n):=by
 unfold number_Next number_behind number_behind_1
 rw[conf_plain c hc,zbs,if_neg (by simp[hp]),if_neg (by simp),zbs,nmodV_eq,zbs,nmodV_eq];rfl
def numT (rows:Rows)(n0:Int)(c:GConf)(t:Int):Int:=
 if(atV rows t n0).Pulse=true then(if(atV rows t n0).Number≠nextV c (atV rows (t-1) n0).Number then 16 else 0)else if(atV rows t n0).Number≠(atV rows (t-1) n0).Number then 16 else 0
def numE (rows:Rows)(l:List Int)(n0:Int)(c:GConf)(a t:Int):Int:=
 if∃n∈l,(atV rows t n).Sync=false then 14 else if∃n∈l,(atV rows t n).Number≠(atV rows t n0).Number then 7 else if t=a then 0 else numT rows n0 c t
section
variable {N:Int} {rows:Rows} (hf:FitN N rows) {l:List Int} (hl:l.length≤1000) (hin: ∀n∈l,0≤n∧n<N) {n0:Int} (h0:l[0]? =some n0) {s:GScript} (hc:CIn s.Conf) (hp:plainV s.Conf=0)
include hf hl hin h0 hc hp
theorem number_at {a:Int}(ha:0≤a){t:Int}(t0:a≤t)(t1:t<(rows.length:Int)):judge_run_number (Gjudge_run.mk s l rows a) t=some (numE rows l n0 s.Conf a t):=by
 have hr:=hf.1
 have z0:idx? l 0=some n0:=idx_get h0
 have i0:=hin n0 (List.mem_of_getElem? h0)
 obtain⟨z,hz,hz2⟩:=fit_at hf (by omega) t1 i0.1 i0.2
 have e1:judge_run_any (Gjudge_run.mk s l rows a) t=some (decide (∃n∈l,(atV rows t n).Sync=false)):=by
  have L:=loopO_anys (f:=fun p=>judge_run_any_0_step t (Gjudge_run.mk s l rows a) l (l.length:Int) p) l (fun n=>(atV rows t n).Sync=false) true (fun k x hk hx=>by
   have ix:=hin x (List.mem_of_getElem? hx)
   obtain⟨y,hy,hy2⟩:=fit_at hf (show 0≤t by omega) t1 ix.1 ix.2
   simp only[judge_run_any_0_step,judge_run_number_1]
   rw[if_pos (by omega),idx_get hx,zbs,hy,zbs,hy2,zbs,zbs,wrI rfl (by omega)]
   cases h:(atV rows t x).Sync<;>simp[h]) (by simp only[judge_run_any_0_step];rw[if_neg (by omega)])
  unfold judge_run_any judge_run_any_0
  rw[L]
  by_cases h: ∃n∈l,(atV rows t n).Sync=false
  ·rw[if_pos h,decide_eq_true h];rfl
  ·rw[if_neg h,decide_eq_false h];rfl
 have e2:judge_run_any_v1 (Gjudge_run.mk s l rows a) t (atV rows t n0)=some (decide (∃n∈l,(atV rows t n).Number≠(atV rows t n0).Number),atV rows t n0):=by
  refine any_fix (fun p=>judge_run_any_v1_0_step t (Gjudge_run.mk s l rows a) l (l.length:Int) p.1 p.2) _ l (fun n=>(atV rows t n).Number≠(atV rows t n0).Number) (fun k x hk hx=> ?_) ?_
  ·have ix:=hin x (List.mem_of_getElem? hx)
   obtain⟨y,hy,hy2⟩:=fit_at hf (show 0≤t by omega) t1 ix.1 ix.2
   simp only[judge_run_any_v1_0_step,judge_run_number_2]
   rw[if_pos (by omega),idx_get hx,zbs,hy,zbs,hy2,zbs,zbs,wrI rfl (by omega)]
   by_cases h:(atV rows t x).Number≠(atV rows t n0).Number<;>simp[h]
  ·simp only[judge_run_any_v1_0_step];rw[if_neg (by omega)]
 unfold judge_run_number judge_run_first
 rw[hz,zbs,z0,zbs,zbs,hz2,zbs,e1,zbs]
 unfold numE
 by_cases q1: ∃n∈l,(atV rows t n).Sync=false
 ·rw[if_pos (decide_eq_true q1),if_pos q1]
 rw[if_neg (by simpa using q1),if_neg q1,e2,zbs]
 by_cases q2: ∃n∈l,(atV rows t n).Number≠(atV rows t n0).Number
 ·rw[if_pos (decide_eq_true q2),if_pos q2]
 rw[if_neg (by simpa using q2),if_neg q2]
 by_cases q3:t=a
 ·rw[if_pos q3,if_pos q3]
 obtain⟨y,hy,hy2⟩:=fit_at hf (show 0≤t-1 by omega) (by omega) i0.1 i0.2
 rw[if_neg q3,if_neg q3,wrI (m:=t-1) rfl (by omega),hy,zbs,zbs,hy2,zbs]
 simp only[next_eq hc hp,zbs]
 unfold numT
 split<;>split<;>rfl
theorem each_numbers {a:Int}(ha:0≤a):judge_run_each (Gjudge_run.mk s l rows a) (Gjudge_run.mk s l rows a)=some (firstT (numE rows l n0 s.Conf a) a ((rows.length:Int)-a).toNat):=by
 have hr:=hf.1
 refine first_end (loopO_first (f:=fun p=>judge_run_each_0_step (Gjudge_run.mk s l rows a) (Gjudge_run.mk s l rows a) p) (rows.length:Int) (numE rows l n0 s.Conf a) (fun t ht=>by simp only[judge_run_each_0_step];rw[if_neg (by omega)]) _ a rfl fun t h1 h2=> ?_)
 simp only[judge_run_each_0_step]
 rw[if_pos (by omega),number_at hf hl hin h0 hc hp ha h1 h2,zbs,wrI rfl (by omega)]
 split<;>rfl
end
def FitP (s:GScript)(rows:Rows):Prop:=(rows.length:Int)=(s.Ticks.length:Int)∧∀l∈rows,(l.length:Int)=s.Conf.N
instance (s :GScript)(rows:Rows):Decidable (FitP s rows):=by unfold FitP;infer_instance
noncomputable def allV (s:GScript):Int:=max 0 (wr (lastV s+allC s.Conf))
noncomputable def run0 :Gjudge_run:=Gjudge_run.mk (GScript.mk (GConf.mk 0 0 0 0 0 0 0 0 0 0 []) [] [] []) [] [] 0
theorem holds_zero {s:GScript}(h:holdsV s=0):scriptV s=0:=by
 unfold holdsV at h
 by_cases h1:scriptV s≠0
 ·rw[if_pos h1]at h;exact absurd h h1
 ·exact Classical.not_not.1 h1
theorem open_eq {s:GScript}(h:SIn s){rows:Rows}(hr:rows.length≤100000000):
 judge_open s rows=some (if holdsV s≠0 then(run0,holdsV s)else if FitP s rows then(Gjudge_run.mk s (honV s) rows (allV s),0)else(run0,2)):=by
 unfold judge_open
 rw[holds_eq h,zbs]
 by_cases h0:holdsV s≠0
 ·rw[if_pos h0,if_pos h0];rfl
 rw[if_neg h0,if_neg h0]
 have hz:=holds_zero (Classical.not_not.1 h0)
 by_cases h1:(rows.length:Int)≠(s.Ticks.length:Int)
 ·rw[if_pos h1,if_neg fun hh=>h1 hh.1];rfl
 rw[if_neg h1]
 have L:=loopO_anys (f:=fun p=>judge_open_0_step rows s rows (rows.length:Int) run0 p) rows (fun l=>(l.length:Int)≠s.Conf.N) ((2:Int),run0) (fun k x hk hx=>by
  simp only[judge_open_0_step]
  rw[if_pos (by omega),idx_get hx,zbs,wrI rfl (by omega)]
  split<;>rfl) (by simp only[judge_open_0_step];rw[if_neg (by omega)])
 rw[show judge_open_0 rows s rows (rows.length:Int) (Gjudge_run.mk (GScript.mk (GConf.mk 0 0 0 0 0 0 0 0 0 0 ([]:List Int)) ([]:List Int) ([]:List (List UInt8)) ([]:List GTick)) ([]:List Int) ([]:List (List GReport)) 0) 0=_ from L]
 by_cases hq: ∃l∈rows,(l.length:Int)≠s.Conf.N
 ·rw[if_pos hq,if_neg (by rintro⟨_,h2⟩;obtain⟨l,hl,hn⟩:=hq;exact hn (h2 l hl))];rfl
 ·rw[if_neg hq,if_pos ⟨Classical.not_not.1 h1,fun l hl=>Classical.byContradiction fun hn=>hq ⟨l,hl,hn⟩⟩,zbs]
  simp only[Sum.elim_inr,honest_eq h,pAll_eq h hz,zbs]
  rfl
theorem loopO_fold {α σ:Type}{f:σ×Int→Option ((σ×Int)⊕σ)}(l:List α)(g:σ→α→σ)(a0:σ)
 (h: ∀(k:Nat) x a,k<l.length→l[k]? =some x→f (a,(k:Int))=some (.inl (g a x,(k:Int)+1))) (he: ∀a,f (a,(l.length:Int))=some (.inr a)):loopO f (a0,0)=some (l.foldl g a0):=by
 refine loopO_at (inv:=fun k=>((l.take k).foldl g a0,(k:Int))) l.length (by simp) (fun k hk=> ?_) ?_
 ·rw[h k l[k] _ hk (zge hk),←List.take_append_getElem hk,List.foldl_append]
  rfl
 ·rw[he,List.take_length]
noncomputable def imgO (c:GConf)(im:List UInt8):List UInt8:=(if plainV c=0 then mendV c (pMem c im)else noMem).Out
noncomputable def tickS (c:GConf)(i:Int)(a:List UInt8)(t:GTick):List UInt8:=
 t.Writes.foldl (fun a w=>if w.Node=i then w.Text else a) (t.Bursts.foldl (fun a b=>if b.Node=i then imgO c b.Image else a) a)
structure ImB (s:GScript):Prop where
 b: ∀t∈s.Ticks,∀b∈t.Bursts,b.Image.length≤1000000000
 i: ∀im∈s.Images,im.length≤1000000000
noncomputable def lineV (s:GScript)(i t:Int)(a:List UInt8):List UInt8:=(s.Ticks.take (t+1).toNat).foldl (tickS s.Conf i) a
section
variable {s:GScript} (h:SIn s) (hb:ImB s)
include h hb
theorem said2_eq (i t:Int)(a:List UInt8):judge_Said_2 i t s s.Ticks (s.Ticks.length:Int) a 0=some (lineV s i t a):=by
 have hT:=h.t
 refine loopO_at (f:=fun p:List UInt8×Int=>judge_Said_2_step i t s s.Ticks (s.Ticks.length:Int) p.1 p.2) (inv:=fun k=>((s.Ticks.take k).foldl (tickS s.Conf i) a,(k:Int))) (min s.Ticks.length (t+1).toNat) (by simp) (fun k hk=> ?_) ?_
 ·have hk2:k<s.Ticks.length:=by omega
  have hz:=zge (l:=s.Ticks) (i:=k) hk2
  have ht:=h.tt _ (List.getElem_mem hk2)
  have hbt:=hb.b _ (List.getElem_mem hk2)
  simp only[judge_Said_2_step]
  rw[if_pos (by omega),idx_get hz,zbs,if_neg (by omega)]
  have e1: ∀A,judge_Said_0 i t s s.Ticks (s.Ticks.length:Int) (k:Int) s.Ticks[k].Bursts (s.Ticks[k].Bursts.length:Int) s.Ticks[k] A 0=some (s.Ticks[k].Bursts.foldl (fun a b=>if b.Node=i then imgO s.Conf b.Image else a) A):=fun A=>
   loopO_fold (f:=fun p:List UInt8×Int=>judge_Said_0_step i t s s.Ticks (s.Ticks.length:Int) (k:Int) s.Ticks[k].Bursts (s.Ticks[k].Bursts.length:Int) s.Ticks[k] p.1 p.2) s.Ticks[k].Bursts _ A (fun j x b hj hx=>by
    have hl:=ht.b
    simp only[judge_Said_0_step]
    rw[if_pos (by omega),idx_get hx,zbs,wrI rfl (by omega)]
    split
    ·rw[read_eq _ _ h.conf (hbt x (List.mem_of_getElem? hx))];rfl
    ·rfl) (fun b=>by simp only[judge_Said_0_step];rw[if_neg (by omega)])
  have e2: ∀A,judge_Said_1 i t s s.Ticks (s.Ticks.length:Int) (k:Int) s.Ticks[k].Writes (s.Ticks[k].Writes.length:Int) s.Ticks[k] A 0=some (s.Ticks[k].Writes.foldl (fun a w=>if w.Node=i then w.Text else a) A):=fun A=>
   loopO_fold (f:=fun p:List UInt8×Int=>judge_Said_1_step i t s s.Ticks (s.Ticks.length:Int) (k:Int) s.Ticks[k].Writes (s.Ticks[k].Writes.length:Int) s.Ticks[k] p.1 p.2) s.Ticks[k].Writes _ A (fun j x b hj hx=>by
    have hl:=ht.w
    simp only[judge_Said_1_step]
    rw[if_pos (by omega),idx_get hx,zbs,wrI rfl (by omega)]
    split<;>rfl) (fun b=>by simp only[judge_Said_1_step];rw[if_neg (by omega)])
  rw[e1,zbs,e2,zbs,wrI rfl (by omega),←List.take_append_getElem hk2,List.foldl_append]
  rfl
 ·simp only[judge_Said_2_step]
  unfold lineV
  by_cases hlt:s.Ticks.length≤(t+1).toNat
  ·rw[Nat.min_eq_left hlt,if_neg (by omega),List.take_length,List.take_of_length_le hlt]
  ·rw[Nat.min_eq_right (by omega)]
   obtain⟨z,hz,-,-⟩:=idx_in (l:=s.Ticks) (i:=(((t+1).toNat:Nat):Int)) (by omega) (by omega)
   rw[if_pos (by omega),hz,zbs,if_pos (by omega)]
omit hb in
omit h in
theorem simage_eq (i:Int):script_Image s i=some (if IsN s.Conf i then(s.Images[i.toNat]?).getD []else []):=by
 unfold script_Image script_listed_string
 rw[is_eq,zbs]
 by_cases h1:IsN s.Conf i
 ·rw[decide_eq_true h1,if_neg (by simp),if_pos h1]
  by_cases h2:i<(s.Images.length:Int)
  ·obtain⟨z,hz,hz2,-⟩:=idx_in (l:=s.Images) h1.1 h2
   rw[if_pos h2,hz,hz2];rfl
  ·have e:s.Images[i.toNat]? =none:=List.getElem?_eq_none (by omega)
   rw[if_neg h2,e];rfl
 ·rw[decide_eq_false h1,if_pos (by simp),if_neg h1]
noncomputable def saidV (s:GScript)(i t:Int):List UInt8:=
 if i<0 then []else if min s.Conf.N 13≤i then []else lineV s i t (imgO s.Conf (if IsN s.Conf i then(s.Images[i.toNat]?).getD []else []))
theorem said_eq (i t:Int):judge_Said s i t=some (saidV s i t):=by
 unfold judge_Said saidV
 by_cases h0:i<0
 ·rw[if_pos h0,if_pos h0]
 rw[if_neg h0,if_neg h0]
 by_cases h1:min s.Conf.N 13≤i
 ·rw[if_pos h1,if_pos h1]
 rw[if_neg h1,if_neg h1,simage_eq,zbs,read_eq _ _ h.conf ?_,zbs,said2_eq h hb]
 ·rfl
 ·split
  ·cases e:s.Images[i.toNat]? with
   |none=>simp
   |some z=>exact hb.i z (List.mem_of_getElem? e)
  ·simp
end
theorem xat_eq (rows:Rows)(t n:Int):x0.trace_At rows t n=some (atV rows t n):=at_eq rows t n
theorem atR_eq (rows:Rows)(t n:Int):x0.atR rows t n=atV rows t n:=by
 unfold x0.atR
 rw[xat_eq];rfl
theorem got_eq {rows:Rows}{n a b:Int}(h:x0.gotC rows a):trace_Got rows n a b=some (x0.gotL rows n a b):=by
 show x0.gotP rows n a b=_
 unfold x0.gotP
 rw[if_pos h]
theorem set_len {α:Type}(v:Int→α): ∀(l:List Int) (x:List α),(l.foldl (fun x n=>x.set n.toNat (v n)) x).length=x.length
 | [],x=>rfl
 |n::l,x=>by rw[List.foldl_cons,set_len v l];simp
theorem set_all {α:Type}(v:Int→α): ∀(l:List Int) (x:List α),(∀n∈l,0≤n)→∀j:Nat,j<x.length→(l.foldl (fun x n=>x.set n.toNat (v n)) x)[j]? =if(j:Int)∈l then some (v (j:Int))else x[j]?
 | [],x,_,j,_=>by simp
 |n::l,x,h,j,hj=>by
  rw[List.foldl_cons,set_all v l (x.set n.toNat (v n)) (fun m hm=>h m (List.mem_cons_of_mem _ hm)) j (by simpa using hj)]
  have hn:=h n (List.mem_cons_self ..)
  by_cases h1:(j:Int)∈l
  ·rw[if_pos h1,if_pos (List.mem_cons_of_mem _ h1)]
  ·rw[if_neg h1,List.getElem?_set]
   by_cases h2:n.toNat=j
   ·have e:n=(j:Int):=by omega
    subst e
    rw[if_pos h2,if_pos (by omega),if_pos (List.mem_cons_self ..)]
   ·rw[if_neg h2,if_neg]
    intro hm
    rcases List.mem_cons.1 hm with e|e
    ·omega
    ·exact h1 e
theorem set_map {α:Type}(v:Int→α)(d:α)(N:Nat)(l:List Int)(h: ∀n∈l,0≤n):l.foldl (fun x n=>x.set n.toNat (v n)) (List.replicate N d)=(List.range N).map fun j:Nat=>if(j:Int)∈l then v (j:Int)else d:=by
 refine List.ext_getElem? fun j=> ?_
 by_cases hj:j<N
 ·rw[set_all v l _ h j (by simpa using hj),List.getElem?_map,List.getElem?_range hj,List.getElem?_replicate,if_pos hj]
  simp only[Option.map_some]
  split<;>rfl
 ·rw[List.getElem?_eq_none (by rw[set_len];simp;omega),List.getElem?_eq_none (by simp;omega)]
noncomputable def lineA (s:GScript)(l:List Int)(t:Int)(j:Nat):List UInt8:=if(j:Int)∈l then saidV s (j:Int) t else []
noncomputable def gotA (s:GScript)(rows:Rows)(l:List Int)(t:Int)(j:Nat):List GDeliver:=if(j:Int)∈l then x0.gotL rows (j:Int) t (t+s.Conf.Period)else []
noncomputable def rndV (s:GScript)(rows:Rows)(l:List Int)(n0 t:Int):GRound:=
 ⟨(atV rows t n0).Number,(atV rows t n0).Members,(List.range s.Conf.N.toNat).map (lineA s l t),(List.range s.Conf.N.toNat).map (gotA s rows l t)⟩
theorem round_eq {s:GScript}(h:SIn s)(hb:ImB s)(hp:plainV s.Conf=0){rows:Rows}(hf:FitN s.Conf.N rows){l:List Int}(hl:l.length≤1000)(hin: ∀n∈l,0≤n∧n<s.Conf.N){n0:Int}(h0:l[0]? =some n0)
 (a:Int) {t:Int} (t0:0≤t) (t1:t<(rows.length:Int)) (hg:x0.gotC rows t):judge_run_round (Gjudge_run.mk s l rows a) t=some (rndV s rows l n0 t):=by
 have hr:=hf.1
 have pp:=period_le hp
 have hN:4≤s.Conf.N∧s.Conf.N≤13:=⟨((plain_zero _).1 hp).1.1,((plain_zero _).1 hp).1.2.1⟩
 have hNN:0≤s.Conf.N∧s.Conf.N≤lenMax:=⟨by omega,by simp only[lenMax];omega⟩
 have z0:idx? l 0=some n0:=idx_get h0
 have i0:=hin n0 (List.mem_of_getElem? h0)
 obtain⟨z,hz,hz2⟩:=fit_at hf t0 t1 i0.1 i0.2
 have L: ∀x6,judge_run_round_0 t (Gjudge_run.mk s l rows a) l (l.length:Int) (atV rows t n0).Number (atV rows t n0).Members s.Conf.N.toNat s.Conf.N.toNat (atV rows t n0) x6 0 (List.replicate s.Conf.N.toNat (Gr.full,[])) (List.replicate s.Conf.N.toNat [])=
  some (l.foldl (fun x n=>x.set n.toNat (Gr.no,x0.gotL rows n t (t+s.Conf.Period))) (List.replicate s.Conf.N.toNat (Gr.full,[])),l.foldl (fun x n=>x.set n.toNat (saidV s n t)) (List.replicate s.Conf.N.toNat [])):=fun x6=>by
  refine loopO_at (f:=fun p:Int×(List (Gr×List GDeliver))×(List (List UInt8))=>judge_run_round_0_step t (Gjudge_run.mk s l rows a) l (l.length:Int) (atV rows t n0).Number (atV rows t n0).Members s.Conf.N.toNat s.Conf.N.toNat (atV rows t n0) x6 p.1 p.2.1 p.2.2)
   (inv:=fun k=>((k:Int),(l.take k).foldl (fun x n=>x.set n.toNat (Gr.no,x0.gotL rows n t (t+s.Conf.Period))) (List.replicate s.Conf.N.toNat (Gr.full,[])),(l.take k).foldl (fun x n=>x.set n.toNat (saidV s n t)) (List.replicate s.Conf.N.toNat []))) l.length (by simp) (fun k hk=> ?_) ?_
  ·have hx:=zge (l:=l) (i:=k) hk
   have ix:=hin l[k] (List.getElem_mem hk)
   have hi:0≤l[k]∧l[k]<((s.Conf.N.toNat:Nat):Int):=⟨ix.1,by omega⟩
   have hj:l[k].toNat<s.Conf.N.toNat:=by omega
   have m5:=mod_some ((l.take k).foldl (fun x n=>x.set n.toNat (saidV s n t)) (List.replicate s.Conf.N.toNat [])) l[k].toNat (fun _=>saidV s l[k] t) (by rw[set_len (fun n=>saidV s n t),List.length_replicate];exact hj)
   have m4:=mod_some ((l.take k).foldl (fun x n=>x.set n.toNat (Gr.no,x0.gotL rows n t (t+s.Conf.Period))) (List.replicate s.Conf.N.toNat (Gr.full,[]))) l[k].toNat (fun _=>(Gr.no,x0.gotL rows l[k] t (t+s.Conf.Period))) (by rw[set_len (fun n=>(Gr.no,x0.gotL rows n t (t+s.Conf.Period))),List.length_replicate];exact hj)
   simp only[judge_run_round_0_step]
   rw[if_pos (by omega),idx_get hx,zbs,said_eq h hb,zbs,if_pos hi,m5,zbs,wrI (m:=t+s.Conf.Period) rfl (by omega),got_eq hg,zbs,
    if_pos hi,m4,zbs,wrI (n:=(k:Int)+1) rfl (by omega),←List.take_append_getElem hk,List.foldl_append,List.foldl_append]
   rfl
  ·simp only[judge_run_round_0_step]
   rw[if_neg (by omega),List.take_length]
 unfold judge_run_round judge_run_first
 rw[hz,zbs,z0,zbs,zbs,hz2,zbs,if_pos hNN,if_pos hNN]
 simp only[L,zbs]
 have e5:=set_map (fun n=>saidV s n t) [] s.Conf.N.toNat l fun n hn=>(hin n hn).1
 have e4:=set_map (fun n=>((Gr.no,x0.gotL rows n t (t+s.Conf.Period)):Gr×List GDeliver)) (Gr.full,[]) s.Conf.N.toNat l fun n hn=>(hin n hn).1
 rw[e5,e4]
 rw[sub_all _ _ (by simp),zbs,sub_all _ _ (by simp),zbs,List.map_map]
 unfold rndV
 congr 2
 refine List.map_congr_left fun j _=> ?_
 simp only[Function.comp,gotA]
 split<;>rfl
theorem mem_hon {s:GScript}{j:Nat}(hj:(j:Int)<clV s.Conf.N):(j:Int)∈honV s↔(j:Int)∉s.Faulty:=by
 refine⟨fun h=>(honV_in h).2,fun h=> ?_⟩
 unfold honV
 refine List.mem_flatMap.2 ⟨j,List.mem_range.2 (by omega),?_⟩
 unfold honG
 rw[if_neg h]
 exact List.mem_singleton.2 rfl
theorem stV_in {c:GConf}(hp:plainV c=0){rows:Rows}{n f t:Int}(h:t∈stV c rows n f):0≤t∧t<(rows.length:Int):=by
 have pp:=period_le hp
 unfold stV at h
 obtain⟨k,hk,h⟩:=List.mem_flatMap.1 h
 have:=List.mem_range.1 hk
 unfold stG at h
 split at h
 ·simp only[List.mem_singleton]at h
  subst h
  omega
 ·cases h
theorem stV_len (c:GConf)(hp:plainV c=0)(rows:Rows)(n f:Int):(stV c rows n f).length≤rows.length:=by
 have pp:=period_le hp
 have:=st_len rows n (max f 0) ((rows.length:Int)-c.Period+1-max f 0).toNat
 unfold stV
 omega
section
variable {s:GScript} (h:SIn s) (hb:ImB s) (hp:plainV s.Conf=0) {rows:Rows} (hf:FitN s.Conf.N rows) {n0:Int} (hg: ∀t,0≤t→t<(rows.length:Int)→x0.gotC rows t) (h0:(honV s)[0]? =some n0)
include h hb hp hf hg h0
theorem rounds_eq {a:Int}(ha:a≤1000000000):judge_run_rounds (Gjudge_run.mk s (honV s) rows a)=some ((stV s.Conf rows n0 a).map (rndV s rows (honV s) n0)):=by
 have hr:=hf.1
 have hN:4≤s.Conf.N∧s.Conf.N≤13:=⟨((plain_zero _).1 hp).1.1,((plain_zero _).1 hp).1.2.1⟩
 have hcl:clV s.Conf.N=s.Conf.N:=by unfold clV;rw[if_neg (by omega),if_neg (by omega)]
 have hin: ∀n∈honV s,0≤n∧n<s.Conf.N:=fun n hn=>by have:=(honV_in hn).1;exact⟨this.1,hcl▸this.2⟩
 have hl:=honV_len s
 have z0:idx? (honV s) 0=some n0:=idx_get h0
 have hS:=stV_len s.Conf hp rows n0 a
 unfold judge_run_rounds judge_run_first
 rw[z0,zbs,zbs,starts_eq h.conf hp hr n0 a ha,zbs]
 have hmem: ∀t∈stV s.Conf rows n0 a,0≤t∧t<(rows.length:Int):=fun t ht=>stV_in hp ht
 generalize stV s.Conf rows n0 a=l at hS hmem
 have L:judge_run_rounds_0 (Gjudge_run.mk s (honV s) rows a) l (l.length:Int) [] 0=some (l.map (rndV s rows (honV s) n0)):=by
  refine loopO_at (f:=fun p:List GRound×Int=>judge_run_rounds_0_step (Gjudge_run.mk s (honV s) rows a) l (l.length:Int) p.1 p.2) (inv:=fun k=>((l.take k).map (rndV s rows (honV s) n0),(k:Int))) l.length (by simp) (fun k hk=> ?_) ?_
  ·have ht:=hmem l[k] (List.getElem_mem hk)
   simp only[judge_run_rounds_0_step]
   rw[if_pos (by omega),idx_get (zge hk),zbs,round_eq h hb hp hf (by omega) hin h0 a ht.1 ht.2 (hg _ ht.1 ht.2),zbs,
    if_pos (by simp only[List.length_map,List.length_take,List.length_cons,List.length_nil,lenMax];omega),wrI (n:=(k:Int)+1) rfl (by omega),←List.take_append_getElem hk,List.map_append]
   rfl
  ·simp only[judge_run_rounds_0_step]
   rw[if_neg (by omega),List.take_length]
 rw[L];rfl
end
structure RIn (rows:Rows):Prop where
 n:rows.length≤4096
 g: ∀l∈rows,∀r∈l,r.Got.length≤1048576
noncomputable def roundsV (s:GScript)(rows:Rows):List GRound:=
 if holdsV s≠0 then []else if FitP s rows then(stV s.Conf rows ((honV s)[0]?.getD 0) (allV s)).map (rndV s rows (honV s) ((honV s)[0]?.getD 0))else []
section
variable {s:GScript} (h:SIn s) (hb:ImB s) {rows:Rows} (hr:RIn rows)
include h hb hr
end
theorem lastN_in (p:Nat→Prop): ∀k,-1≤lastN p k∧lastN p k<(k:Int)+0∨lastN p k= -1
 |0=>.inr rfl
 |k+1=>by
  simp only[lastN]
  split
  ·rcases lastN_in p k with h|h
   ·exact .inl (by omega)
   ·exact .inr h
  ·exact .inl (by omega)
theorem allC_in {c:GConf}(hp:plainV c=0):0≤allC c∧allC c≤3000:=by
 have hl:=lenV_in c ((plain_zero c).1 hp)
 have pp:=period_le hp
 unfold allC setC
 rw[wrI (n:=4*lenV c) rfl (by omega),wrI (n:=1+4*lenV c) rfl (by omega),wrI (n:=2*c.Period) rfl (by omega),wrI (n:=1+4*lenV c+2*c.Period) rfl (by omega),wrI (n:=4*c.Period) rfl (by omega),wrI rfl (by omega)]
 omega
theorem allV_le {s:GScript}(h:SIn s)(hp:plainV s.Conf=0):0≤allV s∧allV s≤1000000000:=by
 have hT:=h.t
 have hc:=allC_in hp
 have hl:=lastN_in (calmN s) s.Ticks.length
 unfold allV lastV
 rw[wrI rfl (by omega)]
 omega
theorem len_of_mem : ∀(n:Nat) (l:List Int),(∀k:Nat,k<n→(k:Int)∈l)→n≤l.length
 |0,_,_=>Nat.zero_le _
 |n+1,l,h=>by
  have hm:=h n (Nat.lt_succ_self n)
  have:=len_of_mem n (l.erase (n:Int)) fun k hk=>(List.mem_erase_of_ne (by omega)).2 (h k (by omega))
  rw[List.length_erase_of_mem hm]at this
  have:0<l.length:=List.length_pos_of_mem hm
  omega
theorem hon_some {s:GScript}(hp:plainV s.Conf=0)(hF: ¬s.Conf.F<(s.Faulty.length:Int)): ∃n0,(honV s)[0]? =some n0:=by
 obtain⟨n0,n1,f0,f1,f2⟩:=((plain_zero _).1 hp).1
 have hcl:clV s.Conf.N=s.Conf.N:=by unfold clV;rw[if_neg (by omega),if_neg (by omega)]
 cases e:honV s with
 |cons x r=>exact⟨x,rfl⟩
 |nil=>
  exfalso
  have:=len_of_mem s.Conf.N.toNat s.Faulty fun k hk=>by
   have hm:=mem_hon (s:=s) (j:=k) (by omega)
   rw[e]at hm
   exact Classical.byContradiction fun hn=>by cases hm.2 hn
  omega
section
variable {s:GScript} (h:SIn s) (hz:scriptV s=0) {rows:Rows} (hf:FitN s.Conf.N rows) (hin: ∀n∈honV s,0≤n∧n<s.Conf.N) {n0:Int} (h0:(honV s)[0]? =some n0)
include h hz hf hin h0
end
structure FewT (t:GTick):Prop where
 u:(t.Units.length:Int)≤100
 d:(t.Delays.length:Int)≤400
 s:(t.Sends.length:Int)≤100
 b:(t.Bursts.length:Int)≤100
 y:(t.Strays.length:Int)≤100
 w:(t.Writes.length:Int)≤100
 bb: ∀x∈t.Bursts,(x.Image.length:Int)≤16000
structure FewS (s:GScript):Prop where
 t:(s.Ticks.length:Int)≤400
 c:(s.Conf.Table.length:Int)≤100
 f:(s.Faulty.length:Int)≤100
 i:(s.Images.length:Int)≤100
 ii: ∀x∈s.Images,(x.length:Int)≤16000
 tt: ∀t∈s.Ticks,FewT t
theorem few_eq (s:GScript): ∃b,r33_Few s 400=some b∧(b=true→FewS s):=by
 classical
 unfold r33_Few
 by_cases h1:400<(s.Ticks.length:Int)
 ·exact⟨false,if_pos h1,fun h=>by cases h⟩
 rw[if_neg h1]
 by_cases h2:100<(s.Conf.Table.length:Int)
 ·exact⟨false,if_pos h2,fun h=>by cases h⟩
 rw[if_neg h2]
 by_cases h3:100<(s.Faulty.length:Int)
 ·exact⟨false,if_pos h3,fun h=>by cases h⟩
 rw[if_neg h3]
 by_cases h4:100<(s.Images.length:Int)
 ·exact⟨false,if_pos h4,fun h=>by cases h⟩
 rw[if_neg h4]
 have L0:=loopO_alls (f:=fun z=>r33_Few_0_step s z) s.Images (fun x=>(x.length:Int)≤16000) (fun k x hk hx=>by
  simp only[r33_Few_0_step]
  rw[if_pos (by omega),idx_get hx,zbs,wrI rfl (by omega)]
  by_cases a:16000<(x.length:Int)
  ·rw[if_pos a,if_neg (by omega)]
  ·rw[if_neg a,if_pos (by omega)]) (by simp only[r33_Few_0_step];rw[if_neg (by omega)])
 have L1:=fun(o:Int) (t:GTick) (ht:(t.Bursts.length:Int)≤100)=>
  loopO_alls (f:=fun z=>r33_Few_1_step s o t.Bursts (t.Bursts.length:Int) t z) t.Bursts (fun x=>(x.Image.length:Int)≤16000) (fun k x hk hx=>by
   simp only[r33_Few_1_step]
   rw[if_pos (by omega),idx_get hx,zbs,wrI rfl (by omega)]
   by_cases a:16000<(x.Image.length:Int)
   ·rw[if_pos a,if_neg (by omega)]
   ·rw[if_neg a,if_pos (by omega)]) (by simp only[r33_Few_1_step];rw[if_neg (by omega)])
 have L2:=loopO_alls (f:=fun z=>r33_Few_2_step s z) s.Ticks FewT (fun k t hk ht=>by
  simp only[r33_Few_2_step]
  rw[if_pos (by omega),idx_get ht,zbs]
  by_cases a1:100<(t.Units.length:Int)
  ·rw[if_pos a1,if_neg (fun p=>by have:=p.u;omega)]
  rw[if_neg a1]
  by_cases a2:400<(t.Delays.length:Int)
  ·rw[if_pos a2,if_neg (fun p=>by have:=p.d;omega)]
  rw[if_neg a2]
  by_cases a3:100<(t.Sends.length:Int)
  ·rw[if_pos a3,if_neg (fun p=>by have:=p.s;omega)]
  rw[if_neg a3]
  by_cases a4:100<(t.Bursts.length:Int)
  ·rw[if_pos a4,if_neg (fun p=>by have:=p.b;omega)]
  rw[if_neg a4]
  by_cases a5:100<(t.Strays.length:Int)
  ·rw[if_pos a5,if_neg (fun p=>by have:=p.y;omega)]
  rw[if_neg a5]
  by_cases a6:100<(t.Writes.length:Int)
  ·rw[if_pos a6,if_neg (fun p=>by have:=p.w;omega)]
  rw[if_neg a6]
  unfold r33_Few_1
  rw[L1 _ t (by omega),zbs,wrI rfl (by omega)]
  by_cases a7: ∀x∈t.Bursts,(x.Image.length:Int)≤16000
  ·rw[if_pos a7,if_pos ⟨by omega,by omega,by omega,by omega,by omega,by omega,a7⟩];rfl
  ·rw[if_neg a7,if_neg (fun p=>a7 p.bb)];rfl) (by simp only[r33_Few_2_step];rw[if_neg (by omega)])
 unfold r33_Few_0 r33_Few_2
 rw[L0,zbs]
 by_cases a: ∀x∈s.Images,(x.length:Int)≤16000
 ·rw[if_pos a,Sum.elim_inr,L2,zbs]
  by_cases b: ∀t∈s.Ticks,FewT t
  ·exact⟨true,by rw[if_pos b];rfl,fun _=>⟨by omega,by omega,by omega,by omega,a,b⟩⟩
  ·exact⟨false,by rw[if_neg b];rfl,fun h=>by cases h⟩
 ·exact⟨false,by rw[if_neg a];rfl,fun h=>by cases h⟩
theorem few_sin {s:GScript}(h:FewS s)(hc:CIn s.Conf):SIn s:=by
 have h1:=h.f
 have h2:=h.i
 have h3:=h.t
 exact⟨hc,by omega,by omega,by omega,fun t ht=>by
  have a:=h.tt t ht
  have a1:=a.u
  have a2:=a.d
  have a3:=a.s
  have a4:=a.b
  have a5:=a.y
  have a6:=a.w
  exact⟨by omega,by omega,by omega,by omega,by omega,by omega⟩⟩
theorem few_imb {s:GScript}(h:FewS s):ImB s:=⟨fun t ht b hb=>by have:=(h.tt t ht).bb b hb;omega,fun im hi=>by have:=h.ii im hi;omega⟩
theorem rfew_eq (rows:Rows): ∃b,r36_Few rows 400=some b∧(b=true→RIn rows):=by
 classical
 unfold r36_Few
 by_cases h1:400<(rows.length:Int)
 ·exact⟨false,if_pos h1,fun h=>by cases h⟩
 rw[if_neg h1]
 have L0:=fun(i:Int) (l:List GReport) (hl:idx? rows i=some l) (h2:(l.length:Int)≤20)=>loopO_alls (f:=fun z=>r36_Few_0_step rows i z) l (fun r=>(r.Got.length:Int)≤40) (fun k x hk hx=>by
  simp only[r36_Few_0_step,hl,zbs]
  rw[if_pos (by omega),idx_get hx,zbs,wrI rfl (by omega)]
  by_cases a:40<(x.Got.length:Int)
  ·rw[if_pos a,if_neg (by omega)]
  ·rw[if_neg a,if_pos (by omega)]) (by simp only[r36_Few_0_step,hl,zbs];rw[if_neg (by omega)])
 have L1:=loopO_alls (f:=fun z=>r36_Few_1_step rows z) rows (fun l=>(l.length:Int)≤20∧∀r∈l,(r.Got.length:Int)≤40) (fun k l hk hl=>by
  simp only[r36_Few_1_step]
  rw[if_pos (by omega),idx_get hl,zbs]
  by_cases a1:20<(l.length:Int)
  ·rw[if_pos a1,if_neg (fun p=>by have:=p.1;omega)]
  rw[if_neg a1]
  unfold r36_Few_0
  rw[L0 _ l (idx_get hl) (by omega),zbs,wrI rfl (by omega)]
  by_cases a2: ∀r∈l,(r.Got.length:Int)≤40
  ·rw[if_pos a2,if_pos ⟨by omega,a2⟩];rfl
  ·rw[if_neg a2,if_neg (fun p=>a2 p.2)];rfl) (by simp only[r36_Few_1_step];rw[if_neg (by omega)])
 unfold r36_Few_1
 rw[L1]
 by_cases a: ∀l∈rows,(l.length:Int)≤20∧∀r∈l,(r.Got.length:Int)≤40
 ·exact⟨true,by rw[if_pos a];rfl,fun _=>⟨by omega,fun l hl r hr=>by have:=(a l hl).2 r hr;omega⟩⟩
 ·exact⟨false,by rw[if_neg a];rfl,fun h=>by cases h⟩
theorem in_cin {s:GScript}(h:GScript.In s):CIn s.Conf:=by
 obtain⟨h1,h2,h3,h4,h5,h6,h7,h8,h9,h10,⟨h11,h12⟩,-⟩:=h
 unfold SL at h11
 exact⟨h1,h2,h3,h4,h5,h6,by omega,h12⟩
theorem jfew_eq (s:GScript)(rows:Rows)(hs:GScript.In s): ∃b,l39_few s rows=some b∧(b=true→SIn s∧ImB s∧RIn rows):=by
 unfold l39_few
 obtain⟨b,e,hf⟩:=few_eq s
 rw[e,zbs]
 cases b with
 |false=>exact⟨false,rfl,fun h=>by cases h⟩
 |true=>
  have hf:=hf rfl
  obtain⟨b2,e2,hf2⟩:=rfew_eq rows
  exact⟨b2,by rw[if_pos rfl,e2];rfl,fun h=>⟨few_sin hf (in_cin hs),few_imb hf,hf2 h⟩⟩
structure RndS (r:GRound):Prop where
 l:r.Lines.length≤1000
 g:r.Got.length≤1000
 d: ∀l∈r.Got,l.length≤4294967296
theorem gotL_len {rows:Rows}(hr:RIn rows)(n a b:Int):(x0.gotL rows n a b).length≤4294967296:=by
 have hn:=hr.n
 have:=grow_len (fun k:Nat=>(x0.atR rows (max a 0+(k:Int)) n).Got) 1048576 (fun k=>by rw[atR_eq];exact x0.at_mem hr.g (xat_eq rows _ n)) (x0.gN rows.length a b)
 unfold x0.gotL
 have h2:x0.gN rows.length a b≤4096:=by unfold x0.gN;omega
 have h3:=Nat.mul_le_mul_right 1048576 h2
 omega
theorem rounds_in {s:GScript}{rows:Rows}(hr:RIn rows):(roundsV s rows).length≤4096∧∀r∈roundsV s rows,RndS r:=by
 unfold roundsV
 by_cases h0:holdsV s≠0
 ·rw[if_pos h0];exact⟨by simp,fun r h=>by cases h⟩
 rw[if_neg h0]
 by_cases hq:FitP s rows
 ·rw[if_pos hq]
  have hp:=plain_of (holds_zero (Classical.not_not.1 h0))
  have hN:4≤s.Conf.N∧s.Conf.N≤13:=⟨((plain_zero _).1 hp).1.1,((plain_zero _).1 hp).1.2.1⟩
  refine⟨?_,fun r h=> ?_⟩
  ·have:=stV_len s.Conf hp rows ((honV s)[0]?.getD 0) (allV s)
   have:=hr.n
   rw[List.length_map]
   omega
  ·obtain⟨t,-,rfl⟩:=List.mem_map.1 h
   unfold rndV
   refine⟨by simp only[List.length_map,List.length_range];omega,by simp only[List.length_map,List.length_range];omega,fun l hl=> ?_⟩
   obtain⟨j,-,rfl⟩:=List.mem_map.1 hl
   unfold gotA
   split
   ·exact gotL_len hr _ _ _
   ·simp
 ·rw[if_neg hq];exact⟨by simp,fun r h=>by cases h⟩
theorem hon_of {s:GScript}(h0:holdsV s=0): ∃n0,(honV s)[0]? =some n0:=by
 refine hon_some (plain_of (holds_zero h0)) fun hh=> ?_
 unfold holdsV at h0
 rw[if_neg (by
  by_cases h1:scriptV s≠0
  ·rw[if_pos h1]at h0;exact absurd h0 h1
  ·exact h1),if_pos hh]at h0
 cases h0
def lastP (q:Int→Bool)(a:Int):Nat→Int
 |0=> -1
 |k+1=>if q (a+(k:Int))=true then a+(k:Int)else lastP q a k
def runP (q:Int→Bool)(a:Int):Nat→Int
 |0=>0
 |k+1=>if q (a+(k:Int))=true then 0 else runP q a k+1
def leastP (q:Int→Bool)(a b:Int):Nat→Int
 |0=>b
 |k+1=>if q (a+(k:Int))=true then(if lastP q a k≠ -1 then min (leastP q a b k) (a+(k:Int)-lastP q a k)else leastP q a b k)else leastP q a b k
def quietP (q:Int→Bool)(a:Int):Nat→Int
 |0=>0
 |k+1=>if q (a+(k:Int))=true then quietP q a k else max (quietP q a k) (runP q a k+1)
theorem lastP_in (q:Int→Bool){a:Int}(ha:0≤a): ∀k,lastP q a k= -1∨0≤lastP q a k∧lastP q a k<a+(k:Int)
 |0=>.inl rfl
 |k+1=>by
  have:=lastP_in q ha k
  simp only[lastP]
  split<;>omega
theorem runP_in (q:Int→Bool)(a:Int): ∀k,0≤runP q a k∧runP q a k≤(k:Int)
 |0=>by simp[runP]
 |k+1=>by
  have:=runP_in q a k
  simp only[runP]
  split<;>omega
def twiceP (q:Int→Bool)(a P:Int)(k:Nat):Prop:=q (a+(k:Int))=true∧0≤lastP q a k∧a+(k:Int)-lastP q a k<P
theorem least_lt (q:Int→Bool){a b P:Int}(ha:0≤a)(hb:P≤b): ∀m,leastP q a b m<P↔∃k,k<m∧twiceP q a P k
 |0=>⟨fun h=>by simp only[leastP]at h;omega,fun⟨k,h,_⟩=>by omega⟩
 |m+1=>by
  have ih:=least_lt q ha hb m
  have hl:=lastP_in q ha m
  have up:(∃k,k<m+1∧twiceP q a P k)↔(∃k,k<m∧twiceP q a P k)∨twiceP q a P m:=by
   constructor
   ·rintro⟨k,h1,h2⟩
    by_cases e:k=m
    ·exact .inr (e▸h2)
    ·exact .inl ⟨k,by omega,h2⟩
   ·rintro(⟨k,h1,h2⟩|h)
    ·exact⟨k,by omega,h2⟩
    ·exact⟨m,by omega,h⟩
  rw[up,←ih]
  simp only[leastP,twiceP]
  by_cases hq:q (a+(m:Int))=true
  ·rw[if_pos hq]
   by_cases h1:lastP q a m≠ -1
   ·rw[if_pos h1]
    constructor
    ·intro h
     by_cases h2:leastP q a b m<P
     ·exact .inl h2
     ·exact .inr ⟨hq,by omega,by omega⟩
    ·rintro(h|⟨_,_,h⟩)<;>omega
   ·rw[if_neg h1]
    exact⟨.inl,fun h=>h.elim id fun h=>absurd h.2.1 (by omega)⟩
  ·rw[if_neg hq]
   exact⟨.inl,fun h=>h.elim id fun h=>absurd h.1 hq⟩
def lateP (q:Int→Bool)(a:Int)(P k:Nat):Prop:= ∀j:Nat,k≤j→j<k+P→q (a+(j:Int))=false
theorem run_ge (q:Int→Bool)(a:Int): ∀(k d:Nat),(d:Int)≤runP q a k↔d≤k∧∀j:Nat,k-d≤j→j<k→q (a+(j:Int))=false
 |0,d=>by simp only[runP];exact⟨fun h=>⟨by omega,fun j _ h=>by omega⟩,fun h=>by have:=h.1;omega⟩
 |k+1,d=>by
  have hr:=runP_in q a k
  simp only[runP]
  by_cases hq:q (a+(k:Int))=true
  ·rw[if_pos hq]
   refine⟨fun h=>⟨by omega,fun j h1 h2=>by omega⟩,fun⟨h1,h2⟩=> ?_⟩
   by_cases hd:d=0
   ·omega
   ·have:=h2 k (by omega) (by omega)
    rw[hq]at this;cases this
  ·rw[if_neg hq]
   cases d with
   |zero=>exact⟨fun _=>⟨by omega,fun j h1 h2=>by omega⟩,fun _=>by omega⟩
   |succ e=>
    have ih:=run_ge q a k e
    constructor
    ·intro h
     obtain⟨h1,h2⟩:=ih.1 (by omega)
     refine⟨by omega,fun j h3 h4=> ?_⟩
     by_cases ej:j=k
     ·subst ej;simpa using hq
     ·exact h2 j (by omega) (by omega)
    ·rintro⟨h1,h2⟩
     have:=ih.2 ⟨by omega,fun j h3 h4=>h2 j (by omega) (by omega)⟩
     omega
theorem quiet_ge (q:Int→Bool)(a:Int){P:Int}(hP:1≤P): ∀m,P≤quietP q a m↔∃k,k≤m∧P≤runP q a k
 |0=>⟨fun h=>by simp only[quietP]at h;omega,fun⟨k,h1,h2⟩=>by have:=runP_in q a k;omega⟩
 |m+1=>by
  have ih:=quiet_ge q a hP m
  have up:(∃k,k≤m+1∧P≤runP q a k)↔(∃k,k≤m∧P≤runP q a k)∨P≤runP q a (m+1):=by
   constructor
   ·rintro⟨k,h1,h2⟩
    by_cases e:k=m+1
    ·exact .inr (e▸h2)
    ·exact .inl ⟨k,by omega,h2⟩
   ·rintro(⟨k,h1,h2⟩|h)
    ·exact⟨k,by omega,h2⟩
    ·exact⟨m+1,by omega,h⟩
  rw[up,←ih]
  simp only[quietP,runP]
  by_cases hq:q (a+(m:Int))=true
  ·rw[if_pos hq,if_pos hq]
   exact⟨.inl,fun h=>h.elim id fun h=>by omega⟩
  ·rw[if_neg hq,if_neg hq]
   omega
theorem quiet_late (q:Int→Bool)(a:Int){P:Nat}(hP:1≤P)(m:Nat):(P:Int)≤quietP q a m↔∃k,k<m+1-P∧lateP q a P k:=by
 rw[quiet_ge q a (by omega)]
 constructor
 ·rintro⟨k,h1,h2⟩
  obtain⟨h3,h4⟩:=(run_ge q a k P).1 h2
  exact⟨k-P,by omega,fun j h5 h6=>h4 j h5 (by omega)⟩
 ·rintro⟨k,h1,h2⟩
  exact⟨k+P,by omega,(run_ge q a (k+P) P).2 ⟨by omega,fun j h5 h6=>h2 j (by omega) h6⟩⟩
def puV (rows:Rows)(n:Int)(t:Int):Bool:=(atV rows t n).Pulse
open Classical in
noncomputable def regV (c:GConf)(rows:Rows)(l:List Int)(n0 f:Int):Int:=
 if¬comA rows l n0 f then 7 else if∃k,k<((rows.length:Int)-f).toNat∧twiceP (puV rows n0) f c.Period k then 13 else if∃k,k<((rows.length:Int)-f).toNat+1-c.Period.toNat∧lateP (puV rows n0) f c.Period.toNat k then 10 else 0
section
variable {c:GConf} (hc:CIn c) (hp:plainV c=0) {rows:Rows} (hr:rows.length≤100000000) {l:List Int} (hl:l.length≤1000) {n0:Int} (h0:l[0]? =some n0)
include hc hp hr hl h0
theorem regular_eq {f:Int}(hf:f≤1000000000):window_Regular c rows l f=some (regV c rows l n0 (max f 0)):=by
 classical
 have pp:=period_le hp
 have z0:idx? l 0=some n0:=idx_get h0
 have hl0:0<l.length:=(List.getElem?_eq_some_iff.1 h0).1
 unfold window_Regular regV
 rw[conf_plain c hc,zbs,if_neg (by simp[hp]),if_neg (by omega),wcommon_eq hr hl h0 (by omega),zbs]
 by_cases hcm:comA rows l n0 (max f 0)
 ·rw[decide_eq_true hcm,if_neg (by simp),z0,zbs,if_neg (by simp[hcm])]
  obtain⟨a,ha⟩: ∃a,max f 0=a:=⟨_,rfl⟩
  rw[ha]
  obtain⟨m,hm⟩: ∃m,((rows.length:Int)-a).toNat=m:=⟨_,rfl⟩
  have L:loopO (fun s:Int×Int×Int×Int×Int=>window_gaps_0_step rows n0 s.1 s.2.1 s.2.2.1 s.2.2.2.1 s.2.2.2.2) ((rows.length:Int)+400,0,-1,0,a)=some (leastP (puV rows n0) a ((rows.length:Int)+400) m,quietP (puV rows n0) a m):=by
   refine loopO_at (inv:=fun k=>(leastP (puV rows n0) a ((rows.length:Int)+400) k,quietP (puV rows n0) a k,lastP (puV rows n0) a k,runP (puV rows n0) a k,a+(k:Int))) m (by simp[leastP,quietP,lastP,runP]) (fun k hk=> ?_) ?_
   ·have hla:=lastP_in (puV rows n0) (a:=a) (by omega) k
    have hru:=runP_in (puV rows n0) a k
    simp only[window_gaps_0_step]
    rw[if_pos (by omega),at_eq,zbs,wrI (n:=a+(k:Int)+1) rfl (by omega),wrI (n:=runP (puV rows n0) a k+1) rfl (by omega),wrI (n:=a+(k:Int)-lastP (puV rows n0) a k) rfl (by omega)]
    rw[show(atV rows (a+(k:Int)) n0).Pulse=puV rows n0 (a+(k:Int))from rfl,show a+((k+1:Nat):Int)=a+(k:Int)+1 by omega]
    simp only[leastP,quietP,lastP,runP]
    by_cases hq:puV rows n0 (a+(k:Int))=true
    ·rw[if_neg (by simp[hq])]
     simp only[if_pos hq]
     by_cases h1:lastP (puV rows n0) a k≠ -1
     ·simp only[if_pos h1]
     ·simp only[if_neg h1]
    ·rw[if_pos (by simpa using hq)]
     simp only[if_neg hq]
   ·simp only[window_gaps_0_step]
    rw[if_neg (by omega)]
  unfold window_gaps window_gaps_0
  rw[wrI (n:=(rows.length:Int)+400) rfl (by omega),L,zbs,zbs]
  have e1:=least_lt (puV rows n0) (a:=a) (b:=(rows.length:Int)+400) (P:=c.Period) (by omega) (by omega) m
  have e2:=quiet_late (puV rows n0) a (P:=c.Period.toNat) (by omega) m
  rw[show((c.Period.toNat:Nat):Int)=c.Period by omega]at e2
  simp only[e1,e2,hm]
  split
  ·rfl
  ·split<;>rfl
 ·rw[decide_eq_false hcm,if_pos (by simp),if_pos (by simpa using hcm)]
end
theorem wrap64 {n m:Int}(h:n=m)(h1: -9223372036854775808≤m∧m≤9223372036854775807):IntKind.wrap .i64 n=m:=by
 have:=wrI h h1
 unfold wr at this
 exact this
def farP (c:GConf)(g b:Int):Prop:=g*c.Drift<g*c.Rate-b∨g*c.Drift<b-g*c.Rate
instance (c :GConf)(g b:Int):Decidable (farP c g b):=by unfold farP;infer_instance
def brd (c:GConf)(k:Nat):Int:=c.Offset+(k:Int)*c.Slot
def clrP (c:GConf)(g:Int):Prop:=0≤g∧g≤2000∧∀k∈List.range (c.Table.length+1),farP c g (brd c k)
instance (c :GConf)(g:Int):Decidable (clrP c g):=by unfold clrP;infer_instance
def nomV (c:GConf)(g:Int):Int:=if g<0 then-1 else if 2000<g then-1 else if g*c.Rate<c.Offset then-1 else if(c.Table.length:Int)≤(g*c.Rate-c.Offset)/c.Slot then-1 else(g*c.Rate-c.Offset)/c.Slot
section
variable {c:GConf} (hc:CIn c) (hp:plainV c=0)
include hc hp
theorem nums_in :(1≤c.Rate∧c.Rate≤64)∧(0≤c.Drift∧c.Drift≤c.Rate-1)∧(0≤c.Offset∧c.Offset≤30000)∧(1≤c.Slot∧c.Slot≤30000)∧1≤c.Table.length∧c.Table.length≤32:=by
 have _:=hc
 obtain⟨-,-,⟨-,-,a1,a2,a3,a4,a5,a6,a7,a8,-⟩,b1,b2,-⟩:=(plain_zero c).1 hp
 exact⟨⟨a1,a2⟩,⟨a3,a4⟩,⟨a5,a6⟩,⟨a7,a8⟩,b1,b2⟩
theorem brd_in {k:Nat}(hk:k≤32):0≤(k:Int)*c.Slot∧(k:Int)*c.Slot≤960000∧0≤brd c k∧brd c k≤990000:=by
 obtain⟨-,-,a,b,-⟩:=nums_in hc hp
 have h:=mulB (a:=(k:Int)) (A:=32) (B:=30000) (by omega) (by omega) (show 0≤c.Slot by omega) b.2
 unfold brd
 omega
theorem bbegin_eq {k:Nat}(hk:k<c.Table.length):bound_Begin c (k:Int)=some (brd c k):=by
 have n:=nums_in hc hp
 have b:=brd_in hc hp (k:=k) (by omega)
 unfold bound_Begin bound_of bound_plain_has bound_plain_begin
 rw[conf_plain c hc,zbs,zbs]
 simp only[hp,decide_true,Bool.not_true,Bool.false_eq_true,if_false]
 rw[if_pos (by omega),zbs,if_neg (by simp;omega),zbs,wrI (n:=(k:Int)*c.Slot) rfl (by omega),wrI rfl (by unfold brd at b;omega)]
 rfl
theorem prods {g:Int}(g0:0≤g)(g1:g≤2000):(0≤g*c.Rate∧g*c.Rate≤128000)∧0≤g*c.Drift∧g*c.Drift≤128000:=by
 obtain⟨a,b,-⟩:=nums_in hc hp
 exact⟨mulB (A:=2000) (B:=64) g0 g1 (by omega) a.2,mulB (A:=2000) (B:=64) g0 g1 b.1 (by omega)⟩
theorem clear_eq (g:Int):slot_Clear c g=some (decide (clrP c g)):=by
 have n:=nums_in hc hp
 unfold slot_Clear slot_ticked
 by_cases g0:0≤g
 ·rw[if_pos g0,zbs]
  by_cases g1:g≤2000
  ·obtain⟨p1,p2⟩:=prods hc hp g0 g1
   rw[decide_eq_true g1,if_neg (by simp),conf_plain c hc,zbs,if_neg (by simp[hp])]
   have hb:slot_borders c=some ((List.range (c.Table.length+1)).map (brd c)):=by
    have L:=loopO_at (f:=fun s:List Int×Int=>slot_borders_0_step c (c.Table.length:Int) s.1 s.2) (s:=([],0)) (r:=(List.range c.Table.length).map (brd c)) (fun k=>((List.range k).map (brd c),(k:Int))) c.Table.length (by simp) (fun k hk=>by
     simp only[slot_borders_0_step]
     rw[if_pos (by omega),bbegin_eq hc hp hk,zbs,if_pos (by simp only[List.length_map,List.length_range,List.length_cons,List.length_nil,lenMax];omega),wrI (n:=(k:Int)+1) rfl (by omega),List.range_succ,List.map_append]
     rfl) (by simp only[slot_borders_0_step];rw[if_neg (by omega)])
    have b9:=brd_in hc hp (k:=c.Table.length) (by omega)
    unfold slot_borders slot_borders_0
    rw[L,zbs,wrI (n:=(c.Table.length:Int)*c.Slot) rfl (by omega),wrI (n:=c.Offset+(c.Table.length:Int)*c.Slot) rfl (by unfold brd at b9;omega),if_pos (by simp only[List.length_map,List.length_range,List.length_cons,List.length_nil,lenMax];omega),List.range_succ,List.map_append]
    rfl
   rw[hb,zbs,wrI (n:=c.Rate-c.Drift) rfl (by omega),wrI (n:=c.Rate+c.Drift) rfl (by omega),wrI (n:=g*(c.Rate-c.Drift)) rfl (by rw[Int.mul_sub];omega),wrI (n:=g*(c.Rate+c.Drift)) rfl (by rw[Int.mul_add];omega)]
   have E:=every_eq (fun s=>slot_all_0_step (Gslot_span.mk (g*(c.Rate-c.Drift)) (g*(c.Rate+c.Drift))) ((List.range (c.Table.length+1)).map (brd c)) ((((List.range (c.Table.length+1)).map (brd c)).length:Nat):Int) s) ((List.range (c.Table.length+1)).map (brd c)) (fun b=>farP c g b) (fun k x hk hx=>by
    simp only[List.length_map,List.length_range]at hk
    simp only[slot_all_0_step,slot_span_clears]
    rw[if_pos (by simp only[List.length_map,List.length_range];omega),idx_get hx,zbs,wrI (n:=(k:Int)+1) rfl (by omega),Int.mul_sub,Int.mul_add]
    by_cases h1:x<g*c.Rate-g*c.Drift
    ·rw[if_pos h1,zbs,if_neg (by simp),if_pos (show farP c g x from Or.inl (by omega))]
    ·rw[if_neg h1,zbs]
     by_cases h2:g*c.Rate+g*c.Drift<x
     ·rw[if_neg (by simpa using h2),if_pos (show farP c g x from Or.inr (by omega))]
     ·rw[if_pos (by simpa using h2),if_neg (show¬farP c g x from by unfold farP;omega)]) (by simp only[slot_all_0_step];rw[if_neg (by omega)])
   unfold slot_all slot_all_0
   rw[E,zbs]
   congr 1
   refine Bool.eq_iff_iff.2 ?_
   simp only[decide_eq_true_eq,List.forall_mem_map]
   exact⟨fun h=>⟨g0,g1,h⟩,fun h=>h.2.2⟩
  ·rw[decide_eq_false g1,if_pos (by simp),decide_eq_false fun h=>g1 h.2.1]
 ·rw[if_neg g0,zbs,if_pos (by simp),decide_eq_false fun h=>g0 h.1]
theorem nominal_eq (g:Int):slot_Nominal c g=some (nomV c g):=by
 have n:=nums_in hc hp
 unfold slot_Nominal slot_ticked nomV
 by_cases g0:g<0
 ·rw[if_neg (by omega),zbs,if_pos (by simp),if_pos g0]
 rw[if_pos (by omega),zbs,if_neg g0]
 by_cases g1:2000<g
 ·rw[decide_eq_false (by omega),if_pos (by simp),if_pos g1]
 obtain⟨p1,p2⟩:=prods hc hp (show 0≤g by omega) (by omega)
 rw[decide_eq_true (by omega),if_neg (by simp),if_neg g1,conf_plain c hc,zbs,if_neg (by simp[hp])]
 unfold sched_Slot
 rw[conf_plain c hc,zbs,if_neg (by simp[hp]),wrI (n:=g*c.Rate) rfl (by omega)]
 by_cases h1:g*c.Rate<c.Offset
 ·rw[if_pos h1,if_pos h1];rfl
 rw[if_neg h1,if_neg h1,if_neg (by omega),wrI (n:=g*c.Rate-c.Offset) rfl (by omega),Int.tdiv_eq_ediv_of_nonneg (by omega)]
 have d0:0≤(g*c.Rate-c.Offset)/c.Slot:=Int.ediv_nonneg (by omega) (by omega)
 have d1:(g*c.Rate-c.Offset)/c.Slot≤g*c.Rate-c.Offset:=Int.ediv_le_self _ (by omega)
 rw[wrI (n:=(g*c.Rate-c.Offset)/c.Slot) rfl (by omega)]
 split<;>rfl
end
theorem sinN_spec (rows:Rows)(n t:Int): ∀k:Nat,(sinN rows n t k= -1∧∀i:Nat,i<k→(atV rows (i:Int) n).Pulse=false)∨∃j:Nat,j<k∧sinN rows n t k=t-(j:Int)∧(atV rows (j:Int) n).Pulse=true∧∀i:Nat,j<i→i<k→(atV rows (i:Int) n).Pulse=false
 |0=>.inl ⟨rfl,fun i h=>by omega⟩
 |k+1=>by
  simp only[sinN]
  by_cases hp:(atV rows (k:Int) n).Pulse=true
  ·rw[if_pos hp]
   exact .inr ⟨k,by omega,rfl,hp,fun i h1 h2=>by omega⟩
  ·rw[if_neg hp]
   have hp:(atV rows (k:Int) n).Pulse=false:=by simpa using hp
   rcases sinN_spec rows n t k with⟨h1,h2⟩|⟨j,h1,h2,h3,h4⟩
   ·exact .inl ⟨h1,fun i hi=>if e:i=k then e▸hp else h2 i (by omega)⟩
   ·exact .inr ⟨j,by omega,h2,h3,fun i h5 h6=>if e:i=k then e▸hp else h4 i h5 (by omega)⟩
theorem sinV_spec (rows:Rows)(n:Int){t:Int}(t0:0≤t)(t1:t<(rows.length:Int)):(sinV rows n t= -1∧∀i,0≤i→i≤t→(atV rows i n).Pulse=false)∨(0≤sinV rows n t∧sinV rows n t≤t∧(atV rows (t-sinV rows n t) n).Pulse=true∧∀i,t-sinV rows n t<i→i≤t→(atV rows i n).Pulse=false):=by
 unfold sinV
 rw[if_neg (by omega)]
 have up: ∀(j:Nat) (i:Int),(j:Int)<i→i≤t→(∀i:Nat,j<i→i<(t+1).toNat→(atV rows (i:Int) n).Pulse=false)→(atV rows i n).Pulse=false:=fun j i h1 h2 h=>by
  have:=h i.toNat (by omega) (by omega)
  rwa [show((i.toNat:Nat):Int)=i by omega]at this
 rcases sinN_spec rows n t (t+1).toNat with⟨h1,h2⟩|⟨j,h1,h2,h3,h4⟩
 ·refine .inl ⟨h1,fun i i0 i1=> ?_⟩
  have:=h2 i.toNat (by omega)
  rwa [show((i.toNat:Nat):Int)=i by omega]at this
 ·rw[h2]
  refine .inr ⟨by omega,by omega,by rw[show t-(t-(j:Int))=(j:Int) by omega];exact h3,fun i i0 i1=>up j i (by omega) i1 h4⟩
def sloE (rows:Rows)(l:List Int)(n0:Int)(c:GConf)(a t:Int):Int:=
 if sinV rows n0 t<0 then 0 else if t-sinV rows n0 t<a then 0 else if∃n∈l,clrP c (sinV rows n0 t)∧(atV rows t n).Slot≠nomV c (sinV rows n0 t)then 11 else 0
section
variable {rows:Rows} {l:List Int} {n0:Int} {s:GScript} (hf:FitN s.Conf.N rows) (hl:l.length≤1000) (hin: ∀n∈l,0≤n∧n<s.Conf.N) (h0:l[0]? =some n0) (hc:CIn s.Conf) (hp:plainV s.Conf=0)
include hf hl hin h0 hc hp
theorem slots_eq {a:Int}(ha:0≤a):judge_run_slots (Gjudge_run.mk s l rows a)=some (firstT (sloE rows l n0 s.Conf a) a ((rows.length:Int)-a).toNat):=by
 have hr:=hf.1
 have z0:idx? l 0=some n0:=idx_get h0
 refine first_end (loopO_first (f:=fun p=>judge_run_slots_0_step (Gjudge_run.mk s l rows a) p) (rows.length:Int) (sloE rows l n0 s.Conf a) (fun t ht=>by simp only[judge_run_slots_0_step];rw[if_neg (by omega)]) _ a rfl fun t h1 h2=> ?_)
 have hs:=sinV_spec rows n0 (t:=t) (by omega) h2
 simp only[judge_run_slots_0_step,judge_run_first]
 rw[if_pos h2,z0,zbs,zbs,since_eq hr n0 (by omega),zbs,wrI (n:=t+1) rfl (by omega),wrI (n:=t-sinV rows n0 t) rfl (by omega)]
 unfold sloE
 by_cases q1:sinV rows n0 t<0
 ·rw[if_pos q1,if_pos q1];rfl
 rw[if_neg q1,if_neg q1]
 by_cases q2:t-sinV rows n0 t<a
 ·rw[if_pos q2,if_pos q2];rfl
 rw[if_neg q2,if_neg q2,clear_eq hc hp,zbs]
 by_cases q3:clrP s.Conf (sinV rows n0 t)
 ·rw[decide_eq_true q3,if_neg (by simp),nominal_eq hc hp,zbs]
  have e2:judge_run_any_v2 (Gjudge_run.mk s l rows a) t (nomV s.Conf (sinV rows n0 t))=some (decide (∃n∈l,(atV rows t n).Slot≠nomV s.Conf (sinV rows n0 t)),nomV s.Conf (sinV rows n0 t)):=by
   refine any_fix (fun p=>judge_run_any_v2_0_step t (Gjudge_run.mk s l rows a) l (l.length:Int) p.1 p.2) _ l (fun n=>(atV rows t n).Slot≠nomV s.Conf (sinV rows n0 t)) (fun k x hk hx=> ?_) ?_
   ·have ix:=hin x (List.mem_of_getElem? hx)
    obtain⟨y,hy,hy2⟩:=fit_at hf (show 0≤t by omega) h2 ix.1 ix.2
    simp only[judge_run_any_v2_0_step,judge_run_slots_1]
    rw[if_pos (by omega),idx_get hx,zbs,hy,zbs,hy2,zbs,zbs,wrI rfl (by omega)]
    by_cases h:(atV rows t x).Slot≠nomV s.Conf (sinV rows n0 t)<;>simp[h]
   ·simp only[judge_run_any_v2_0_step];rw[if_neg (by omega)]
  rw[e2,zbs]
  by_cases q4: ∃n∈l,(atV rows t n).Slot≠nomV s.Conf (sinV rows n0 t)
  ·have hv: ∃n∈l,clrP s.Conf (sinV rows n0 t)∧(atV rows t n).Slot≠nomV s.Conf (sinV rows n0 t):=by obtain⟨n,hn,h⟩:=q4;exact⟨n,hn,q3,h⟩
   rw[if_pos (decide_eq_true q4)]
   simp only[if_pos hv];rfl
  ·have hv: ¬∃n∈l,clrP s.Conf (sinV rows n0 t)∧(atV rows t n).Slot≠nomV s.Conf (sinV rows n0 t):=fun⟨n,hn,_,h⟩=>q4 ⟨n,hn,h⟩
   rw[if_neg (by simpa using q4)]
   simp only[if_neg hv];rfl
 ·have hv: ¬∃n∈l,clrP s.Conf (sinV rows n0 t)∧(atV rows t n).Slot≠nomV s.Conf (sinV rows n0 t):=fun⟨_,_,h,_⟩=>q3 h
  rw[decide_eq_false q3,if_pos (by simp)]
  simp only[if_neg hv];rfl
end
section
variable {s:GScript} (h:SIn s) (hz:scriptV s=0) {rows:Rows} (hf:FitN s.Conf.N rows) (hin: ∀n∈honV s,0≤n∧n<s.Conf.N) {n0:Int} (h0:(honV s)[0]? =some n0)
include h hz hf hin h0
end
theorem lies_eq {s:GScript}(h:SIn s)(n:Int):round_machine_lies (Ground_machine.mk s.Conf s.Faulty) n=some (decide (n∈s.Faulty)):=by
 have:=h.f
 unfold round_machine_lies
 rw[contains_eq _ _ (by show s.Faulty.length≤_;omega)];rfl
section
variable {s:GScript} (h:SIn s) (hp:plainV s.Conf=0)
include h hp
omit h in
theorem N_in :(4≤s.Conf.N∧s.Conf.N≤13)∧clV s.Conf.N=s.Conf.N:=by
 have hN:4≤s.Conf.N∧s.Conf.N≤13:=⟨((plain_zero _).1 hp).1.1,((plain_zero _).1 hp).1.2.1⟩
 exact⟨hN,by unfold clV;rw[if_neg (by omega),if_neg (by omega)]⟩
theorem mhonest_eq :round_machine_honest (Ground_machine.mk s.Conf s.Faulty)=some (honV s):=by
 obtain⟨hN,hcl⟩:=N_in hp
 have L:=loopO_grow (f:=fun p:List Int×Int=>round_machine_honest_0_step (Ground_machine.mk s.Conf s.Faulty) s.Conf.N p.1 p.2) s.Conf.N.toNat (honG s) (fun k hk=>by
  simp only[round_machine_honest_0_step]
  have:=hon_len s k
  rw[if_pos (by omega),lies_eq h,zbs,wrI rfl (by omega),notb,show honG s k=if(k:Int)∈s.Faulty then []else [(k:Int)]from rfl]
  by_cases hm:(k:Int)∈s.Faulty
  ·rw[if_pos hm,if_pos hm,List.append_nil]
  ·rw[if_neg hm,if_neg hm,if_pos (by simp only[List.length_cons,List.length_nil,lenMax];omega)]) (by
  simp only[round_machine_honest_0_step]
  rw[if_neg (by omega)])
 unfold round_machine_honest round_machine_honest_0
 rw[L]
 unfold honV
 rw[hcl]
 rfl
def markL (s:List UInt8)(l:List Int)(k:Nat):UInt8:=if s[k]? =some 49 then 49 else if(k:Int)∈l then 49 else 48
omit h hp in
theorem markl_eq (m:List UInt8)(n:Int)(l:List Int)(hl:l.length≤1000)(hn:0≤n)(hn':n≤64):gate_Mark m n l=some ((List.range n.toNat).map (markL m l)):=by
 unfold gate_Mark
 rw[clamp_eq,clamp_id n 0 64 hn hn',zbs,if_pos ⟨hn,by show n≤4294967296;omega⟩]
 have e:=loopO_turn (f:=fun p:Int×List Int=>gate_Mark_0_step m l n.toNat (n.toNat:Nat) p.1 p.2) (List.replicate n.toNat 0) (fun k=>((markL m l k).toNat:Int)) (fun k pre post x hk hpre hx=> ?_) (fun l'=> ?_)
 rotate_left
 ·rw[List.length_replicate]at hk
  have tail: ∀v:UInt8,(if(k:Int)∈l then(49:UInt8)else 48)=v→((slices_Contains_int_int l (k:Int)).bind fun r3=>if r3=true then(if 0≤(k:Int)∧(k:Int)<((n.toNat:Nat):Int)then(mod? (pre++48::post) k (fun _=>(49:Int))).bind fun l4=>some (Sum.inl (β:=List Int) ((k:Int)+1,l4))else none)else some (.inl ((k:Int)+1,pre++48::post)))=some (.inl ((k:Int)+1,pre++((v.toNat:Nat):Int)::post)):=fun v hv=>by
   rw[contains_eq _ _ (by omega),zbs,mod_mid _ _ _ _ _ hpre]
   subst hv
   by_cases hm:(k:Int)∈l
   ·rw[if_pos (decide_eq_true hm),if_pos (by omega),if_pos hm];rfl
   ·rw[if_neg (by simpa using hm),if_neg hm];rfl
  simp only[gate_Mark_0_step]
  rw[if_pos (by omega),if_pos (by omega),Int.toNat_natCast,mod_mid _ _ _ _ _ hpre,zbs,wrM (n:=(k:Int)+1) (by omega) (by omega)]
  by_cases h1:(k:Int)<m.length
  ·have hk':k<m.length:=by omega
   have hg:=zge hk'
   rw[if_pos h1,idx_get hg,zbs]
   by_cases h2:(m[k].toNat:Int)=49
   ·rw[if_pos h2,if_pos (by omega),mod_mid _ _ _ _ _ hpre]
    have:m[k]=49:=UInt8.toNat_inj.1 (by simpa using Int.ofNat_inj.1 h2)
    simp only[markL,hg,this,if_true];rfl
   ·rw[if_neg h2]
    have: ¬m[k]=49:=fun e=>h2 (by rw[e];rfl)
    refine tail (markL m l k) (Eq.symm ?_)
    unfold markL
    rw[hg]
    exact if_neg (by simpa using this)
  ·rw[if_neg h1]
   refine tail (markL m l k) (Eq.symm ?_)
   unfold markL
   rw[List.getElem?_eq_none (by omega)]
   exact if_neg (by simp)
 ·rw[List.length_replicate]
  simp only[gate_Mark_0_step]
  rw[if_neg (by omega)]
 rw[List.length_replicate]at e
 unfold gate_Mark_0
 rw[e,zbs,sub_all _ _ (by simp),zbs]
 congr 1
 unfold bytesOf
 rw[List.map_map]
 apply List.map_congr_left
 intro k _
 simp
def MemB (s:GScript)(m:List UInt8)(k:Nat):Prop:=m[k]? =some 49∨m[k]? =some 48∧(k:Int)∈s.Faulty
instance (s :GScript)(m:List UInt8)(k:Nat):Decidable (MemB s m k):=by unfold MemB;infer_instance
def MemP (s:GScript)(m:List UInt8):Prop:=(m.length:Int)=s.Conf.N∧∀k∈List.range s.Conf.N.toNat,MemB s m k
instance (s :GScript)(m:List UInt8):Decidable (MemP s m):=by unfold MemP;infer_instance
theorem mmembers_eq (m:List UInt8):round_machine_members (Ground_machine.mk s.Conf s.Faulty) m=some (decide (MemP s m)):=by
 obtain⟨hN,hcl⟩:=N_in hp
 have hh:=honV_len s
 unfold round_machine_members
 by_cases h1:(m.length:Int)=s.Conf.N
 ·rw[if_pos h1,mhonest_eq h hp,zbs]
  unfold roster_Mark
  rw[markl_eq m s.Conf.N (honV s) (by omega) (by omega) (by omega),zbs,zbs]
  congr 1
  refine Bool.eq_iff_iff.2 ?_
  simp only[decide_eq_true_eq]
  have pt: ∀k:Nat,k<s.Conf.N.toNat→(m[k]? =some (markL m (honV s) k)↔MemB s m k):=fun k hk=>by
   have hm:=mem_hon (s:=s) (j:=k) (by omega)
   have hg:=zge (l:=m) (i:=k) (by omega)
   unfold markL MemB
   rw[hg]
   simp only[zsi]
   by_cases a:m[k]=49
   ·simp[a]
   ·rw[if_neg a]
    by_cases b:(k:Int)∈s.Faulty
    ·rw[if_neg (fun hh=>hm.1 hh b)]
     exact⟨fun e=>.inr ⟨e,b⟩,fun e=>e.elim (fun e=>absurd e a) fun e=>e.1⟩
    ·rw[if_pos (hm.2 b)]
     exact⟨fun e=>absurd e a,fun e=>e.elim id fun e=>absurd e.2 b⟩
  constructor
  ·intro e
   refine⟨h1,fun k hk=>(pt k (List.mem_range.1 hk)).1 ?_⟩
   have hk:=List.mem_range.1 hk
   have:((List.range s.Conf.N.toNat).map (markL m (honV s)))[k]? =m[k]? :=by rw[e]
   rw[←this,List.getElem?_map,List.getElem?_range hk];rfl
  ·intro e
   refine List.ext_getElem? fun k=> ?_
   by_cases hk:k<s.Conf.N.toNat
   ·rw[(pt k hk).2 (e.2 k (List.mem_range.2 hk)),List.getElem?_map,List.getElem?_range hk];rfl
   ·rw[List.getElem?_eq_none (by simp;omega),List.getElem?_eq_none (by omega)]
 ·rw[if_neg h1,decide_eq_false fun hh=>h1 hh.1]
def SizB (s:GScript)(r:GRound)(k:Nat):Prop:=((r.Lines[k]?).getD []).length≤16∧((k:Int)∈s.Faulty→(r.Lines[k]?).getD []=[]∧((r.Got[k]?).getD []).length=0)
instance (s :GScript)(r:GRound)(k:Nat):Decidable (SizB s r k):=by unfold SizB;infer_instance
def SizP (s:GScript)(r:GRound):Prop:=(r.Lines.length:Int)=s.Conf.N∧(r.Got.length:Int)=s.Conf.N∧∀k∈List.range s.Conf.N.toNat,SizB s r k
instance (s :GScript)(r:GRound):Decidable (SizP s r):=by unfold SizP;infer_instance
omit h in
theorem sizes_any (r:GRound)(f:Int→Option (Int⊕(Bool⊕Unit)))(h1:(r.Lines.length:Int)=s.Conf.N)(h2:(r.Got.length:Int)=s.Conf.N)
 (hf: ∀k:Nat,k<s.Conf.N.toNat→f (k:Int)=(idx? r.Lines (k:Int)).bind fun z0=>if 16<(z0.length:Int)then some (.inr (.inl false))else if(k:Int)∈s.Faulty then(idx? r.Lines (k:Int)).bind fun z2=>if z2≠[]then some (.inr (.inl false))else(idx? r.Got (k:Int)).bind fun z3=>if 0<(z3.length:Int)then some (.inr (.inl false))else some (.inl ((k:Int)+1))else some (.inl ((k:Int)+1)))
 (he:f s.Conf.N=some (.inr (.inr ()))):((loopO f 0).bind fun r2=>Sum.elim (fun r3=>some r3) (fun _=>some true) r2)=some (decide (SizP s r)):=by
 obtain⟨hN,hcl⟩:=N_in hp
 have E:=every_eq f (List.range s.Conf.N.toNat) (SizB s r) (fun k x hk hx=>by
  rw[List.length_range]at hk
  rw[List.getElem?_range hk]at hx
  injection hx with hx
  subst hx
  have g1:=zge (l:=r.Lines) (i:=k) (by omega)
  have g2:=zge (l:=r.Got) (i:=k) (by omega)
  rw[hf k hk,idx_get g1,zbs,zbs,idx_get g2,zbs]
  have hS:SizB s r k↔(r.Lines[k].length≤16∧((k:Int)∈s.Faulty→r.Lines[k]=[]∧r.Got[k].length=0)):=by unfold SizB;rw[g1,g2];simp only[Option.getD_some]
  by_cases a:16<(r.Lines[k].length:Int)
  ·rw[if_pos a,if_neg fun e=>by have:=(hS.1 e).1;omega]
  ·rw[if_neg a]
   by_cases b:(k:Int)∈s.Faulty
   ·rw[if_pos b]
    by_cases d:r.Lines[k]≠[]
    ·rw[if_pos d,if_neg fun e=>d ((hS.1 e).2 b).1]
    ·rw[if_neg d]
     by_cases g:0<(r.Got[k].length:Int)
     ·rw[if_pos g,if_neg fun e=>by have:=((hS.1 e).2 b).2;omega]
     ·rw[if_neg g,if_pos (hS.2 ⟨by omega,fun _=>⟨Classical.not_not.1 d,by omega⟩⟩)]
   ·rw[if_neg b,if_pos (hS.2 ⟨by omega,fun e=>absurd e b⟩)]) (by
  rw[List.length_range,show((s.Conf.N.toNat:Nat):Int)=s.Conf.N by omega];exact he)
 rw[E]
 congr 1
 refine Bool.eq_iff_iff.2 ?_
 simp only[decide_eq_true_eq]
 exact⟨fun e=>⟨h1,h2,e⟩,fun e=>e.2.2⟩
theorem msizes_eq (r:GRound):round_machine_sizes (Ground_machine.mk s.Conf s.Faulty) r=some (decide (SizP s r)):=by
 obtain⟨hN,hcl⟩:=N_in hp
 unfold round_machine_sizes
 by_cases h1:(r.Lines.length:Int)=s.Conf.N
 ·rw[if_neg (by simpa using h1)]
  by_cases h2:(r.Got.length:Int)=s.Conf.N
  ·rw[if_neg (by simpa using h2)]
   refine sizes_any hp r (fun p=>round_machine_sizes_0_step (Ground_machine.mk s.Conf s.Faulty) r s.Conf.N p) h1 h2 (fun k hk=> ?_) (by simp only[round_machine_sizes_0_step];rw[if_neg (by omega)])
   simp only[round_machine_sizes_0_step]
   rw[if_pos (by omega),lies_eq h,zbs,wrI (n:=(k:Int)+1) rfl (by omega)]
   simp only[decide_eq_true_eq]
  ·rw[if_pos h2,decide_eq_false fun hh=>h2 hh.2.1]
 ·rw[if_pos h1,decide_eq_false fun hh=>h1 hh.1]
end
def msgV (s:GScript)(r:GRound)(d:GDeliver)(last:Int):Int:=
 if d.Slot≤last then 11 else if(s.Conf.Table.length:Int)≤d.Slot then 11 else if d.From≠(s.Conf.Table[d.Slot.toNat]?).getD 0 then 12 else if d.Cycle≠r.Number then 16 else if 16<(d.Text.length:Int)then 15
 else if d.From∈s.Faulty then 0 else if d.Text≠(r.Lines[d.From.toNat]?).getD []then 15 else 0
def nodL (s:GScript)(r:GRound):List GDeliver→Int→List Int→Int⊕List Int
 | [],_,hs=>.inr hs
 |d::ds,last,hs=>if msgV s r d last=0 then nodL s r ds d.Slot (d.Slot::hs)else .inl (msgV s r d last)
def lateO (s:GScript)(hs:List Int)(k:Nat):Prop:=(k:Int)∉hs∧(s.Conf.Table[k]?).getD 0∉s.Faulty
open Classical in
noncomputable def lateV (s:GScript)(hs:List Int):Int:=if∃k,k<s.Conf.Table.length∧lateO s hs k then 10 else 0
noncomputable def oneV (s:GScript)(r:GRound)(l:List GDeliver):Int:=(nodL s r l (-1) []).elim id (lateV s)
section
variable {s:GScript} (h:SIn s) (hp:plainV s.Conf=0) {r:GRound} (hL:(r.Lines.length:Int)=s.Conf.N)
include h hp hL
omit h hL in
theorem tab_in :s.Conf.Table.length≤32∧∀k:Nat,k<s.Conf.Table.length→∃x,s.Conf.Table[k]? =some x∧0≤x∧x<s.Conf.N:=by
 obtain⟨-,-,-,b1,b2,b3,-⟩:=(plain_zero _).1 hp
 exact⟨b2,fun k hk=>⟨s.Conf.Table[k],zge hk,b3 _ (List.getElem_mem hk)⟩⟩
theorem msg_any {β:Type}(d:GDeliver){last:Int}(h1: -1≤last)(F:Int→Option β)(G:Option β)(hG:msgV s r d last=0→F 0=G)(fl:Int→Option Bool)(hfl:fl d.From=some (decide (d.From∈s.Faulty))):
 (if d.Slot≤last then F 11 else if(s.Conf.Table.length:Int)≤d.Slot then F 11 else(idx? s.Conf.Table d.Slot).bind fun z0=>if d.From≠z0 then F 12 else if d.Cycle≠r.Number then F 16 else if 16<(d.Text.length:Int)then F 15 else
   (fl d.From).bind fun r2=>if(!r2)=true then(idx? r.Lines d.From).bind fun z2=>if d.Text≠z2 then F 15 else G else G)=F (msgV s r d last):=by
 have _:=h
 obtain⟨t1,t2⟩:=tab_in hp
 have e: ∀v,msgV s r d last=v→v=0→G=F (msgV s r d last):=fun v h1 h2=>by rw[h1,h2];exact(hG (h1.trans h2)).symm
 by_cases q1:d.Slot≤last
 ·rw[if_pos q1];unfold msgV;rw[if_pos q1]
 rw[if_neg q1]
 by_cases q2:(s.Conf.Table.length:Int)≤d.Slot
 ·rw[if_pos q2];unfold msgV;rw[if_neg q1,if_pos q2]
 rw[if_neg q2]
 obtain⟨x,hx,x0,x1⟩:=t2 d.Slot.toNat (by omega)
 have ix:idx? s.Conf.Table d.Slot=some x:=by
  have:=idx_get hx
  rwa [show((d.Slot.toNat:Nat):Int)=d.Slot by omega]at this
 have hm:msgV s r d last=if d.From≠x then 12 else if d.Cycle≠r.Number then 16 else if 16<(d.Text.length:Int)then 15 else if d.From∈s.Faulty then 0 else if d.Text≠(r.Lines[d.From.toNat]?).getD []then 15 else 0:=by
  unfold msgV;rw[if_neg q1,if_neg q2,hx];rfl
 rw[ix,zbs]
 by_cases q3:d.From≠x
 ·rw[if_pos q3,hm,if_pos q3]
 rw[if_neg q3]
 by_cases q4:d.Cycle≠r.Number
 ·rw[if_pos q4,hm,if_neg q3,if_pos q4]
 rw[if_neg q4]
 by_cases q5:16<(d.Text.length:Int)
 ·rw[if_pos q5,hm,if_neg q3,if_neg q4,if_pos q5]
 rw[if_neg q5,hfl,zbs]
 rw[if_neg q3,if_neg q4,if_neg q5]at hm
 by_cases q6:d.From∈s.Faulty
 ·rw[if_pos q6]at hm
  rw[if_neg (by simpa using q6)]
  exact e _ hm rfl
 ·rw[if_neg q6]at hm
  have hf:d.From=x:=Classical.not_not.1 q3
  have g:=zge (l:=r.Lines) (i:=d.From.toNat) (by omega)
  have ig:=idx_get g
  rw[show((d.From.toNat:Nat):Int)=d.From by omega]at ig
  rw[g,Option.getD_some]at hm
  rw[if_pos (by simpa using q6),ig,zbs]
  by_cases q7:d.Text≠r.Lines[d.From.toNat]
  ·rw[if_pos q7]at hm
   rw[if_pos q7,hm]
  ·rw[if_neg q7]at hm
   rw[if_neg q7]
   exact e _ hm rfl
omit hp hL in
theorem xlies_eq (n:Int):x0.round_machine_lies (Ground_machine.mk s.Conf s.Faulty) n=some (decide (n∈s.Faulty)):=lies_eq h n
theorem message_eq (d:GDeliver){last:Int}(h1: -1≤last):x0.round_machine_message (Ground_machine.mk s.Conf s.Faulty) r d last=some (msgV s r d last):=
 msg_any h hp hL d h1 some (some 0) (fun _=>rfl) (x0.round_machine_lies (Ground_machine.mk s.Conf s.Faulty)) (xlies_eq h _)
omit h hp hL in
theorem msg_slot {d:GDeliver}{last:Int}(h0:msgV s r d last=0):last<d.Slot∧d.Slot<(s.Conf.Table.length:Int):=by
 unfold msgV at h0
 by_cases q1:d.Slot≤last
 ·rw[if_pos q1]at h0;cases h0
 rw[if_neg q1]at h0
 by_cases q2:(s.Conf.Table.length:Int)≤d.Slot
 ·rw[if_pos q2]at h0;cases h0
 omega
theorem ndLoop_eq : ∀(l:List GDeliver) (last:Int) (hs:List Int),-1≤last→x0.ndLoop (Ground_machine.mk s.Conf s.Faulty) r l last hs=some (nodL s r l last hs)
 | [],_,_,_=>rfl
 |d::ds,last,hs,h1=>by
  simp only[x0.ndLoop,nodL]
  rw[message_eq h hp hL d h1,zbs]
  by_cases q:msgV s r d last=0
  ·rw[if_pos q,if_pos q]
   exact ndLoop_eq ds d.Slot _ (by have:=msg_slot q;omega)
  ·rw[if_neg q,if_neg q]
omit hp hL in
theorem ndLate_eq (hs:List Int): ∀(j k:Nat),k+j=s.Conf.Table.length→x0.ndLate (Ground_machine.mk s.Conf s.Faulty) hs (s.Conf.Table.drop k) (k:Int)=some (open Classical in if∃i,k≤i∧i<s.Conf.Table.length∧lateO s hs i then 10 else 0)
 |0,k,hk=>by
  rw[List.drop_eq_nil_of_le (by omega),if_neg (by rintro⟨i,h1,h2,-⟩;omega)];rfl
 |j+1,k,hk=>by
  have hlt:k<s.Conf.Table.length:=by omega
  have ih:=ndLate_eq hs j (k+1) (by omega)
  rw[List.drop_eq_getElem_cons hlt]
  simp only[x0.ndLate]
  rw[xlies_eq h,zbs,show((k:Int)+1)=((k+1:Nat):Int) by omega,ih]
  have hk0:lateO s hs k↔(k:Int)∉hs∧s.Conf.Table[k]∉s.Faulty:=by unfold lateO;rw[zge hlt];rfl
  have up:(∃i,k≤i∧i<s.Conf.Table.length∧lateO s hs i)↔lateO s hs k∨∃i,k+1≤i∧i<s.Conf.Table.length∧lateO s hs i:=by
   constructor
   ·rintro⟨i,h1,h2,h3⟩
    by_cases e:i=k
    ·exact .inl (e▸h3)
    ·exact .inr ⟨i,by omega,h2,h3⟩
   ·rintro(h3|⟨i,h1,h2,h3⟩)
    ·exact⟨k,Nat.le_refl _,hlt,h3⟩
    ·exact⟨i,by omega,h2,h3⟩
  by_cases q:lateO s hs k
  ·have q':=hk0.1 q
   rw[if_neg q'.1,if_neg (by simpa using q'.2),if_pos (up.2 (.inl q))]
  ·have e:(open Classical in if∃i,k≤i∧i<s.Conf.Table.length∧lateO s hs i then(10:Int)else 0)=(open Classical in if∃i,k+1≤i∧i<s.Conf.Table.length∧lateO s hs i then 10 else 0):=by
    by_cases a: ∃i,k+1≤i∧i<s.Conf.Table.length∧lateO s hs i
    ·rw[if_pos a,if_pos (up.2 (.inr a))]
    ·rw[if_neg a,if_neg fun b=>(up.1 b).elim q a]
   rw[e]
   by_cases q1:(k:Int)∈hs
   ·rw[if_pos q1]
   ·rw[if_neg q1]
    by_cases q2:s.Conf.Table[k]∈s.Faulty
    ·rw[if_pos (by simpa using q2)]
    ·exact absurd (hk0.2 ⟨q1,q2⟩) q
theorem node_eq2 {l:List GDeliver}(hl:l.length≤4294967296):round_machine_node (Ground_machine.mk s.Conf s.Faulty) r l=some (oneV s r l):=by
 obtain⟨t1,t2⟩:=tab_in hp
 show x0.round_machine_node (Ground_machine.mk s.Conf s.Faulty) r l=_
 unfold x0.round_machine_node oneV
 rw[if_pos ⟨hl,by show s.Conf.Table.length≤_;omega⟩,ndLoop_eq h hp hL l (-1) [] (by omega),zbs]
 cases nodL s r l (-1) []with
 |inl e=>rfl
 |inr hs=>
  have:=ndLate_eq h hs s.Conf.Table.length 0 (by omega)
  rw[List.drop_zero]at this
  refine this.trans ?_
  show _=some (lateV s hs)
  unfold lateV
  by_cases q: ∃k,k<s.Conf.Table.length∧lateO s hs k
  ·rw[if_pos q,if_pos (by obtain⟨k,q⟩:=q;exact⟨k,Nat.zero_le _,q⟩)]
  ·rw[if_neg q,if_neg (fun⟨k,_,hh⟩=>q ⟨k,hh⟩)]
end
noncomputable def nodE (s:GScript)(r:GRound)(n:Int):Int:=oneV s r ((r.Got[n.toNat]?).getD [])
noncomputable def fitsV (s:GScript)(r:GRound):Int:=
 if r.Number<0 then 2 else if s.Conf.Mod≤r.Number then 2 else if¬MemP s r.Members then 7 else if¬SizP s r then 6 else firstE ((honV s).map (nodE s r))
section
variable {s:GScript} (h:SIn s) (hp:plainV s.Conf=0) {r:GRound} (hr:RndS r)
include h hp hr
theorem fits_got (hz:SizP s r){n:Int}(n0:0≤n)(n1:n<s.Conf.N):idx? r.Got n=some ((r.Got[n.toNat]?).getD [])∧((r.Got[n.toNat]?).getD []).length≤4294967296:=by
 have _:=And.intro h hp
 obtain⟨z,hz1,hz2,hm⟩:=idx_in (l:=r.Got) n0 (by have:=hz.2.1;omega)
 rw[hz1,hz2]
 exact⟨rfl,hr.d z hm⟩
theorem Fits_eq :round_Fits s.Conf s.Faulty r=some (fitsV s r):=by
 obtain⟨hN,hcl⟩:=N_in hp
 unfold round_Fits fitsV
 rw[conf_plain _ h.conf,zbs,if_neg (by simp[hp])]
 by_cases q1:r.Number<0
 ·rw[if_pos q1,if_pos q1]
 rw[if_neg q1,if_neg q1]
 by_cases q2:s.Conf.Mod≤r.Number
 ·rw[if_pos q2,if_pos q2]
 rw[if_neg q2,if_neg q2,mmembers_eq h hp,zbs,notb]
 by_cases q3:MemP s r.Members
 ·rw[if_pos q3,if_neg (fun hh=>hh q3),msizes_eq h hp,zbs,notb]
  by_cases q4:SizP s r
  ·rw[if_pos q4,if_neg (fun hh=>hh q4),mhonest_eq h hp,zbs]
   refine first_end (first_eq (fun p=>round_Fits_0_step r (honV s) ((honV s).length:Int) (Ground_machine.mk s.Conf s.Faulty) p) (honV s) (nodE s r) (fun k x hk hx=> ?_) ?_)
   ·have hl:=honV_len s
    have hn:=(honV_in (List.mem_of_getElem? hx)).1
    obtain⟨g1,g2⟩:=fits_got h hp hr q4 hn.1 (hcl▸hn.2)
    simp only[round_Fits_0_step]
    rw[if_pos (by omega),idx_get hx,zbs,g1,zbs,node_eq2 h hp q4.1 g2,zbs,wrI (n:=(k:Int)+1) rfl (by omega)]
    show(if nodE s r x≠0 then _ else _)=_
    split<;>rfl
   ·simp only[round_Fits_0_step];rw[if_neg (by omega)]
  ·rw[if_neg q4,if_pos q4]
 ·rw[if_neg q3,if_pos q3]
end
def apV2 (c:GConf)(a b:Int):Int:=modV (wr (modV b c.Mod-modV a c.Mod)) c.Mod
theorem follows_eq {c:GConf}(hc:CIn c)(hp:plainV c=0)(a b:GRound):round_Follows c a b=some (decide (apV2 c a.Number b.Number=1)):=by
 unfold round_Follows number_Apart
 rw[conf_plain _ hc,zbs,if_pos hp,zbs,if_neg (by simp[hp]),nmodV_eq,zbs,nmodV_eq,zbs,nmodV_eq]
 rfl
noncomputable def rndE (s:GScript)(l:List GRound)(k:Nat):Int:=
 ((l[k]?).map fun x=>if fitsV s x≠0 then fitsV s x else if 0<k then((l[k-1]?).map fun y=>if apV2 s.Conf y.Number x.Number=1 then 0 else 16).getD 0 else 0).getD 0
section
variable {s:GScript} (h:SIn s) (hp:plainV s.Conf=0) {l:List GRound} (hl:l.length≤4096) (hr: ∀r∈l,RndS r)
include h hp hl hr
omit h hp hr in
theorem rnds_any (f:Int→Option (Int⊕(Int⊕Unit)))(hf: ∀(k:Nat) x,l[k]? =some x→f (k:Int)=if fitsV s x≠0 then some (.inr (.inl (fitsV s x)))else if 0<(k:Int)then(idx? l (wr ((k:Int)-1))).bind fun y=>if apV2 s.Conf y.Number x.Number=1 then some (.inl ((k:Int)+1))else some (.inr (.inl 16))else some (.inl ((k:Int)+1)))
 (he:f (l.length:Int)=some (.inr (.inr ()))):((loopO f 0).bind fun r=>Sum.elim (fun r3=>some r3) (fun _=>some 0) r)=some (firstE ((List.range l.length).map (rndE s l))):=by
 refine first_end (first_eq f (List.range l.length) (rndE s l) (fun k x hk hx=> ?_) ?_)
 ·rw[List.length_range]at hk
  rw[List.getElem?_range hk]at hx
  injection hx with hx
  subst hx
  have g:=zge hk
  have e:rndE s l k=if fitsV s l[k]≠0 then fitsV s l[k]else if 0<k then((l[k-1]?).map fun y=>if apV2 s.Conf y.Number l[k].Number=1 then 0 else 16).getD 0 else 0:=by unfold rndE;rw[g];rfl
  rw[hf k l[k] g]
  by_cases q1:fitsV s l[k]≠0
  ·rw[if_pos q1]at e ⊢
   rw[e,if_pos q1]
  rw[if_neg q1]at e ⊢
  by_cases q2:0<k
  ·have g2:=zge (l:=l) (i:=k-1) (by omega)
   rw[if_pos q2,g2]at e
   rw[if_pos (by omega),wrI (n:=(k:Int)-1) (m:=((k-1:Nat):Int)) (by omega) (by omega),idx_get g2,zbs,e]
   simp only[Option.map_some,Option.getD_some]
   by_cases q3:apV2 s.Conf l[k-1].Number l[k].Number=1
   ·rw[if_pos q3,if_pos q3,if_neg (by simp)]
   ·rw[if_neg q3,if_neg q3,if_pos (by decide)]
  ·rw[if_neg q2]at e
   rw[if_neg (by omega),e,if_neg (by simp)]
 ·rw[List.length_range];exact he
theorem fitsAll_eq (rows:Rows)(n:List Int)(a:Int):judge_run_fits (Gjudge_run.mk s n rows a) l=some (firstE ((List.range l.length).map (rndE s l))):=by
 refine rnds_any hl (fun p=>judge_run_fits_0_step l (Gjudge_run.mk s n rows a) l (l.length:Int) p) (fun k x hx=> ?_) (by simp only[judge_run_fits_0_step];rw[if_neg (by omega)])
 obtain⟨hk,-⟩:=List.getElem?_eq_some_iff.1 hx
 simp only[judge_run_fits_0_step]
 rw[if_pos (by omega),idx_get hx,zbs,Fits_eq h hp (hr x (List.mem_of_getElem? hx)),zbs,wrI (n:=(k:Int)+1) rfl (by omega)]
 simp only[follows_eq h.conf hp,zbs,notb]
end
noncomputable def setV (s:GScript):Int:=wr (lastV s+setC s.Conf)
theorem setV_le {s:GScript}(h:SIn s)(hp:plainV s.Conf=0):setV s≤1000000000:=by
 have hT:=h.t
 have hl:=lenV_in s.Conf ((plain_zero s.Conf).1 hp)
 have pp:=period_le hp
 have hk:=lastN_in (calmN s) s.Ticks.length
 unfold setV setC
 rw[wrI (n:=4*lenV s.Conf) rfl (by omega),wrI (n:=1+4*lenV s.Conf) rfl (by omega),wrI (n:=2*s.Conf.Period) rfl (by omega),wrI (n:=1+4*lenV s.Conf+2*s.Conf.Period) rfl (by omega),wrI rfl (by unfold lastV;omega)]
 unfold lastV
 omega
noncomputable def judgeV (s:GScript)(rows:Rows):GVerdict:=
 if holdsV s≠0 then⟨0,0,0,0,0,⟨holdsV s,holdsV s,holdsV s,holdsV s,holdsV s⟩⟩else if FitP s rows then
  ⟨(rows.length:Int),lastV s,setV s,wr (lastV s+allC s.Conf),((roundsV s rows).length:Int),
    ⟨regV s.Conf rows (honV s) ((honV s)[0]?.getD 0) (max (setV s) 0),
     firstT (numE rows (honV s) ((honV s)[0]?.getD 0) s.Conf (allV s)) (allV s) ((rows.length:Int)-allV s).toNat,
     firstT (sloE rows (honV s) ((honV s)[0]?.getD 0) s.Conf (allV s)) (allV s) ((rows.length:Int)-allV s).toNat,
     firstE ((List.range (roundsV s rows).length).map (rndE s (roundsV s rows))),
     firstT (memE rows (honV s) ((honV s)[0]?.getD 0)) (allV s) ((rows.length:Int)-allV s).toNat⟩⟩
 else⟨0,0,0,0,0,⟨2,2,2,2,2⟩⟩
section
variable {s:GScript} (h:SIn s) (hb:ImB s) {rows:Rows} (hR:RIn rows)
include h hb hR
theorem Judge_eq :judge_Judge s rows=some (judgeV s rows):=by
 have hn:=hR.n
 have hro:=rounds_in (s:=s) hR
 unfold judge_Judge judgeV
 rw[open_eq h (by omega),zbs]
 by_cases h0:holdsV s≠0
 ·simp only[if_pos h0]
 have h00:=Classical.not_not.1 h0
 have hz:=holds_zero h00
 have hp:=plain_of hz
 have ha:=allV_le h hp
 simp only[if_neg h0]
 by_cases hq:FitP s rows
 ·obtain⟨n0,hn0⟩:=hon_of h00
  obtain⟨hN,hcl⟩:=N_in hp
  have hl:=honV_len s
  have hin: ∀n∈honV s,0≤n∧n<s.Conf.N:=fun n hn=>by have:=(honV_in hn).1;exact⟨this.1,hcl▸this.2⟩
  have hf:FitN s.Conf.N rows:=⟨by omega,hq.2⟩
  have e:=rounds_eq h hb hp hf (fun t t0 t1=>⟨hn,hR.g,by omega,by omega⟩) hn0 ha.2
  have er:roundsV s rows=(stV s.Conf rows n0 (allV s)).map (rndV s rows (honV s) n0):=by
   unfold roundsV
   rw[if_neg h0,if_pos hq,hn0];rfl
  simp only[if_pos hq]
  rw[if_neg (by simp),e,←er,zbs,pLast_eq h hz,zbs,pSet_eq h hz,zbs,pAll_eq h hz,zbs,show wr (lastV s+setC s.Conf)=setV s from rfl]
  simp only[regular_eq h.conf hp (show rows.length≤100000000 by omega) (show(honV s).length≤1000 by omega) hn0 (setV_le h hp),each_numbers hf (show(honV s).length≤1000 by omega) hin hn0 h.conf hp ha.1,slots_eq hf (show(honV s).length≤1000 by omega) hin hn0 h.conf hp ha.1,
   fitsAll_eq h hp hro.1 hro.2,each_members hf (show(honV s).length≤1000 by omega) hin hn0 s ha.1 (Gjudge_run.mk s (honV s) rows (allV s)) rfl rfl,zbs,hn0,Option.getD_some]
 ·simp only[if_neg hq]
  rfl
end
def trnV (rows:Rows)(t n:Int)(z:List GReport)(r:GReport):Rows:=rows.set t.toNat (z.set n.toNat r)
theorem idx_bounds {α:Type}{l:List α}{i:Int}{x:α}(h:idx? l i=some x):0≤i∧i<(l.length:Int)∧l[i.toNat]? =some x:=by
 have h2:=idx_some h
 unfold idx? at h
 split at h
 ·exact⟨by omega,by omega,h2⟩
 ·cases h
theorem turned_eq {rows:Rows}{t n:Int}{z:List GReport}(h1:rows.length≤4096)(h2:z.length≤1000000)(hz:idx? rows t=some z)(n0:0≤n)(n1:n<(z.length:Int))(r:GReport):l39_turned rows t n r=some (trnV rows t n z r):=by
 obtain⟨t0,t1,hz2⟩:=idx_bounds hz
 unfold l39_turned
 rw[if_pos (by simp only[List.length_nil,lenMax];omega),hz,zbs,if_pos (by simp only[List.length_nil,lenMax];omega),if_pos (by simp only[List.nil_append,List.length_map];omega)]
 rw[mod_some _ _ _ (by simp only[List.nil_append,List.length_map];omega),zbs,sub_all _ _ rfl,zbs,if_pos (by simp only[List.nil_append,List.length_map];omega)]
 rw[mod_some _ _ _ (by simp only[List.nil_append,List.length_map];omega),zbs,sub_all _ _ rfl,zbs]
 congr 1
 unfold trnV
 simp only[List.nil_append,List.map_set,List.map_map]
 congr 1
 ·exact List.map_id' _
 ·congr 1
  exact List.map_id' _
section
variable {rows:Rows} {t n:Int} {z:List GReport} (hz:idx? rows t=some z) (n0:0≤n) (n1:n<(z.length:Int)) {r:GReport}
include hz n0 n1
theorem trn_at (t' n':Int):atV (trnV rows t n z r) t' n'=if t'=t∧n'=n then r else atV rows t' n':=by
 obtain⟨t0,t1,hz2⟩:=idx_bounds hz
 unfold atV trnV
 by_cases a1:t'<0
 ·rw[if_pos a1,if_pos a1,if_neg (by omega)]
 rw[if_neg a1,if_neg a1]
 by_cases a2:n'<0
 ·rw[if_pos a2,if_pos a2,if_neg (by omega)]
 rw[if_neg a2,if_neg a2,List.getElem?_set]
 by_cases e:t'=t
 ·subst e
  rw[if_pos rfl,if_pos (by omega),hz2,zbs,zbs,List.getElem?_set]
  by_cases e2:n'=n
  ·subst e2
   rw[if_pos rfl,if_pos (by omega),if_pos ⟨rfl,rfl⟩];rfl
  ·rw[if_neg (by omega),if_neg fun hh=>e2 hh.2]
 ·rw[if_neg (by omega),if_neg fun hh=>e hh.1]
theorem trn_len :(trnV rows t n z r).length=rows.length:=by
 have _:=And.intro hz (And.intro n0 n1)
 unfold trnV;simp
theorem trn_mem {l:List GReport}(h:l∈trnV rows t n z r):l∈rows∨l=z.set n.toNat r:=by
 have _:=And.intro hz (And.intro n0 n1)
 unfold trnV at h
 rcases List.mem_or_eq_of_mem_set h with h|h
 ·exact .inl h
 ·exact .inr h
theorem trn_fit {s:GScript}(h:FitP s rows):FitP s (trnV rows t n z r):=by
 refine⟨by rw[trn_len hz n0 n1];exact h.1,fun l hl=> ?_⟩
 rcases trn_mem hz n0 n1 hl with hl|rfl
 ·exact h.2 l hl
 ·rw[List.length_set]
  exact h.2 z (List.mem_of_getElem? (idx_bounds hz).2.2)
theorem trn_rin (h:RIn rows)(hr:r.Got.length≤1048576):RIn (trnV rows t n z r):=by
 refine⟨by rw[trn_len hz n0 n1];exact h.n,fun l hl x hx=> ?_⟩
 rcases trn_mem hz n0 n1 hl with hl|rfl
 ·exact h.g l hl x hx
 ·rcases List.mem_or_eq_of_mem_set hx with hx|rfl
  ·exact h.g z (List.mem_of_getElem? (idx_bounds hz).2.2) x hx
  ·exact hr
end
theorem judge_fits {s:GScript}{rows:Rows}(h0:holdsV s=0)(hf:FitP s rows):(judgeV s rows).Faults=⟨regV s.Conf rows (honV s) ((honV s)[0]?.getD 0) (max (setV s) 0),
 firstT (numE rows (honV s) ((honV s)[0]?.getD 0) s.Conf (allV s)) (allV s) ((rows.length:Int)-allV s).toNat,
 firstT (sloE rows (honV s) ((honV s)[0]?.getD 0) s.Conf (allV s)) (allV s) ((rows.length:Int)-allV s).toNat,
 firstE ((List.range (roundsV s rows).length).map (rndE s (roundsV s rows))),
 firstT (memE rows (honV s) ((honV s)[0]?.getD 0)) (allV s) ((rows.length:Int)-allV s).toNat⟩:=by
 unfold judgeV
 rw[if_neg (by simp[h0]),if_pos hf]
theorem judge_unfit {s:GScript}{rows:Rows}(h0:holdsV s=0)(hf: ¬FitP s rows):(judgeV s rows).Faults=⟨2,2,2,2,2⟩:=by
 unfold judgeV
 rw[if_neg (by simp[h0]),if_neg hf]
theorem at_idx {rows:Rows}{t n:Int}{z:List GReport}(hz:idx? rows t=some z)(n0:0≤n)(n1:n<(z.length:Int)):idx? z n=some (atV rows t n):=by
 obtain⟨t0,t1,hz2⟩:=idx_bounds hz
 obtain⟨x,hx,hx2,-⟩:=idx_in n0 n1
 rw[hx]
 unfold atV
 rw[if_neg (by omega),if_neg (by omega),hz2,zbs,hx2];rfl
theorem firstE_zero : ∀{l:List Int},firstE l=0→∀e∈l,e=0
 | [],_,e,h=>by cases h
 |x::l,h,e,he=>by
  unfold firstE at h
  by_cases hx:x≠0
  ·rw[if_pos hx]at h;exact absurd h hx
  ·rw[if_neg hx]at h
   rcases List.mem_cons.1 he with rfl|he
   ·omega
   ·exact firstE_zero h e he
theorem flat_at {α:Type}(g:Nat→List α){k0:Nat}: ∀m,k0<m→∃A B,∀g':Nat→List α,(∀k,k≠k0→g' k=g k)→(List.range m).flatMap g'=A++(g' k0++B)
 |0,h=>by omega
 |m+1,h=>by
  by_cases e:k0=m
  ·subst e
   refine⟨(List.range k0).flatMap g,[],fun g' hg=> ?_⟩
   rw[List.range_succ,List.flatMap_append,List.flatMap_singleton,List.append_nil]
   congr 1
   rw[List.flatMap_def,List.flatMap_def]
   congr 1
   exact List.map_congr_left fun k hk=>hg k (by have:=List.mem_range.1 hk;omega)
  ·obtain⟨A,B,hAB⟩:=flat_at g (k0:=k0) m (by omega)
   refine⟨A,B++g m,fun g' hg=> ?_⟩
   have hm:=hg m (by omega)
   rw[List.range_succ,List.flatMap_append,List.flatMap_singleton,hAB g' hg,hm]
   simp
theorem nodL_ne {s:GScript}{r:GRound}: ∀{l:List GDeliver} {last:Int} {hs:List Int} {e:Int},nodL s r l last hs= .inl e→e≠0
 | [],_,_,_,h=>by cases h
 |d::ds,last,hs,e,h=>by
  simp only[nodL]at h
  by_cases q:msgV s r d last=0
  ·rw[if_pos q]at h;exact nodL_ne h
  ·rw[if_neg q]at h;injection h with h;exact h▸q
theorem nodL_at {s:GScript}{R R':GRound}(hR: ∀d last,msgV s R' d last=msgV s R d last): ∀(A:List GDeliver) {d:GDeliver} {B:List GDeliver} {last:Int} {hs hs':List Int},nodL s R (A++d::B) last hs= .inr hs'→
 ∃last',msgV s R d last'=0∧∀d' B',msgV s R d' last'≠0→nodL s R' (A++d'::B') last hs= .inl (msgV s R d' last')
 | [],d,B,last,hs,hs',h=>by
   simp only[List.nil_append,nodL]at h
   by_cases q:msgV s R d last=0
   ·refine⟨last,q,fun d' B' h2=> ?_⟩
    simp only[List.nil_append,nodL]
    rw[hR,if_neg h2]
   ·rw[if_neg q]at h;cases h
 |a::A,d,B,last,hs,hs',h=>by
  simp only[List.cons_append,nodL]at h ⊢
  by_cases q:msgV s R a last=0
  ·rw[if_pos q]at h
   obtain⟨last',h1,h2⟩:=nodL_at hR A h
   refine⟨last',h1,fun d' B' h3=> ?_⟩
   rw[hR,if_pos q]
   exact h2 d' B' h3
  ·rw[if_neg q]at h;cases h
def lngV (d:GDeliver):GDeliver:=⟨d.From,d.Slot,d.Cycle,d.Text++[120]⟩
theorem msg_longer {s:GScript}{R:GRound}{d:GDeliver}{last:Int}(h:msgV s R d last=0)(hf:d.From∉s.Faulty):msgV s R (lngV d) last≠0∧d.Text.length≤16:=by
 unfold msgV at h
 by_cases q1:d.Slot≤last
 ·rw[if_pos q1]at h;cases h
 rw[if_neg q1]at h
 by_cases q2:(s.Conf.Table.length:Int)≤d.Slot
 ·rw[if_pos q2]at h;cases h
 rw[if_neg q2]at h
 by_cases q3:d.From≠(s.Conf.Table[d.Slot.toNat]?).getD 0
 ·rw[if_pos q3]at h;cases h
 rw[if_neg q3]at h
 by_cases q4:d.Cycle≠R.Number
 ·rw[if_pos q4]at h;cases h
 rw[if_neg q4]at h
 by_cases q5:16<(d.Text.length:Int)
 ·rw[if_pos q5]at h;cases h
 rw[if_neg q5,if_neg hf]at h
 by_cases q6:d.Text≠(R.Lines[d.From.toNat]?).getD []
 ·rw[if_pos q6]at h;cases h
 refine⟨?_,by omega⟩
 unfold msgV lngV
 simp only[]
 rw[if_neg q1,if_neg q2,if_neg q3,if_neg q4,if_neg hf]
 have q7:d.Text++[120]≠(R.Lines[d.From.toNat]?).getD []:=fun e=>by
  rw[←Classical.not_not.1 q6]at e
  have:=congrArg List.length e
  simp at this
 rw[if_pos q7]
 split<;>decide
section
variable {s:GScript} {rows:Rows} {t n:Int} {z:List GReport} (hz:idx? rows t=some z) (n0:0≤n) (n1:n<(z.length:Int)) {r:GReport}
include hz n0 n1
theorem trn_st (c:GConf)(hr:r.Pulse=(atV rows t n).Pulse)(m f:Int):stV c (trnV rows t n z r) m f=stV c rows m f:=by
 unfold stV
 rw[trn_len hz n0 n1]
 congr 1
 funext k
 unfold stG
 rw[trn_at hz n0 n1]
 by_cases e:max f 0+(k:Int)=t∧m=n
 ·rw[if_pos e,hr,e.1,e.2]
 ·rw[if_neg e]
theorem trn_got {a b:Int}(a0:0≤a)(h1:a≤t)(h2:t<b): ∃A B,x0.gotL rows n a b=A++((atV rows t n).Got++B)∧x0.gotL (trnV rows t n z r) n a b=A++(r.Got++B):=by
 obtain⟨t0,t1,hz2⟩:=idx_bounds hz
 obtain⟨A,B,hAB⟩:=flat_at (fun k:Nat=>(atV rows (max a 0+(k:Int)) n).Got) (k0:=(t-a).toNat) (x0.gN rows.length a b) (by unfold x0.gN;omega)
 refine⟨A,B,?_,?_⟩
 ·unfold x0.gotL
  simp only[atR_eq]
  rw[hAB _ fun _ _=>rfl,show max a 0+(((t-a).toNat:Nat):Int)=t by omega]
 ·unfold x0.gotL
  simp only[atR_eq]
  rw[trn_len hz n0 n1,hAB _ fun k hk=>by rw[trn_at hz n0 n1,if_neg (by omega)],trn_at hz n0 n1,if_pos ⟨by omega,rfl⟩]
end
theorem rounds_fit {s:GScript}{rows:Rows}(h0:holdsV s=0)(hf:FitP s rows):roundsV s rows=(stV s.Conf rows ((honV s)[0]?.getD 0) (allV s)).map (rndV s rows (honV s) ((honV s)[0]?.getD 0)):=by
 unfold roundsV
 rw[if_neg (by simp[h0]),if_pos hf]
theorem fits_node {s:GScript}{R:GRound}(h:fitsV s R=0){n:Int}(hn:n∈honV s):nodE s R n=0:=by
 unfold fitsV at h
 by_cases q1:R.Number<0
 ·rw[if_pos q1]at h;cases h
 rw[if_neg q1]at h
 by_cases q2:s.Conf.Mod≤R.Number
 ·rw[if_pos q2]at h;cases h
 rw[if_neg q2]at h
 by_cases q3: ¬MemP s R.Members
 ·rw[if_pos q3]at h;cases h
 rw[if_neg q3]at h
 by_cases q4: ¬SizP s R
 ·rw[if_pos q4]at h;cases h
 rw[if_neg q4]at h
 exact firstE_zero h _ (List.mem_map.2 ⟨n,hn,rfl⟩)
theorem rnd_nodE {s:GScript}{rows:Rows}(hp:plainV s.Conf=0){n:Int}(hn:n∈honV s)(m t1:Int):nodE s (rndV s rows (honV s) m t1) n=oneV s (rndV s rows (honV s) m t1) (x0.gotL rows n t1 (t1+s.Conf.Period)):=by
 obtain⟨hN,hcl⟩:=N_in hp
 have hi:=(honV_in hn).1
 have h1:=hi.1
 have h2:n<s.Conf.N:=hcl▸hi.2
 unfold nodE
 congr 1
 show((List.map (gotA s rows (honV s) t1) (List.range s.Conf.N.toNat))[n.toNat]?).getD []=_
 rw[List.getElem?_map,List.getElem?_range (by omega)]
 show gotA s rows (honV s) t1 n.toNat=_
 unfold gotA
 rw[show((n.toNat:Nat):Int)=n by omega,if_pos hn]
theorem txt_turned {s:GScript}{rows:Rows}{t n:Int}{z:List GReport}(h0:holdsV s=0)(hz:idx? rows t=some z)(n0:0≤n)(n1:n<(z.length:Int))(hfit:FitP s rows)(hn:n∉s.Faulty)
 (ha:firstE ((List.range (roundsV s rows).length).map (rndE s (roundsV s rows)))=0) {t1:Int} (ht:t1∈stV s.Conf rows ((honV s)[0]?.getD 0) (allV s)) (h1:t1≤t) (h2:t<t1+s.Conf.Period)
 {d:GDeliver} {rest:List GDeliver} (hg:(atV rows t n).Got=d::rest) (hd:d.From∉s.Faulty) {r:GReport} (hr:r={atV rows t n with Got:=lngV d::rest}):
 d.Text.length≤16∧firstE ((List.range (roundsV s (trnV rows t n z r)).length).map (rndE s (roundsV s (trnV rows t n z r))))≠0:=by
 have hp:=plain_of (holds_zero h0)
 obtain⟨hN,hcl⟩:=N_in hp
 have hlz:=hfit.2 z (List.mem_of_getElem? (idx_bounds hz).2.2)
 have hnh:n∈honV s:=by
  have:=mem_hon (s:=s) (j:=n.toNat) (by omega)
  rw[show((n.toNat:Nat):Int)=n by omega]at this
  exact this.2 hn
 have hin:=stV_in hp ht
 generalize em:(honV s)[0]?.getD 0=m at*
 have ro: ∀rows',FitP s rows'→roundsV s rows'=(stV s.Conf rows' m (allV s)).map (rndV s rows' (honV s) m):=fun rows' hf=>by rw[rounds_fit h0 hf,em]
 have hst:stV s.Conf (trnV rows t n z r) m (allV s)=stV s.Conf rows m (allV s):=trn_st hz n0 n1 s.Conf (by rw[hr]) m (allV s)
 obtain⟨i,hi,ei⟩:=List.getElem_of_mem ht
 have g1:(roundsV s rows)[i]? =some (rndV s rows (honV s) m t1):=by rw[ro rows hfit,List.getElem?_map,zge hi,ei];rfl
 have hfit2:=trn_fit hz n0 n1 (r:=r) hfit
 have g2:(roundsV s (trnV rows t n z r))[i]? =some (rndV s (trnV rows t n z r) (honV s) m t1):=by rw[ro _ hfit2,hst,List.getElem?_map,zge hi,ei];rfl
 have f1:fitsV s (rndV s rows (honV s) m t1)=0:=by
  have:=firstE_zero ha (rndE s (roundsV s rows) i) (List.mem_map.2 ⟨i,List.mem_range.2 (List.getElem?_eq_some_iff.1 g1).1,rfl⟩)
  unfold rndE at this
  rw[g1]at this
  refine Classical.byContradiction fun hh=>hh ?_
  rw[Option.map_some,Option.getD_some,if_pos hh]at this
  exact this
 have e1:=fits_node f1 hnh
 rw[rnd_nodE hp hnh]at e1
 obtain⟨A,B,b1,b2⟩:=trn_got hz n0 n1 (r:=r) hin.1 h1 h2
 rw[b1,hg,List.cons_append]at e1
 have hR: ∀d last,msgV s (rndV s (trnV rows t n z r) (honV s) m t1) d last=msgV s (rndV s rows (honV s) m t1) d last:=fun d last=>by
  have en:(rndV s (trnV rows t n z r) (honV s) m t1).Number=(rndV s rows (honV s) m t1).Number:=by
   show(atV (trnV rows t n z r) t1 m).Number=(atV rows t1 m).Number
   rw[trn_at hz n0 n1]
   by_cases e:t1=t∧m=n
   ·rw[if_pos e,hr,e.1,e.2]
   ·rw[if_neg e]
  have el:(rndV s (trnV rows t n z r) (honV s) m t1).Lines=(rndV s rows (honV s) m t1).Lines:=rfl
  unfold msgV
  rw[en,el]
 unfold oneV at e1
 cases hl:nodL s (rndV s rows (honV s) m t1) (A++d::(rest++B)) (-1) []with
 |inl e=>rw[hl]at e1;exact absurd e1 (nodL_ne hl)
 |inr hs=>
  obtain⟨last,l1,l2⟩:=nodL_at hR A hl
  obtain⟨l3,l4⟩:=msg_longer l1 hd
  refine⟨l4,fun hh=> ?_⟩
  have:=firstE_zero hh (rndE s (roundsV s (trnV rows t n z r)) i) (List.mem_map.2 ⟨i,List.mem_range.2 (List.getElem?_eq_some_iff.1 g2).1,rfl⟩)
  unfold rndE at this
  rw[g2,Option.map_some,Option.getD_some]at this
  have f2:fitsV s (rndV s (trnV rows t n z r) (honV s) m t1)=0:=Classical.byContradiction fun h9=>by rw[if_pos h9]at this;exact h9 this
  have e2:=fits_node f2 hnh
  rw[rnd_nodE hp hnh,b2,hr]at e2
  simp only[List.cons_append]at e2
  unfold oneV at e2
  rw[hr]at l2
  rw[l2 (lngV d) (rest++B) l3]at e2
  exact l3 e2
def inB (l:List Int)(t P:Int):Bool:=l.any fun x=>decide (x≤t∧t<x+P)
theorem inB_iff {l:List Int}{t P:Int}:inB l t P=true↔∃x∈l,x≤t∧t<x+P:=by
 unfold inB
 simp only[List.any_eq_true,decide_eq_true_eq]
theorem in_loop (rows:Rows)(n t:Int)(s:GScript)(l:List Int)(v:GVerdict)(hl:l.length≤4096)(hp:plainV s.Conf=0)(hm: ∀x∈l,0≤x∧x≤4096):l39_JudgeTexts_0 rows n t s l v false 0=some (inB l t s.Conf.Period):=by
 have pp:=period_le hp
 refine loopO_at (f:=fun p:Bool×Int=>l39_JudgeTexts_0_step rows n t s l v p.1 p.2) (inv:=fun k=>(inB (l.take k) t s.Conf.Period,(k:Int))) l.length (by simp[inB]) (fun k hk=> ?_) ?_
 ·have hx:=hm l[k] (List.getElem_mem hk)
  have hg:=idx_get (zge hk)
  have up:inB (l.take (k+1)) t s.Conf.Period=(inB (l.take k) t s.Conf.Period||decide (l[k]≤t∧t<l[k]+s.Conf.Period)):=by
   rw[←List.take_append_getElem hk]
   unfold inB
   rw[List.any_append]
   simp
  simp only[l39_JudgeTexts_0_step]
  rw[if_pos (by omega),hg,zbs,zbs,wrI (n:=(k:Int)+1) rfl (by omega),wrI (n:=l[k]+s.Conf.Period) rfl (by omega),up]
  by_cases q1:inB (l.take k) t s.Conf.Period=true
  ·rw[if_pos q1,q1];rfl
  ·rw[if_neg q1,show inB (l.take k) t s.Conf.Period=false by simpa using q1,Bool.false_or]
   by_cases q2:l[k]≤t
   ·rw[if_pos q2,show decide (l[k]≤t∧t<l[k]+s.Conf.Period)=decide (t<l[k]+s.Conf.Period)from by simp[q2]];rfl
   ·rw[if_neg q2,decide_eq_false fun h=>q2 h.1];rfl
 ·simp only[l39_JudgeTexts_0_step]
  rw[if_neg (by omega),List.take_length]
theorem JudgeTexts_true (s:GScript)(rows:List (List GReport))(n t:Int)(hs:GScript.In s)(h1:SL rows∧∀z∈rows,SL z∧∀y∈z,GReport.In y)(h2:I64 n)(h3:I64 t):l39_JudgeTexts s rows n t=some true:=by
 unfold l39_JudgeTexts
 obtain⟨b,e,hf⟩:=jfew_eq s rows hs
 rw[e,zbs]
 cases b with
 |false=>rfl
 |true=>
  obtain⟨hS,hB,hR⟩:=hf rfl
  have hrn:=hR.n
  rw[if_neg (by simp),rholds_eq hS,zbs]
  by_cases h0:holdsV s≠0
  ·rw[if_pos h0];rfl
  rw[if_neg h0]
  have h0:=Classical.not_not.1 h0
  have hp:=plain_of (holds_zero h0)
  obtain⟨m,hm0⟩:=hon_of h0
  have ha:=allV_le hS hp
  by_cases q1:(rows.length:Int)≠(s.Ticks.length:Int)
  ·rw[if_pos q1];rfl
  rw[if_neg q1]
  by_cases q3:t<0
  ·rw[if_pos q3];rfl
  rw[if_neg q3]
  by_cases q4:(rows.length:Int)≤t
  ·rw[if_pos q4];rfl
  rw[if_neg q4,rfaulty_eq hS,zbs]
  by_cases q5:n∈s.Faulty
  ·rw[if_pos (by simpa using q5)];rfl
  rw[if_neg (by simpa using q5)]
  by_cases q6:n<0
  ·rw[if_pos q6];rfl
  rw[if_neg q6]
  obtain⟨z,hz,hz2,hm⟩:=idx_in (l:=rows) (i:=t) (by omega) (by omega)
  rw[hz,zbs]
  by_cases q7:(z.length:Int)≤n
  ·rw[if_pos q7];rfl
  have hx:=at_idx hz (by omega:0≤n) (by omega)
  have hg:=hR.g z hm (atV rows t n) (List.mem_of_getElem? (idx_bounds hx).2.2)
  rw[if_neg q7,zbs,hx,zbs]
  by_cases q8:((atV rows t n).Got.length:Int)=0
  ·rw[if_pos q8];rfl
  obtain⟨d,rest,hgot⟩: ∃d rest,(atV rows t n).Got=d::rest:=by
   cases hq:(atV rows t n).Got with
   |nil=>rw[hq]at q8;exact absurd rfl q8
   |cons d rest=>exact⟨d,rest,rfl⟩
  have est:stV s.Conf rows m (wr (lastV s+allC s.Conf))=stV s.Conf rows m (allV s):=by
   unfold stV;rw[show max (wr (lastV s+allC s.Conf)) 0=max (allV s) 0 by unfold allV;omega]
  have hsl:=stV_len s.Conf hp rows m (allV s)
  rw[if_neg q8,Judge_eq hS hB hR,zbs,rhonest_eq hS,zbs,show idx? (honV s) 0=some m from idx_get hm0,zbs,rAll_eq hS (holds_zero h0),zbs,
   rstarts_eq hS.conf hp (by omega) m _ (by have:=ha.2;unfold allV at this;omega),zbs,est,in_loop rows n t s _ _ (by omega) hp (fun x hx=>by have:=stV_in hp hx;omega),zbs,zbs,hx,zbs]
  by_cases q9:(judgeV s rows).Faults.a3≠0
  ·rw[if_pos q9];rfl
  rw[if_neg q9]
  have q9:=Classical.not_not.1 q9
  have hfit:FitP s rows:=Classical.byContradiction fun hh=>by rw[judge_unfit h0 hh]at q9;cases q9
  rw[judge_fits h0 hfit]at q9
  by_cases q10:(judgeV s rows).Faults.a0=2
  ·rw[if_pos q10];rfl
  rw[if_neg q10]
  by_cases q11:inB (stV s.Conf rows m (allV s)) t s.Conf.Period=true
  case neg=>rw[show inB (stV s.Conf rows m (allV s)) t s.Conf.Period=false by simpa using q11,if_pos (by simp)];rfl
  rw[q11,if_neg (by simp)]
  obtain⟨t1,u1,u2,u3⟩:=inB_iff.1 q11
  simp only[hgot]
  rw[show idx? (d::rest) 0=some d from idx_get rfl,zbs,rfaulty_eq hS,zbs]
  by_cases q12:d.From∈s.Faulty
  ·rw[if_pos (by simpa using q12)];rfl
  rw[if_neg (by simpa using q12)]
  have hlz:=hfit.2 z hm
  have hN:=(N_in hp).1
  have em:(honV s)[0]?.getD 0=m:=by rw[hm0];rfl
  have k0:0≤n:=by omega
  have k1:n<(z.length:Int):=by omega
  obtain⟨w1,w2⟩:=txt_turned h0 hz k0 k1 hfit q5 q9 (t1:=t1) (by rw[em];exact u1) u2 u3 hgot q12 (r:={atV rows t n with Got:=lngV d::rest}) rfl
  have hgl:(lngV d::rest).length≤1048576:=by rw[hgot]at hg;exact hg
  rw[List.length_cons]at hgl
  rw[if_pos (by simp only[List.length_nil,List.length_cons,lenMax];omega),if_pos (by simp only[List.nil_append,List.length_cons];omega)]
  rw[show(([]:List GDeliver)++d::rest)[Int.toNat 0]? =some d from rfl,zbs,if_pos (by simp only[List.length_cons,List.length_nil];omega)]
  rw[if_pos (by simp only[List.nil_append,List.length_cons];omega)]
  rw[show mod? (([]:List GDeliver)++d::rest) (Int.toNat 0) (fun w0=>GDeliver.mk w0.From w0.Slot w0.Cycle (d.Text++([120]:List UInt8)))=some (lngV d::rest)from rfl,zbs,sub_all _ _ rfl,zbs]
  generalize er:GReport.mk (atV rows t n).Pulse (atV rows t n).Sync (atV rows t n).Number (atV rows t n).Slot (atV rows t n).Members (atV rows t n).Sent (lngV d::rest)=r
  have e1:r.Got.length≤1048576:=by rw[←er];simp only[List.length_cons];omega
  have er2:({atV rows t n with Got:=lngV d::rest}:GReport)=r:=er
  rw[er2]at w2
  rw[turned_eq hrn (by omega) hz k0 k1,zbs,Judge_eq hS hB (trn_rin hz k0 k1 hR e1),zbs,judge_fits h0 (trn_fit hz k0 k1 hfit),if_pos w2]
  rfl
theorem JudgeTexts_law (l:List AV)(h:ArgsOf [([.i .i64,.i .i64,.i .i64,.i .i64,.i .i64,.i .i64,.i .i64,.i .i64,.i .i64,.i .i64,.l [.i .i64] false,.l [.i .i64] false,.l [.s] false,.l [.l [.i .i64] false,.l [.i .i64] false,.l [.i .i64,.i .i64,.i .i64,.s] true,.l [.i .i64,.s] true,.l [.i .i64,.i .i64,.i .i64,.s] true,.l [.i .i64,.s] true] true],true),([.l [.l [.b,.b,.i .i64,.i .i64,.s,.i .i64,.l [.i .i64,.i .i64,.i .i64,.s] true] true] false],false),([.i .i64],false),([.i .i64],false)] l):LM.call 6 l []=some (.bool true,[]):=by
 obtain⟨y0,_,rfl,p0,h⟩:=GScript.dec.arg h
 obtain⟨y1,_,rfl,p1,h⟩:=(Dec.list (Dec.list GReport.dec)).arg h
 obtain⟨y2,_,rfl,p2,h⟩:=Dec.i64.arg h
 obtain⟨y3,_,rfl,p3,h⟩:=Dec.i64.arg h
 obtain rfl:=Dec.end_ h
 obtain⟨q,e,rfl⟩:=(l39_JudgeTexts_sim y0 y1 y2 y3).h true (JudgeTexts_true y0 y1 y2 y3 p0 p1 p2 p3)
 exact e
end Go.Proofs.YtaoijbibmcgdaaaGreat
