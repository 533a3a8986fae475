/-
  What the rows' arguments are known to be.
-/
import Derived.Test.YtaoijbibmcgdaaaGreatPa
import Derived.Test.YtaoijbibmcgdaaaGreatDb
set_option linter.unusedVariables false
set_option linter.unusedSimpArgs false
namespace Go.Proofs.YtaoijbibmcgdaaaGreat
noncomputable section
open Go.Proofs.PF
open Classical in
theorem kF {β:Type}{f:Int→Option (Int⊕(β⊕Unit))}(L:Int)(p:Int→Prop)(b:β)(he: ∀t,L≤t→f t=some (.inr (.inr ()))): ∀(m:Nat) (a:Int),(L-a).toNat=m→
 (∀t,a≤t→t<L→f t=some (if p t then .inl (t+1)else .inr (.inl b)))→Ai f a=some (if∀t,a≤t→t<L→p t then .inr ()else .inl b):=by
 intro m
 induction m with
 |zero=>
  intro a ha h
  rw[Av (he a (by omega)),if_pos fun t h1 h2=>absurd h1 (by omega)]
 |succ m ih=>
  intro a ha h
  have h1:=h a (Int.le_refl _) (by omega)
  by_cases hp:p a
  ·rw[if_pos hp]at h1
   rw[A5 h1,ih (a+1) (by omega) fun t h1 h2=>h t (by omega) h2]
   by_cases hq: ∀t,a+1≤t→t<L→p t
   ·rw[if_pos hq,if_pos fun t h1 h2=>if e:t=a then e▸hp else hq t (by omega) h2]
   ·rw[if_neg hq,if_neg fun hh=>hq fun t h1 h2=>hh t (by omega) h2]
  ·rw[if_neg hp]at h1
   rw[Av h1,if_neg fun hh=>hp (hh a (Int.le_refl _) (by omega))]
def E8 (e:Int→Int):Int→Nat→Int
 |_,0=>0
 |a,m+1=>if e a≠0 then e a else E8 e (a+1) m
theorem Mq {f:Int→Option (Int⊕(Int⊕Unit))}(L:Int)(e:Int→Int)(he: ∀t,L≤t→f t=some (.inr (.inr ()))): ∀(m:Nat) (a:Int),(L-a).toNat=m→
 (∀t,a≤t→t<L→f t=some (if e t≠0 then .inr (.inl (e t))else .inl (t+1)))→Ai f a=some (if E8 e a m≠0 then .inl (E8 e a m)else .inr ()):=by
 intro m
 induction m with
 |zero=>intro a ha h;rw[Av (he a (by omega))];simp[E8]
 |succ m ih=>
  intro a ha h
  have h1:=h a (Int.le_refl _) (by omega)
  by_cases hp:e a≠0
  ·rw[if_pos hp]at h1
   rw[Av h1]
   simp only[E8,if_pos hp]
  ·rw[if_neg hp]at h1
   rw[A5 h1,ih (a+1) (by omega) fun t h1 h2=>h t (by omega) h2]
   simp only[E8,if_neg hp]
theorem Kj {x:Option (Int⊕Unit)}{v:Int}(h:x=some (if v≠0 then .inl v else .inr ())):(x.bind fun r=>Sum.elim (fun r3=>some r3) (fun _=>some 0) r)=some v:=by
 rw[h]
 by_cases hv:v≠0
 ·rw[if_pos hv];rfl
 ·rw[if_neg hv];rw[Classical.not_not.1 hv];rfl
def hO (rows:Rows)(l:List Int)(n0 t:Int):Prop:= ∀n∈l,(atV rows t n).Pulse=(atV rows t n0).Pulse
instance (rows :Rows)(l:List Int)(n0 t:Int):Decidable (hO rows l n0 t):=by unfold hO;infer_instance
theorem Aeu {rows:Rows}{l:List Int}(hl:l.length≤1000){n0:Int}(h0:l[0]? =some n0)(t:Int):Ov rows l t=some (decide (hO rows l n0 t)):=by
 have z:idx? l 0=some n0:=Ak h0
 refine Fz (fun p=>Eg rows l t l (l.length:Int) p) l (fun n=>(atV rows t n).Pulse=(atV rows t n0).Pulse) (fun k x hk hx=> ?_) ?_
 ·simp only[Eg]
  rw[if_pos (by omega),Ak hx,zbs,jQ,zbs,z,zbs,jQ,zbs,wrI rfl (by omega)]
  by_cases h:(atV rows t x).Pulse=(atV rows t n0).Pulse<;>simp[h]
 ·simp only[Eg];rw[if_neg (by omega)]
theorem yH {rows:Rows}{l:List Int}(hl:l.length≤1000){n0:Int}(h0:l[0]? =some n0)(t:Int):Vw rows l t=some (decide (hO rows l n0 t)):=by
 have z:idx? l 0=some n0:=Ak h0
 refine Fz (fun p=>Gy rows l t p) l (fun n=>(atV rows t n).Pulse=(atV rows t n0).Pulse) (fun k x hk hx=> ?_) ?_
 ·simp only[Gy]
  rw[if_pos (by omega),Ak hx,zbs,Ww,zbs,z,zbs,Ww,zbs,wrI rfl (by omega)]
  by_cases h:(atV rows t x).Pulse=(atV rows t n0).Pulse<;>simp[h]
 ·simp only[Gy];rw[if_neg (by omega)]
def Ac8 (rows:Rows)(l:List Int)(n0 f:Int):Prop:= ∀t,f≤t→t<(rows.length:Int)→hO rows l n0 t
open Classical in
theorem yP {rows:Rows}(hr:rows.length≤100000000){l:List Int}(hl:l.length≤1000){n0:Int}(h0:l[0]? =some n0){f:Int}(hf:0≤f):K9 rows l f=some (decide (Ac8 rows l n0 f)):=by
 unfold K9 Lx
 rw[kF (f:=fun s=>Ei rows l s) (rows.length:Int) (hO rows l n0) false (fun t ht=>by simp only[Ei];rw[if_neg (by omega)]) _ f rfl (fun t h1 h2=>by
  simp only[Ei]
  rw[if_pos h2,Aeu hl h0,zbs,wrI rfl (by omega),notb]
  by_cases h:hO rows l n0 t<;>simp[h])]
 by_cases h:Ac8 rows l n0 f
 ·rw[if_pos (show∀t,f≤t→t<(rows.length:Int)→hO rows l n0 t from h),decide_eq_true h];rfl
 ·rw[if_neg (show¬∀t,f≤t→t<(rows.length:Int)→hO rows l n0 t from h),decide_eq_false h];rfl
open Classical in
theorem uW {rows:Rows}(hr:rows.length≤100000000){l:List Int}(hl:l.length≤1000){n0:Int}(h0:l[0]? =some n0){f:Int}(hf:0≤f)(c:Ab)(x:Int):Ll rows l c x f=some (if Ac8 rows l n0 f then .inr ()else .inl 7):=by
 unfold Ll
 rw[kF (f:=fun s=>Gk rows l c x s) (rows.length:Int) (hO rows l n0) (7:Int) (fun t ht=>by simp only[Gk];rw[if_neg (by omega)]) _ f rfl (fun t h1 h2=>by
  simp only[Gk]
  rw[if_pos h2,yH hl h0,zbs,wrI rfl (by omega),notb]
  by_cases h:hO rows l n0 t<;>simp[h])]
 rfl
def dU (rows:Rows)(n t:Int):Nat→Int
 |0=> -1
 |k+1=>if(atV rows (k:Int) n).Pulse then t-(k:Int)else dU rows n t k
def Jh (rows:Rows)(n t:Int):Int:=if(rows.length:Int)≤t then-1 else dU rows n t (t+1).toNat
theorem Abx {rows:Rows}(hr:rows.length≤100000000)(n:Int){t:Int}(ht:0≤t):Tt rows n t=some (Jh rows n t):=by
 unfold Tt Jh
 by_cases h1:(rows.length:Int)≤t
 ·rw[if_pos h1,if_pos h1]
 rw[if_neg h1,if_neg h1]
 have key: ∀k:Nat,(k:Int)≤t+1→Ai (fun s=>Fn rows n t s) ((k:Int)-1)=some (if dU rows n t k= -1 then .inr ()else .inl (dU rows n t k)):=by
  intro k
  induction k with
  |zero=>intro _;exact Av (by simp only[Fn];rw[if_neg (by omega)];rfl)
  |succ k ih=>
   intro hk
   rw[show((k+1:Nat):Int)-1=(k:Int) by omega]
   by_cases hp:(atV rows (k:Int) n).Pulse=true
   ·rw[Av (by simp only[Fn];rw[if_pos (by omega),Ww,zbs,if_pos hp,wrI rfl (by omega)])]
    simp only[dU,if_pos hp]
    rw[if_neg (by omega)]
   ·rw[A5 (by simp only[Fn];rw[if_pos (by omega),Ww,zbs,if_neg hp,wrI rfl (by omega)]),ih (by omega)]
    simp only[dU,if_neg hp]
 have:=key (t+1).toNat (by omega)
 rw[show(((t+1).toNat:Nat):Int)-1=t by omega]at this
 unfold Sr
 rw[this,zbs]
 by_cases h2:dU rows n t (t+1).toNat= -1
 ·rw[if_pos h2,h2];rfl
 ·rw[if_neg h2];rfl
theorem Alu {rows:Rows}(hr:rows.length≤100000000)(n:Int){t:Int}(ht:0≤t):Nq rows n t=some (Jh rows n t):=by
 unfold Nq Jh
 by_cases h1:(rows.length:Int)≤t
 ·rw[if_pos h1,if_pos h1]
 rw[if_neg h1,if_neg h1]
 have key: ∀k:Nat,(k:Int)≤t+1→∃v,Ai (fun s=>D0 rows n t s) (t+1-(k:Int))=some v∧0≤v∧v≤t+1∧(if t-v<0 then-1 else v)=dU rows n t k:=by
  intro k
  induction k with
  |zero=>
   intro _
   refine⟨t+1,Av (by simp only[D0];rw[wrI (m:= -1) (by omega) (by omega),if_neg (by omega)];congr 2;omega),by omega,by omega,?_⟩
   rw[if_pos (by omega)];rfl
  |succ k ih=>
   intro hk
   have e:wr (t-(t+1-((k+1:Nat):Int)))=(k:Int):=wrI (by omega) (by omega)
   by_cases hp:(atV rows (k:Int) n).Pulse=true
   ·refine⟨t-(k:Int),Av (by simp only[D0];rw[e,if_pos (by omega),jQ,zbs,if_pos hp];congr 2;omega),by omega,by omega,?_⟩
    simp only[dU,if_pos hp]
    rw[if_neg (by omega)]
   ·obtain⟨v,h1,h2⟩:=ih (by omega)
    refine⟨v,?_,?_⟩
    ·rw[A5 (by simp only[D0];rw[e,if_pos (by omega),jQ,zbs,if_neg hp,wrI (m:=t+1-(k:Int)) (by omega) (by omega)]),h1]
    ·simp only[dU,if_neg hp];exact h2
 obtain⟨v,h2,h3,h4,h5⟩:=key (t+1).toNat (by omega)
 rw[show t+1-(((t+1).toNat:Nat):Int)=0 by omega]at h2
 unfold Nn
 rw[h2,zbs,wrI (m:=t-v) rfl (by omega),←h5]
 split<;>rfl
def lM (N:Int)(rows:Rows):Prop:=rows.length≤100000000∧∀l∈rows,(l.length:Int)=N
theorem Ji {N:Int}{rows:Rows}(hf:lM N rows){t n:Int}(h0:0≤t)(h1:t<(rows.length:Int))(h2:0≤n)(h3:n<N): ∃z,idx? rows t=some z∧idx? z n=some (atV rows t n):=by
 obtain⟨z,hz,hz2,hm⟩:=Gd h0 h1
 obtain⟨r,hr,hr2,-⟩:=Gd (l:=z) h2 (by rw[hf.2 z hm];exact h3)
 refine⟨z,hz,?_⟩
 rw[hr]
 unfold atV
 rw[if_neg (by omega),if_neg (by omega),hz2,zbs,hr2];rfl
theorem fW {α γ:Type}(f:Int×γ→Option ((Int×γ)⊕((Bool×γ)⊕γ)))(c:γ)(l:List α)(p:α→Prop) [DecidablePred p]
 (h: ∀(k:Nat) x,k<l.length→l[k]? =some x→f ((k:Int),c)=some (if p x then .inr (.inl (true,c))else .inl ((k:Int)+1,c))) (he:f ((l.length:Int),c)=some (.inr (.inr c))):
 ((Ai f (0,c)).bind fun r=>Sum.elim (fun r3=>some (r3.1,r3.2)) (fun r4=>some (false,r4)) r)=some (decide (∃x∈l,p x),c):=by
 have: ∀m k:Nat,k+m=l.length→Ai f ((k:Int),c)=some (if∃x∈l.drop k,p x then .inl (true,c)else .inr c):=by
  intro m
  induction m with
  |zero=>
   intro k hk
   obtain rfl:k=l.length:=by omega
   rw[Av he,List.drop_length,if_neg (by simp)]
  |succ m ih=>
   intro k hk
   have hlt:k<l.length:=by omega
   have h1:=h k l[k] hlt (zge hlt)
   rw[List.drop_eq_getElem_cons hlt]
   by_cases hp:p l[k]
   ·rw[if_pos hp]at h1
    rw[Av h1,if_pos ⟨_,List.mem_cons_self ..,hp⟩]
   ·rw[if_neg hp]at h1
    rw[A5 h1,show((k:Int)+1)=((k+1:Nat):Int) by omega,ih (k+1) (by omega)]
    simp only[List.mem_cons,exists_eq_or_imp,hp,false_or]
 have:=this l.length 0 (by omega)
 rw[show((0:Nat):Int)=0 from rfl,List.drop_zero]at this
 rw[this]
 by_cases hp: ∃x∈l,p x
 ·rw[if_pos hp,decide_eq_true hp];rfl
 ·rw[if_neg hp,decide_eq_false hp];rfl
def kQ (m:List UInt8)(n:Int):Bool:=(Jw m n).getD false
theorem gW (m:List UInt8)(n:Int):Jw m n=some (kQ m n):=by
 have: ∃b,Jw m n=some b:=by
  unfold Jw
  split
  ·split
   ·obtain⟨x,hx,-,-⟩:=Gd (l:=m) (i:=n) (by omega) (by omega)
    rw[hx];exact⟨_,rfl⟩
   ·exact⟨_,rfl⟩
  ·exact⟨_,rfl⟩
 obtain⟨b,hb⟩:=this
 unfold kQ
 rw[hb];rfl
theorem tQ (m:List UInt8)(n:Int):cF m n=some (kQ m n):=by
 have e:Y7 m n=Jw m n:=rfl
 unfold cF
 rw[e,gW];rfl
def qD (rows:Rows)(l:List Int)(n0 t:Int):Int:=
 if∃n∈l,(atV rows t n).Members≠(atV rows t n0).Members then 7 else if∃n∈l,kQ (atV rows t n0).Members n=false then 12 else 0
section
variable {N:Int} {rows:Rows} (hf:lM N rows) {l:List Int} (hl:l.length≤1000) (hin: ∀n∈l,0≤n∧n<N) {n0:Int} (h0:l[0]? =some n0)
include hf hl hin h0
theorem zA (s:Aa)(a:Int){t:Int}(t0:0≤t)(t1:t<(rows.length:Int)):G6 (Ad.mk s l rows a) t=some (qD rows l n0 t):=by
 have z0:idx? l 0=some n0:=Ak h0
 have i0:=hin n0 (List.mem_of_getElem? h0)
 obtain⟨z,hz,hz2⟩:=Ji hf t0 t1 i0.1 i0.2
 unfold G6 Bl
 rw[hz,zbs,z0,zbs,zbs,hz2,zbs]
 have e1:K0 (Ad.mk s l rows a) t (atV rows t n0).Members=some (decide (∃n∈l,(atV rows t n).Members≠(atV rows t n0).Members),(atV rows t n0).Members):=by
  refine fW (fun p=>Dh t (Ad.mk s l rows a) l (l.length:Int) p.1 p.2) _ l (fun n=>(atV rows t n).Members≠(atV rows t n0).Members) (fun k x hk hx=> ?_) ?_
  ·have ix:=hin x (List.mem_of_getElem? hx)
   obtain⟨y,hy,hy2⟩:=Ji hf t0 t1 ix.1 ix.2
   simp only[Dh,Ho]
   rw[if_pos (by omega),Ak hx,zbs,hy,zbs,hy2,zbs,zbs,wrI rfl (by omega)]
   by_cases h:(atV rows t x).Members≠(atV rows t n0).Members<;>simp[h]
  ·simp only[Dh];rw[if_neg (by omega)]
 have e2:Kn (Ad.mk s l rows a) t (atV rows t n0).Members=some (decide (∃n∈l,kQ (atV rows t n0).Members n=false),(atV rows t n0).Members):=by
  refine fW (fun p=>Dl t (Ad.mk s l rows a) l (l.length:Int) p.1 p.2) _ l (fun n=>kQ (atV rows t n0).Members n=false) (fun k x hk hx=> ?_) ?_
  ·have ix:=hin x (List.mem_of_getElem? hx)
   obtain⟨y,hy,hy2⟩:=Ji hf t0 t1 ix.1 ix.2
   simp only[Dl,Hk]
   rw[if_pos (by omega),Ak hx,zbs,hy,zbs,hy2,zbs,gW,zbs,zbs,wrI rfl (by omega)]
   cases h:kQ (atV rows t n0).Members x<;>simp[h]
  ·simp only[Dl];rw[if_neg (by omega)]
 rw[e1,zbs]
 simp only[e2,zbs,decide_eq_true_eq]
 unfold qD
 split
 ·rfl
 ·split<;>rfl
theorem oX (s:Aa){a:Int}(ha:0≤a)(x:Ad)(hx:x.f_rows=rows)(hx2:x.f_all=a):Jl x (Ad.mk s l rows a)=some (E8 (qD rows l n0) a ((rows.length:Int)-a).toNat):=by
 obtain⟨xs,xl,xr,xa⟩:=x
 simp only at hx hx2
 subst hx hx2
 have hr:=hf.1
 refine Kj (Mq (f:=fun p=>C8 (Ad.mk s l xr xa) (Ad.mk xs xl xr xa) p) (xr.length:Int) (qD xr l n0) (fun t ht=>by simp only[C8];rw[if_neg (by omega)]) _ xa rfl fun t h1 h2=> ?_)
 simp only[C8]
 rw[if_pos (by omega),zA hf hl hin h0 s xa (by omega) h2,zbs,wrI rfl (by omega)]
 split<;>rfl
theorem uV {a:Int}(ha:0≤a):((Pd rows l a).bind fun r9=>Sum.elim (fun r10=>some r10) (fun r11=>some 0) r9)=some (E8 (qD rows l n0) a ((rows.length:Int)-a).toNat):=by
 have hr:=hf.1
 have z0:idx? l 0=some n0:=Ak h0
 have i0:=hin n0 (List.mem_of_getElem? h0)
 refine Kj (Mq (f:=fun p=>Gc rows l p) (rows.length:Int) (qD rows l n0) (fun t ht=>by simp only[Gc];rw[if_neg (by omega)]) _ a rfl fun t h1 h2=> ?_)
 obtain⟨z,hz,hz2⟩:=Ji hf (by omega) h2 i0.1 i0.2
 have e1:Oy rows l t (atV rows t n0).Members l (l.length:Int) 0=some (if∃n∈l,(atV rows t n).Members≠(atV rows t n0).Members then .inl 7 else .inr ()):=by
  refine Dt (f:=fun p=>F1 rows l t (atV rows t n0).Members l (l.length:Int) p) l (fun n=>(atV rows t n).Members≠(atV rows t n0).Members) 7 (fun k x hk hx=> ?_) ?_ |>.trans ?_
  ·have ix:=hin x (List.mem_of_getElem? hx)
   obtain⟨y,hy,hy2⟩:=Ji hf (by omega) h2 ix.1 ix.2
   simp only[F1]
   rw[if_pos (by omega),Ak hx,zbs,hy,zbs,hy2,zbs,wrI rfl (by omega)]
   split<;>rfl
  ·simp only[F1];rw[if_neg (by omega)]
  ·congr 1;split<;>rfl
 have e2:O0 rows l t (atV rows t n0).Members l (l.length:Int) 0=some (if∃n∈l,kQ (atV rows t n0).Members n=false then .inl 12 else .inr ()):=by
  refine Dt (f:=fun p=>Fx rows l t (atV rows t n0).Members l (l.length:Int) p) l (fun n=>kQ (atV rows t n0).Members n=false) 12 (fun k x hk hx=> ?_) ?_ |>.trans ?_
  ·simp only[Fx]
   rw[if_pos (by omega),Ak hx,zbs,tQ,zbs,wrI rfl (by omega)]
   cases h:kQ (atV rows t n0).Members x<;>simp[h]
  ·simp only[Fx];rw[if_neg (by omega)]
  ·congr 1;split<;>rfl
 simp only[Gc]
 rw[if_pos h2,hz,zbs,z0,zbs,hz2,zbs,e1,zbs,e2,zbs,wrI rfl (by omega)]
 unfold qD
 by_cases q1: ∃n∈l,(atV rows t n).Members≠(atV rows t n0).Members
 ·rw[if_pos q1,if_pos q1];rfl
 ·rw[if_neg q1,if_neg q1]
  by_cases q2: ∃n∈l,kQ (atV rows t n0).Members n=false
  ·rw[if_pos q2,if_pos q2];rfl
  ·rw[if_neg q2,if_neg q2];rfl
end
def tA (n m:Int):Int:=if m<1 then 0 else if Int.tmod n m<0 then wr (Int.tmod n m+m)else Int.tmod n m
theorem T2 (n m:Int):Jp n m=some (tA n m):=by
 unfold Jp tA
 by_cases h:m<1
 ·rw[if_pos h,if_pos h]
 ·rw[if_neg h,if_neg h,if_neg (by omega)]
  split<;>rfl
theorem Xz (n m:Int):Kr n m=some (tA n m):=T2 n m
def Alj (c:Ab)(n:Int):Int:=tA (wr (tA n c.Mod+1)) c.Mod
theorem Apl {c:Ab}(hc:CIn c)(hp:Bh c=0)(n:Int):Pq c n []=some (Alj c n):=by
 unfold Pq Lq I1
 rw[Ch c hc,zbs,if_neg (by simp[hp]),if_neg (by simp),zbs,T2,zbs,T2];rfl
theorem Aja {c:Ab}(hc:CIn c)(hp:Bh c=0)(n:Int):Xl c n []=some (Alj c n):=by
 unfold Xl
 rw[Ce c hc,zbs,if_neg (by simp[hp]),if_neg (by simp),Xz,zbs,Xz];rfl
def Auo (rows:Rows)(n0:Int)(c:Ab)(t:Int):Int:=
 if(atV rows t n0).Pulse=true then(if(atV rows t n0).Number≠Alj c (atV rows (t-1) n0).Number then 16 else 0)else if(atV rows t n0).Number≠(atV rows (t-1) n0).Number then 16 else 0
def oZ (rows:Rows)(l:List Int)(n0:Int)(c:Ab)(a t:Int):Int:=
 if∃n∈l,(atV rows t n).Sync=false then 14 else if∃n∈l,(atV rows t n).Number≠(atV rows t n0).Number then 7 else if t=a then 0 else Auo rows n0 c t
section
variable {N:Int} {rows:Rows} (hf:lM N rows) {l:List Int} (hl:l.length≤1000) (hin: ∀n∈l,0≤n∧n<N) {n0:Int} (h0:l[0]? =some n0) {s:Aa} (hc:CIn s.Conf) (hp:Bh s.Conf=0)
include hf hl hin h0 hc hp
theorem Abo {a:Int}(ha:0≤a){t:Int}(t0:a≤t)(t1:t<(rows.length:Int)):H4 (Ad.mk s l rows a) t=some (oZ rows l n0 s.Conf a t):=by
 have hr:=hf.1
 have z0:idx? l 0=some n0:=Ak h0
 have i0:=hin n0 (List.mem_of_getElem? h0)
 obtain⟨z,hz,hz2⟩:=Ji hf (by omega) t1 i0.1 i0.2
 have e1:Lg (Ad.mk s l rows a) t=some (decide (∃n∈l,(atV rows t n).Sync=false)):=by
  have L:=Dt (f:=fun p=>Eh t (Ad.mk s l rows a) l (l.length:Int) p) l (fun n=>(atV rows t n).Sync=false) true (fun k x hk hx=>by
   have ix:=hin x (List.mem_of_getElem? hx)
   obtain⟨y,hy,hy2⟩:=Ji hf (show 0≤t by omega) t1 ix.1 ix.2
   simp only[Eh,Im]
   rw[if_pos (by omega),Ak hx,zbs,hy,zbs,hy2,zbs,zbs,wrI rfl (by omega)]
   cases h:(atV rows t x).Sync<;>simp[h]) (by simp only[Eh];rw[if_neg (by omega)])
  unfold Lg Ls
  rw[L]
  by_cases h: ∃n∈l,(atV rows t n).Sync=false
  ·rw[if_pos h,decide_eq_true h];rfl
  ·rw[if_neg h,decide_eq_false h];rfl
 have e2:Ks (Ad.mk s l rows a) t (atV rows t n0)=some (decide (∃n∈l,(atV rows t n).Number≠(atV rows t n0).Number),atV rows t n0):=by
  refine fW (fun p=>Df t (Ad.mk s l rows a) l (l.length:Int) p.1 p.2) _ l (fun n=>(atV rows t n).Number≠(atV rows t n0).Number) (fun k x hk hx=> ?_) ?_
  ·have ix:=hin x (List.mem_of_getElem? hx)
   obtain⟨y,hy,hy2⟩:=Ji hf (show 0≤t by omega) t1 ix.1 ix.2
   simp only[Df,Ie]
   rw[if_pos (by omega),Ak hx,zbs,hy,zbs,hy2,zbs,zbs,wrI rfl (by omega)]
   by_cases h:(atV rows t x).Number≠(atV rows t n0).Number<;>simp[h]
  ·simp only[Df];rw[if_neg (by omega)]
 unfold H4 Bl
 rw[hz,zbs,z0,zbs,zbs,hz2,zbs,e1,zbs]
 unfold oZ
 by_cases q1: ∃n∈l,(atV rows t n).Sync=false
 ·rw[if_pos (decide_eq_true q1),if_pos q1]
 rw[if_neg (by simpa using q1),if_neg q1,e2,zbs]
 by_cases q2: ∃n∈l,(atV rows t n).Number≠(atV rows t n0).Number
 ·rw[if_pos (decide_eq_true q2),if_pos q2]
 rw[if_neg (by simpa using q2),if_neg q2]
 by_cases q3:t=a
 ·rw[if_pos q3,if_pos q3]
 obtain⟨y,hy,hy2⟩:=Ji hf (show 0≤t-1 by omega) (by omega) i0.1 i0.2
 rw[if_neg q3,if_neg q3,wrI (m:=t-1) rfl (by omega),hy,zbs,zbs,hy2,zbs]
 simp only[Apl hc hp,zbs]
 unfold Auo
 split<;>split<;>rfl
theorem pI {a:Int}(ha:0≤a):M5 (Ad.mk s l rows a) (Ad.mk s l rows a)=some (E8 (oZ rows l n0 s.Conf a) a ((rows.length:Int)-a).toNat):=by
 have hr:=hf.1
 refine Kj (Mq (f:=fun p=>D8 (Ad.mk s l rows a) (Ad.mk s l rows a) p) (rows.length:Int) (oZ rows l n0 s.Conf a) (fun t ht=>by simp only[D8];rw[if_neg (by omega)]) _ a rfl fun t h1 h2=> ?_)
 simp only[D8]
 rw[if_pos (by omega),Abo hf hl hin h0 hc hp ha h1 h2,zbs,wrI rfl (by omega)]
 split<;>rfl
theorem rV {a:Int}(ha:0≤a):((Ox rows l s a n0 a).bind fun r9=>Sum.elim (fun r10=>some r10) (fun r11=>some 0) r9)=some (E8 (oZ rows l n0 s.Conf a) a ((rows.length:Int)-a).toNat):=by
 have hr:=hf.1
 have i0:=hin n0 (List.mem_of_getElem? h0)
 refine Kj (Mq (f:=fun p=>Gf rows l s a n0 p) (rows.length:Int) (oZ rows l n0 s.Conf a) (fun t ht=>by simp only[Gf];rw[if_neg (by omega)]) _ a rfl fun t h1 h2=> ?_)
 obtain⟨z,hz,hz2⟩:=Ji hf (show 0≤t by omega) h2 i0.1 i0.2
 have e1:O4 rows l s a n0 t l (l.length:Int) 0=some (if∃n∈l,(atV rows t n).Sync=false then .inl 14 else .inr ()):=by
  refine Dt (f:=fun p=>Fv rows l s a n0 t l (l.length:Int) p) l (fun n=>(atV rows t n).Sync=false) 14 (fun k x hk hx=> ?_) ?_ |>.trans ?_
  ·have ix:=hin x (List.mem_of_getElem? hx)
   obtain⟨y,hy,hy2⟩:=Ji hf (show 0≤t by omega) h2 ix.1 ix.2
   simp only[Fv]
   rw[if_pos (by omega),Ak hx,zbs,hy,zbs,hy2,zbs,wrI rfl (by omega)]
   cases h:(atV rows t x).Sync<;>simp[h]
  ·simp only[Fv];rw[if_neg (by omega)]
  ·congr 1;split<;>rfl
 have e2:Ou rows l s a n0 t l (l.length:Int) 0=some (if∃n∈l,(atV rows t n).Number≠(atV rows t n0).Number then .inl 7 else .inr ()):=by
  refine Dt (f:=fun p=>Ft rows l s a n0 t l (l.length:Int) p) l (fun n=>(atV rows t n).Number≠(atV rows t n0).Number) 7 (fun k x hk hx=> ?_) ?_ |>.trans ?_
  ·have ix:=hin x (List.mem_of_getElem? hx)
   obtain⟨y,hy,hy2⟩:=Ji hf (show 0≤t by omega) h2 ix.1 ix.2
   have ey:y=z:=by rw[hz]at hy;injection hy with hy;exact hy.symm
   subst ey
   simp only[Ft]
   rw[if_pos (by omega),Ak hx,zbs,hz,zbs,hy2,zbs,zbs,hz2,zbs,wrI rfl (by omega)]
   split<;>rfl
  ·simp only[Ft];rw[if_neg (by omega)]
  ·congr 1;split<;>rfl
 simp only[Gf]
 rw[if_pos h2,e1,zbs,e2,zbs,wrI (n:=t+1) rfl (by omega)]
 unfold oZ
 by_cases q1: ∃n∈l,(atV rows t n).Sync=false
 ·rw[if_pos q1,if_pos q1];rfl
 rw[if_neg q1,if_neg q1]
 by_cases q2: ∃n∈l,(atV rows t n).Number≠(atV rows t n0).Number
 ·rw[if_pos q2,if_pos q2];rfl
 rw[if_neg q2,if_neg q2]
 by_cases q3:t=a
 ·simp only[Sum.elim_inr,if_pos q3];rfl
 obtain⟨y,hy,hy2⟩:=Ji hf (show 0≤t-1 by omega) (by omega) i0.1 i0.2
 simp only[Sum.elim_inr,if_neg q3]
 rw[wrI (m:=t-1) rfl (by omega)]
 simp only[hy,hy2,hz,hz2,zbs,Aja hc hp]
 unfold Auo
 by_cases q4:(atV rows t n0).Pulse=true
 ·simp only[if_pos q4]
  split<;>rfl
 ·simp only[if_neg q4]
  split<;>rfl
end
def lU (s:Aa)(rows:Rows):Prop:=(rows.length:Int)=(s.Ticks.length:Int)∧∀l∈rows,(l.length:Int)=s.Conf.N
instance (s :Aa)(rows:Rows):Decidable (lU s rows):=by unfold lU;infer_instance
theorem Abi {s:Aa}{rows:Rows}(hr:rows.length≤100000000):Tl s rows=some (decide (lU s rows)):=by
 unfold Tl
 by_cases h1:(rows.length:Int)≠(s.Ticks.length:Int)
 ·rw[if_pos h1,decide_eq_false fun h=>h1 h.1]
 rw[if_neg h1]
 have L:=Dt (f:=fun p=>Iv rows s p) rows (fun l=>(l.length:Int)≠s.Conf.N) false (fun k x hk hx=>by
  simp only[Iv]
  rw[if_pos (by omega),Ak hx,zbs,wrI rfl (by omega)]
  split<;>rfl) (by simp only[Iv];rw[if_neg (by omega)])
 unfold Vq
 rw[L]
 by_cases h: ∃l∈rows,(l.length:Int)≠s.Conf.N
 ·rw[if_pos h,decide_eq_false (by rintro⟨_,h2⟩;obtain⟨l,hl,hn⟩:=h;exact hn (h2 l hl))];rfl
 ·rw[if_neg h,decide_eq_true ⟨Classical.not_not.1 h1,fun l hl=>Classical.byContradiction fun hn=>h ⟨l,hl,hn⟩⟩];rfl
def Kb (s:Aa):Int:=max 0 (wr (K1 s+dT s.Conf))
def An8 :Ad:=Ad.mk (Aa.mk (Ab.mk 0 0 0 0 0 0 0 0 0 0 []) [] [] []) [] [] 0
theorem L7 {s:Aa}(h:Ew s=0):E6 s=0:=by
 unfold Ew at h
 by_cases h1:E6 s≠0
 ·rw[if_pos h1]at h;exact absurd h h1
 ·exact Classical.not_not.1 h1
theorem Apn {s:Aa}(h:SIn s){rows:Rows}(hr:rows.length≤100000000):
 Rc s rows=some (if Ew s≠0 then(An8,Ew s)else if lU s rows then(Ad.mk s (Bc s) rows (Kb s),0)else(An8,2)):=by
 unfold Rc
 rw[Aha h,zbs]
 by_cases h0:Ew s≠0
 ·rw[if_pos h0,if_pos h0];rfl
 rw[if_neg h0,if_neg h0]
 have hz:=L7 (Classical.not_not.1 h0)
 by_cases h1:(rows.length:Int)≠(s.Ticks.length:Int)
 ·rw[if_pos h1,if_neg fun hh=>h1 hh.1];rfl
 rw[if_neg h1]
 have L:=Dt (f:=fun p=>G5 rows s rows (rows.length:Int) An8 p) rows (fun l=>(l.length:Int)≠s.Conf.N) ((2:Int),An8) (fun k x hk hx=>by
  simp only[G5]
  rw[if_pos (by omega),Ak hx,zbs,wrI rfl (by omega)]
  split<;>rfl) (by simp only[G5];rw[if_neg (by omega)])
 rw[show Q1 rows s rows (rows.length:Int) (Ad.mk (Aa.mk (Ab.mk 0 0 0 0 0 0 0 0 0 0 ([]:List Int)) ([]:List Int) ([]:List (List UInt8)) ([]:List Am)) ([]:List Int) ([]:List (List Ac)) 0) 0=_ from L]
 by_cases hq: ∃l∈rows,(l.length:Int)≠s.Conf.N
 ·rw[if_pos hq,if_neg (by rintro⟨_,h2⟩;obtain⟨l,hl,hn⟩:=hq;exact hn (h2 l hl))];rfl
 ·rw[if_neg hq,if_pos ⟨Classical.not_not.1 h1,fun l hl=>Classical.byContradiction fun hn=>hq ⟨l,hl,hn⟩⟩,zbs]
  simp only[Sum.elim_inr,mG h,zW h hz,zbs]
  rfl
theorem Uv {α σ:Type}{f:σ×Int→Option ((σ×Int)⊕σ)}(l:List α)(g:σ→α→σ)(a0:σ)
 (h: ∀(k:Nat) x a,k<l.length→l[k]? =some x→f (a,(k:Int))=some (.inl (g a x,(k:Int)+1))) (he: ∀a,f (a,(l.length:Int))=some (.inr a)):Ai f (a0,0)=some (l.foldl g a0):=by
 refine Hq (inv:=fun k=>((l.take k).foldl g a0,(k:Int))) l.length (by simp) (fun k hk=> ?_) ?_
 ·rw[h k l[k] _ hk (zge hk),←List.take_append_getElem hk,List.foldl_append]
  rfl
 ·rw[he,List.take_length]
def Aog (c:Ab)(im:List UInt8):List UInt8:=(if Bh c=0 then mB c (Abr c im)else Hj).Out
def Ahm (c:Ab)(i:Int)(a:List UInt8)(t:Am):List UInt8:=
 t.Writes.foldl (fun a w=>if w.Node=i then w.Text else a) (t.Bursts.foldl (fun a b=>if b.Node=i then Aog c b.Image else a) a)
structure ImB (s:Aa):Prop where
 b: ∀t∈s.Ticks,∀b∈t.Bursts,b.Image.length≤1000000000
 i: ∀im∈s.Images,im.length≤1000000000
def sH (s:Aa)(i t:Int)(a:List UInt8):List UInt8:=(s.Ticks.take (t+1).toNat).foldl (Ahm s.Conf i) a
section
variable {s:Aa} (h:SIn s) (hb:ImB s)
include h hb
theorem Aj2 (i t:Int)(a:List UInt8):Qw i t s s.Ticks (s.Ticks.length:Int) a 0=some (sH s i t a):=by
 have hT:=h.t
 refine Hq (f:=fun p:List UInt8×Int=>Hd i t s s.Ticks (s.Ticks.length:Int) p.1 p.2) (inv:=fun k=>((s.Ticks.take k).foldl (Ahm s.Conf i) a,(k:Int))) (min s.Ticks.length (t+1).toNat) (by simp) (fun k hk=> ?_) ?_
 ·have hk2:k<s.Ticks.length:=by omega
  have hz:=zge (l:=s.Ticks) (i:=k) hk2
  have ht:=h.tt _ (List.getElem_mem hk2)
  have hbt:=hb.b _ (List.getElem_mem hk2)
  simp only[Hd]
  rw[if_pos (by omega),Ak hz,zbs,if_neg (by omega)]
  have e1: ∀A,Qt i t s s.Ticks (s.Ticks.length:Int) (k:Int) s.Ticks[k].Bursts (s.Ticks[k].Bursts.length:Int) s.Ticks[k] A 0=some (s.Ticks[k].Bursts.foldl (fun a b=>if b.Node=i then Aog s.Conf b.Image else a) A):=fun A=>
   Uv (f:=fun p:List UInt8×Int=>G9 i t s s.Ticks (s.Ticks.length:Int) (k:Int) s.Ticks[k].Bursts (s.Ticks[k].Bursts.length:Int) s.Ticks[k] p.1 p.2) s.Ticks[k].Bursts _ A (fun j x b hj hx=>by
    have hl:=ht.b
    simp only[G9]
    rw[if_pos (by omega),Ak hx,zbs,wrI rfl (by omega)]
    split
    ·rw[Aaf _ _ h.conf (hbt x (List.mem_of_getElem? hx))];rfl
    ·rfl) (fun b=>by simp only[G9];rw[if_neg (by omega)])
  have e2: ∀A,Qs i t s s.Ticks (s.Ticks.length:Int) (k:Int) s.Ticks[k].Writes (s.Ticks[k].Writes.length:Int) s.Ticks[k] A 0=some (s.Ticks[k].Writes.foldl (fun a w=>if w.Node=i then w.Text else a) A):=fun A=>
   Uv (f:=fun p:List UInt8×Int=>G4 i t s s.Ticks (s.Ticks.length:Int) (k:Int) s.Ticks[k].Writes (s.Ticks[k].Writes.length:Int) s.Ticks[k] p.1 p.2) s.Ticks[k].Writes _ A (fun j x b hj hx=>by
    have hl:=ht.w
    simp only[G4]
    rw[if_pos (by omega),Ak hx,zbs,wrI rfl (by omega)]
    split<;>rfl) (fun b=>by simp only[G4];rw[if_neg (by omega)])
  rw[e1,zbs,e2,zbs,wrI rfl (by omega),←List.take_append_getElem hk2,List.foldl_append]
  rfl
 ·simp only[Hd]
  unfold sH
  by_cases hlt:s.Ticks.length≤(t+1).toNat
  ·rw[Nat.min_eq_left hlt,if_neg (by omega),List.take_length,List.take_of_length_le hlt]
  ·rw[Nat.min_eq_right (by omega)]
   obtain⟨z,hz,-,-⟩:=Gd (l:=s.Ticks) (i:=(((t+1).toNat:Nat):Int)) (by omega) (by omega)
   rw[if_pos (by omega),hz,zbs,if_pos (by omega)]
theorem Acq (i t:Int)(a:List UInt8):Ux i t s a 0=some (sH s i t a):=by
 have _:=hb
 have hT:=h.t
 refine Hq (f:=fun p:List UInt8×Int=>I0 i t s p.1 p.2) (inv:=fun k=>((s.Ticks.take k).foldl (Ahm s.Conf i) a,(k:Int))) (min s.Ticks.length (t+1).toNat) (by simp) (fun k hk=> ?_) ?_
 ·have hk2:k<s.Ticks.length:=by omega
  have hz:=Ak (zge (l:=s.Ticks) (i:=k) hk2)
  have ht:=h.tt _ (List.getElem_mem hk2)
  simp only[I0]
  rw[if_pos (by omega),if_pos (by omega)]
  have e1: ∀A,Vu i t s (k:Int) A 0=some (s.Ticks[k].Bursts.foldl (fun a b=>if b.Node=i then Aog s.Conf b.Image else a) A):=fun A=>
   Uv (f:=fun p:List UInt8×Int=>Ip i t s (k:Int) p.1 p.2) s.Ticks[k].Bursts _ A (fun j x b hj hx=>by
    have hl:=ht.b
    simp only[Ip,hz,zbs,Ak hx]
    rw[if_pos (by omega),wrI rfl (by omega)]
    split
    ·rw[sR _ _ h.conf];rfl
    ·rfl) (fun b=>by simp only[Ip,hz,zbs];rw[if_neg (by omega)])
  have e2: ∀A,V4 i t s (k:Int) A 0=some (s.Ticks[k].Writes.foldl (fun a w=>if w.Node=i then w.Text else a) A):=fun A=>
   Uv (f:=fun p:List UInt8×Int=>Iu i t s (k:Int) p.1 p.2) s.Ticks[k].Writes _ A (fun j x b hj hx=>by
    have hl:=ht.w
    simp only[Iu,hz,zbs,Ak hx]
    rw[if_pos (by omega),wrI rfl (by omega)]
    split<;>rfl) (fun b=>by simp only[Iu,hz,zbs];rw[if_neg (by omega)])
  rw[e1,zbs,e2,zbs,wrI rfl (by omega),←List.take_append_getElem hk2,List.foldl_append]
  rfl
 ·simp only[I0]
  unfold sH
  by_cases hlt:s.Ticks.length≤(t+1).toNat
  ·rw[Nat.min_eq_left hlt,List.take_length,List.take_of_length_le hlt]
   split
   ·rw[if_neg (by omega)]
   ·rfl
  ·rw[Nat.min_eq_right (by omega),if_neg (by omega)]
omit hb in
omit h in
theorem Ac7 (i:Int):M8 s i=some (if IsN s.Conf i then(s.Images[i.toNat]?).getD []else []):=by
 unfold M8 Gx
 rw[eW,zbs]
 by_cases h1:IsN s.Conf i
 ·rw[decide_eq_true h1,if_neg (by simp),if_pos h1]
  by_cases h2:i<(s.Images.length:Int)
  ·obtain⟨z,hz,hz2,-⟩:=Gd (l:=s.Images) h1.1 h2
   rw[if_pos h2,hz,hz2];rfl
  ·have e:s.Images[i.toNat]? =none:=List.getElem?_eq_none (by omega)
   rw[if_neg h2,e];rfl
 ·rw[decide_eq_false h1,if_pos (by simp),if_neg h1]
omit hb in
omit h in
theorem Adj (i:Int):Ty s i=some (if IsN s.Conf i then(s.Images[i.toNat]?).getD []else []):=by
 unfold Ty
 by_cases h0:i<0
 ·rw[if_pos h0,if_neg fun hh=>by have:=hh.1;omega]
 rw[if_neg h0]
 by_cases h2:(s.Images.length:Int)≤i
 ·have e:s.Images[i.toNat]? =none:=List.getElem?_eq_none (by omega)
  rw[if_pos h2,e]
  split<;>rfl
 rw[if_neg h2,O9,zbs]
 by_cases h1:IsN s.Conf i
 ·rw[decide_eq_true h1,if_neg (by simp),if_pos h1]
  obtain⟨z,hz,hz2,-⟩:=Gd (l:=s.Images) h1.1 (by omega)
  rw[hz,hz2];rfl
 ·rw[decide_eq_false h1,if_pos (by simp),if_neg h1]
def Ya (s:Aa)(i t:Int):List UInt8:=
 if i<0 then []else if min s.Conf.N 13≤i then []else sH s i t (Aog s.Conf (if IsN s.Conf i then(s.Images[i.toNat]?).getD []else []))
theorem Aq2 (i t:Int):Rv s i t=some (Ya s i t):=by
 unfold Rv Ya
 by_cases h0:i<0
 ·rw[if_pos h0,if_pos h0]
 rw[if_neg h0,if_neg h0]
 by_cases h1:min s.Conf.N 13≤i
 ·rw[if_pos h1,if_pos h1]
 rw[if_neg h1,if_neg h1,Ac7,zbs,Aaf _ _ h.conf ?_,zbs,Aj2 h hb]
 ·rfl
 ·split
  ·cases e:s.Images[i.toNat]? with
   |none=>simp
   |some z=>exact hb.i z (List.mem_of_getElem? e)
  ·simp
theorem Aht (i t:Int):Xg s i t=some (Ya s i t):=by
 unfold Xg Ya
 by_cases h0:i<0
 ·rw[if_pos h0,if_pos h0]
 rw[if_neg h0,if_neg h0]
 by_cases h1:min s.Conf.N 13≤i
 ·rw[if_pos h1,if_pos h1]
 rw[if_neg h1,if_neg h1,Adj,zbs,sR _ _ h.conf,zbs,Acq h hb]
 rfl
end
theorem xH (rows:Rows)(t n:Int):x0.Dc rows t n=some (atV rows t n):=jQ rows t n
theorem yV (rows:Rows)(t n:Int):x0.atR rows t n=atV rows t n:=by
 unfold x0.atR
 rw[xH];rfl
theorem Au4 {rows:Rows}{n a b:Int}(h:x0.tC rows a):cT rows n a b=some (x0.aD rows n a b):=by
 show x0.Abw rows n a b=_
 unfold x0.Abw
 rw[if_pos h]
theorem Aqm {rows:Rows}{n a b:Int}(h:x0.tC rows a):bY rows n a b=some (x0.aD rows n a b):=by
 obtain⟨c1,c2,c3,c4⟩:=h
 have hg: ∀k:Nat,((x0.atR rows (max a 0+(k:Int)) n).Got).length≤1048576:=fun k=>by
  rw[yV];exact x0.xD c2 (xH rows _ n)
 have L:Ai (fun p:List Ag×Int=>Gg rows n b p.1 p.2) ([],max a 0)=some (x0.aD rows n a b):=by
  refine Hq (f:=fun p:List Ag×Int=>Gg rows n b p.1 p.2) (inv:=fun k=>((List.range k).flatMap fun k:Nat=>(x0.atR rows (max a 0+(k:Int)) n).Got,max a 0+(k:Int))) (x0.gN rows.length a b) (by simp) (fun k hk=> ?_) ?_
  ·unfold x0.gN at hk
   have hl:=Lm (fun k:Nat=>(x0.atR rows (max a 0+(k:Int)) n).Got) 1048576 hg k
   have hk2:=hg k
   simp only[Gg]
   rw[if_pos (by omega),if_pos (by omega),Ww,zbs,wrI (n:=max a 0+(k:Int)+1) rfl (by omega),←yV,if_pos (by simp only[Ar];omega),List.range_succ,List.flatMap_append,List.flatMap_singleton,
    show max a 0+((k+1:Nat):Int)=max a 0+(k:Int)+1 by omega]
  ·simp only[Gg]
   unfold x0.aD
   by_cases h1:max a 0+((x0.gN rows.length a b:Nat):Int)<b
   ·rw[if_pos h1,if_neg (by unfold x0.gN at h1 ⊢;omega)]
   ·rw[if_neg h1]
 unfold bY dK
 rw[L];rfl
theorem gE {α:Type}(v:Int→α): ∀(l:List Int) (x:List α),(l.foldl (fun x n=>x.set n.toNat (v n)) x).length=x.length
 | [],x=>rfl
 |n::l,x=>by rw[List.foldl_cons,gE v l];simp
theorem Aa6 {α:Type}(v:Int→α): ∀(l:List Int) (x:List α),(∀n∈l,0≤n)→∀j:Nat,j<x.length→(l.foldl (fun x n=>x.set n.toNat (v n)) x)[j]? =if(j:Int)∈l then some (v (j:Int))else x[j]?
 | [],x,_,j,_=>by simp
 |n::l,x,h,j,hj=>by
  rw[List.foldl_cons,Aa6 v l (x.set n.toNat (v n)) (fun m hm=>h m (List.mem_cons_of_mem _ hm)) j (by simpa using hj)]
  have hn:=h n (List.mem_cons_self ..)
  by_cases h1:(j:Int)∈l
  ·rw[if_pos h1,if_pos (List.mem_cons_of_mem _ h1)]
  ·rw[if_neg h1,List.getElem?_set]
   by_cases h2:n.toNat=j
   ·have e:n=(j:Int):=by omega
    subst e
    rw[if_pos h2,if_pos (by omega),if_pos (List.mem_cons_self ..)]
   ·rw[if_neg h2,if_neg]
    intro hm
    rcases List.mem_cons.1 hm with e|e
    ·omega
    ·exact h1 e
theorem Aa1 {α:Type}(v:Int→α)(d:α)(N:Nat)(l:List Int)(h: ∀n∈l,0≤n):l.foldl (fun x n=>x.set n.toNat (v n)) (List.replicate N d)=(List.range N).map fun j:Nat=>if(j:Int)∈l then v (j:Int)else d:=by
 refine List.ext_getElem? fun j=> ?_
 by_cases hj:j<N
 ·rw[Aa6 v l _ h j (by simpa using hj),List.getElem?_map,List.getElem?_range hj,List.getElem?_replicate,if_pos hj]
  simp only[Option.map_some]
  split<;>rfl
 ·rw[List.getElem?_eq_none (by rw[gE];simp;omega),List.getElem?_eq_none (by simp;omega)]
def mQ (s:Aa)(l:List Int)(t:Int)(j:Nat):List UInt8:=if(j:Int)∈l then Ya s (j:Int) t else []
def uN (s:Aa)(rows:Rows)(l:List Int)(t:Int)(j:Nat):List Ag:=if(j:Int)∈l then x0.aD rows (j:Int) t (t+s.Conf.Period)else []
def lD (s:Aa)(rows:Rows)(l:List Int)(n0 t:Int):Ah:=
 ⟨(atV rows t n0).Number,(atV rows t n0).Members,(List.range s.Conf.N.toNat).map (mQ s l t),(List.range s.Conf.N.toNat).map (uN s rows l t)⟩
theorem Ahv {s:Aa}(h:SIn s)(hb:ImB s)(hp:Bh s.Conf=0){rows:Rows}(hf:lM s.Conf.N rows){l:List Int}(hl:l.length≤1000)(hin: ∀n∈l,0≤n∧n<s.Conf.N){n0:Int}(h0:l[0]? =some n0)
 (a:Int) {t:Int} (t0:0≤t) (t1:t<(rows.length:Int)) (hg:x0.tC rows t):I3 (Ad.mk s l rows a) t=some (lD s rows l n0 t):=by
 have hr:=hf.1
 have pp:=Je hp
 have hN:4≤s.Conf.N∧s.Conf.N≤13:=⟨((A7 _).1 hp).1.1,((A7 _).1 hp).1.2.1⟩
 have hNN:0≤s.Conf.N∧s.Conf.N≤Ar:=⟨by omega,by simp only[Ar];omega⟩
 have z0:idx? l 0=some n0:=Ak h0
 have i0:=hin n0 (List.mem_of_getElem? h0)
 obtain⟨z,hz,hz2⟩:=Ji hf t0 t1 i0.1 i0.2
 have L: ∀x6,M0 t (Ad.mk s l rows a) l (l.length:Int) (atV rows t n0).Number (atV rows t n0).Members s.Conf.N.toNat s.Conf.N.toNat (atV rows t n0) x6 0 (List.replicate s.Conf.N.toNat (Gr.full,[])) (List.replicate s.Conf.N.toNat [])=
  some (l.foldl (fun x n=>x.set n.toNat (Gr.no,x0.aD rows n t (t+s.Conf.Period))) (List.replicate s.Conf.N.toNat (Gr.full,[])),l.foldl (fun x n=>x.set n.toNat (Ya s n t)) (List.replicate s.Conf.N.toNat [])):=fun x6=>by
  refine Hq (f:=fun p:Int×(List (Gr×List Ag))×(List (List UInt8))=>Cv t (Ad.mk s l rows a) l (l.length:Int) (atV rows t n0).Number (atV rows t n0).Members s.Conf.N.toNat s.Conf.N.toNat (atV rows t n0) x6 p.1 p.2.1 p.2.2)
   (inv:=fun k=>((k:Int),(l.take k).foldl (fun x n=>x.set n.toNat (Gr.no,x0.aD rows n t (t+s.Conf.Period))) (List.replicate s.Conf.N.toNat (Gr.full,[])),(l.take k).foldl (fun x n=>x.set n.toNat (Ya s n t)) (List.replicate s.Conf.N.toNat []))) l.length (by simp) (fun k hk=> ?_) ?_
  ·have hx:=zge (l:=l) (i:=k) hk
   have ix:=hin l[k] (List.getElem_mem hk)
   have hi:0≤l[k]∧l[k]<((s.Conf.N.toNat:Nat):Int):=⟨ix.1,by omega⟩
   have hj:l[k].toNat<s.Conf.N.toNat:=by omega
   have m5:=Ud ((l.take k).foldl (fun x n=>x.set n.toNat (Ya s n t)) (List.replicate s.Conf.N.toNat [])) l[k].toNat (fun _=>Ya s l[k] t) (by rw[gE (fun n=>Ya s n t),List.length_replicate];exact hj)
   have m4:=Ud ((l.take k).foldl (fun x n=>x.set n.toNat (Gr.no,x0.aD rows n t (t+s.Conf.Period))) (List.replicate s.Conf.N.toNat (Gr.full,[]))) l[k].toNat (fun _=>(Gr.no,x0.aD rows l[k] t (t+s.Conf.Period))) (by rw[gE (fun n=>(Gr.no,x0.aD rows n t (t+s.Conf.Period))),List.length_replicate];exact hj)
   simp only[Cv]
   rw[if_pos (by omega),Ak hx,zbs,Aq2 h hb,zbs,if_pos hi,m5,zbs,wrI (m:=t+s.Conf.Period) rfl (by omega),Au4 hg,zbs,
    if_pos hi,m4,zbs,wrI (n:=(k:Int)+1) rfl (by omega),←List.take_append_getElem hk,List.foldl_append,List.foldl_append]
   rfl
  ·simp only[Cv]
   rw[if_neg (by omega),List.take_length]
 unfold I3 Bl
 rw[hz,zbs,z0,zbs,zbs,hz2,zbs,if_pos hNN,if_pos hNN]
 simp only[L,zbs]
 have e5:=Aa1 (fun n=>Ya s n t) [] s.Conf.N.toNat l fun n hn=>(hin n hn).1
 have e4:=Aa1 (fun n=>((Gr.no,x0.aD rows n t (t+s.Conf.Period)):Gr×List Ag)) (Gr.full,[]) s.Conf.N.toNat l fun n hn=>(hin n hn).1
 rw[e5,e4]
 rw[O7 _ _ (by simp),zbs,O7 _ _ (by simp),zbs,List.map_map]
 unfold lD
 congr 2
 refine List.map_congr_left fun j _=> ?_
 simp only[Function.comp,uN]
 split<;>rfl
theorem qA {s:Aa}{j:Nat}(hj:(j:Int)<clV s.Conf.N):(j:Int)∈Bc s↔(j:Int)∉s.Faulty:=by
 refine⟨fun h=>(Yr h).2,fun h=> ?_⟩
 unfold Bc
 refine List.mem_flatMap.2 ⟨j,List.mem_range.2 (by omega),?_⟩
 unfold Zz
 rw[if_neg h]
 exact List.mem_singleton.2 rfl
theorem Aeo {s:Aa}(h:SIn s)(hb:ImB s)(hp:Bh s.Conf=0){rows:Rows}(hr:rows.length≤100000000){t:Int}(t0:0≤t)(t1:t<(rows.length:Int))(hg:x0.tC rows t){A2:List Int}{r7:Int}(hA:idx? A2 r7=some t)
 (t2:Int) (o2:List Ah) (nu:Int) (me:List UInt8):U6 rows s t2 o2 A2 r7 0 (Ah.mk nu me [] [])=
   some ⟨nu,me,(List.range s.Conf.N.toNat).map (mQ s (Bc s) t),(List.range s.Conf.N.toNat).map (uN s rows (Bc s) t)⟩:=by
 have pp:=Je hp
 have hN:4≤s.Conf.N∧s.Conf.N≤13:=⟨((A7 _).1 hp).1.1,((A7 _).1 hp).1.2.1⟩
 have hcl:clV s.Conf.N=s.Conf.N:=by unfold clV;rw[if_neg (by omega),if_neg (by omega)]
 refine Hq (f:=fun p:Int×Ah=>Es rows s t2 o2 A2 r7 p.1 p.2) (inv:=fun k=>((k:Int),Ah.mk nu me ((List.range k).map (mQ s (Bc s) t)) ((List.range k).map (uN s rows (Bc s) t)))) s.Conf.N.toNat (by simp) (fun k hk=> ?_) ?_
 ·have hm:=qA (s:=s) (j:=k) (by omega)
  have l1: ∀x:List UInt8,((List.range k).map (mQ s (Bc s) t)).length+List.length [x]≤Ar:=fun x=>by simp only[List.length_map,List.length_range,List.length_cons,List.length_nil,Ar];omega
  have l2: ∀x:List Ag,((List.range k).map (uN s rows (Bc s) t)).length+List.length [x]≤Ar:=fun x=>by simp only[List.length_map,List.length_range,List.length_cons,List.length_nil,Ar];omega
  have hlt:(k:Int)<s.Conf.N:=by omega
  simp only[Es]
  rw[if_pos hlt,jY h,zbs,List.range_succ,List.map_append,List.map_append]
  by_cases hq:(k:Int)∈s.Faulty
  ·have hn:(k:Int)∉Bc s:=fun hh=>hm.1 hh hq
   rw[if_pos (decide_eq_true hq),if_pos (l1 _),if_pos (l2 _),wrI (n:=(k:Int)+1) rfl (by omega)]
   simp only[List.map_cons,List.map_nil,mQ,uN,if_neg hn]
   rfl
  ·have hn:(k:Int)∈Bc s:=hm.2 hq
   rw[if_neg (by simpa using hq),hA,zbs,Aht h hb,zbs,if_pos (l1 _),zbs,zbs,wrI (n:=t+s.Conf.Period) rfl (by omega),Aqm hg,zbs,if_pos (l2 _),wrI (n:=(k:Int)+1) rfl (by omega)]
   simp only[List.map_cons,List.map_nil,mQ,uN,if_pos hn]
   rfl
 ·simp only[Es]
  rw[if_neg (by omega)]
theorem Akk {c:Ab}(hp:Bh c=0){rows:Rows}{n f t:Int}(h:t∈stV c rows n f):0≤t∧t<(rows.length:Int):=by
 have pp:=Je hp
 unfold stV at h
 obtain⟨k,hk,h⟩:=List.mem_flatMap.1 h
 have:=List.mem_range.1 hk
 unfold stG at h
 split at h
 ·simp only[List.mem_singleton]at h
  subst h
  omega
 ·cases h
theorem qF (c:Ab)(hp:Bh c=0)(rows:Rows)(n f:Int):(stV c rows n f).length≤rows.length:=by
 have pp:=Je hp
 have:=Aks rows n (max f 0) ((rows.length:Int)-c.Period+1-max f 0).toNat
 unfold stV
 omega
section
variable {s:Aa} (h:SIn s) (hb:ImB s) (hp:Bh s.Conf=0) {rows:Rows} (hf:lM s.Conf.N rows) {n0:Int} (hg: ∀t,0≤t→t<(rows.length:Int)→x0.tC rows t) (h0:(Bc s)[0]? =some n0)
include h hb hp hf hg h0
theorem Ac1 {a:Int}(ha:a≤1000000000):Hr (Ad.mk s (Bc s) rows a)=some ((stV s.Conf rows n0 a).map (lD s rows (Bc s) n0)):=by
 have hr:=hf.1
 have hN:4≤s.Conf.N∧s.Conf.N≤13:=⟨((A7 _).1 hp).1.1,((A7 _).1 hp).1.2.1⟩
 have hcl:clV s.Conf.N=s.Conf.N:=by unfold clV;rw[if_neg (by omega),if_neg (by omega)]
 have hin: ∀n∈Bc s,0≤n∧n<s.Conf.N:=fun n hn=>by have:=(Yr hn).1;exact⟨this.1,hcl▸this.2⟩
 have hl:=It s
 have z0:idx? (Bc s) 0=some n0:=Ak h0
 have hS:=qF s.Conf hp rows n0 a
 unfold Hr Bl
 rw[z0,zbs,zbs,Ab2 h.conf hp hr n0 a ha,zbs]
 have hmem: ∀t∈stV s.Conf rows n0 a,0≤t∧t<(rows.length:Int):=fun t ht=>Akk hp ht
 generalize stV s.Conf rows n0 a=l at hS hmem
 have L:Ma (Ad.mk s (Bc s) rows a) l (l.length:Int) [] 0=some (l.map (lD s rows (Bc s) n0)):=by
  refine Hq (f:=fun p:List Ah×Int=>Cm (Ad.mk s (Bc s) rows a) l (l.length:Int) p.1 p.2) (inv:=fun k=>((l.take k).map (lD s rows (Bc s) n0),(k:Int))) l.length (by simp) (fun k hk=> ?_) ?_
  ·have ht:=hmem l[k] (List.getElem_mem hk)
   simp only[Cm]
   rw[if_pos (by omega),Ak (zge hk),zbs,Ahv h hb hp hf (by omega) hin h0 a ht.1 ht.2 (hg _ ht.1 ht.2),zbs,
    if_pos (by simp only[List.length_map,List.length_take,List.length_cons,List.length_nil,Ar];omega),wrI (n:=(k:Int)+1) rfl (by omega),←List.take_append_getElem hk,List.map_append]
   rfl
  ·simp only[Cm]
   rw[if_neg (by omega),List.take_length]
 rw[L];rfl
theorem xE (l:List Int)(hS:l.length≤rows.length)(hmem: ∀t∈l,0≤t∧t<(rows.length:Int)):U5 rows s n0 l [] 0=some (l.map (lD s rows (Bc s) n0)):=by
 have hr:=hf.1
 have hN:4≤s.Conf.N∧s.Conf.N≤13:=⟨((A7 _).1 hp).1.1,((A7 _).1 hp).1.2.1⟩
 have hcl:clV s.Conf.N=s.Conf.N:=by unfold clV;rw[if_neg (by omega),if_neg (by omega)]
 have i0:=(Yr (List.mem_of_getElem? h0)).1
 have i1:n0<s.Conf.N:=hcl▸i0.2
 refine Hq (f:=fun p:List Ah×Int=>Et rows s n0 l p.1 p.2) (inv:=fun k=>((l.take k).map (lD s rows (Bc s) n0),(k:Int))) l.length (by simp) (fun k hk=> ?_) ?_
 ·have ht:=hmem l[k] (List.getElem_mem hk)
  have hx:=Ak (zge hk)
  obtain⟨z,hz,hz2⟩:=Ji hf ht.1 ht.2 i0.1 i1
  simp only[Et]
  rw[if_pos (by omega)]
  simp only[hx,zbs,hz,hz2]
  rw[Aeo h hb hp hr ht.1 ht.2 (hg _ ht.1 ht.2) hx,zbs,
   if_pos (by simp only[List.length_map,List.length_take,List.length_cons,List.length_nil,Ar];omega),wrI (n:=(k:Int)+1) rfl (by omega),←List.take_append_getElem hk,List.map_append]
  rfl
 ·simp only[Et]
  rw[if_neg (by omega),List.take_length]
end
structure RIn (rows:Rows):Prop where
 n:rows.length≤4096
 g: ∀l∈rows,∀r∈l,r.Got.length≤1048576
def Oq (s:Aa)(rows:Rows):List Ah:=
 if Ew s≠0 then []else if lU s rows then(stV s.Conf rows ((Bc s)[0]?.getD 0) (Kb s)).map (lD s rows (Bc s) ((Bc s)[0]?.getD 0))else []
section
variable {s:Aa} (h:SIn s) (hb:ImB s) {rows:Rows} (hr:RIn rows)
include h hb hr
theorem xZ (ha:Ew s=0→Kb s≤1000000000)(h1:Ew s=0→∃n0,(Bc s)[0]? =some n0):N9 s rows=some (Oq s rows):=by
 have hn:=hr.n
 unfold N9 Oq
 rw[nS h,zbs]
 by_cases h0:Ew s≠0
 ·rw[if_pos h0,if_pos h0]
 ·rw[if_neg h0,if_neg h0,Abi (by omega),zbs,notb]
  by_cases hq:lU s rows
  ·obtain⟨n0,hn0⟩:=h1 (Classical.not_not.1 h0)
   have hz:=L7 (Classical.not_not.1 h0)
   have hp:=Ga hz
   have e:stV s.Conf rows n0 (wr (K1 s+dT s.Conf))=stV s.Conf rows n0 (Kb s):=by
    unfold stV;rw[show max (wr (K1 s+dT s.Conf)) 0=max (Kb s) 0 by unfold Kb;omega]
   have hle:wr (K1 s+dT s.Conf)≤1000000000:=by have:=ha (Classical.not_not.1 h0);unfold Kb at this;omega
   rw[if_pos hq,if_pos hq,Z0 h,zbs,show idx? (Bc s) 0=some n0 from Ak hn0,zbs,bE h hz,zbs,yF h.conf hp (by omega) n0 _ hle,zbs,e,
    xE h hb hp ⟨by omega,hq.2⟩ (fun t t0 t1=>⟨hn,hr.g,by omega,by omega⟩) hn0 _ (qF _ hp _ _ _) (fun t ht=>Akk hp ht),hn0]
   rfl
  ·rw[if_neg hq,if_neg hq]
end
theorem kV (p:Nat→Prop): ∀k,-1≤Wk p k∧Wk p k<(k:Int)+0∨Wk p k= -1
 |0=>.inr rfl
 |k+1=>by
  simp only[Wk]
  split
  ·rcases kV p k with h|h
   ·exact .inl (by omega)
   ·exact .inr h
  ·exact .inl (by omega)
theorem Ap7 {c:Ab}(hp:Bh c=0):0≤dT c∧dT c≤3000:=by
 have hl:=M3 c ((A7 c).1 hp)
 have pp:=Je hp
 unfold dT lE
 rw[wrI (n:=4*Pp c) rfl (by omega),wrI (n:=1+4*Pp c) rfl (by omega),wrI (n:=2*c.Period) rfl (by omega),wrI (n:=1+4*Pp c+2*c.Period) rfl (by omega),wrI (n:=4*c.Period) rfl (by omega),wrI rfl (by omega)]
 omega
theorem Yo {s:Aa}(h:SIn s)(hp:Bh s.Conf=0):0≤Kb s∧Kb s≤1000000000:=by
 have hT:=h.t
 have hc:=Ap7 hp
 have hl:=kV (eG s) s.Ticks.length
 unfold Kb K1
 rw[wrI rfl (by omega)]
 omega
theorem jP : ∀(n:Nat) (l:List Int),(∀k:Nat,k<n→(k:Int)∈l)→n≤l.length
 |0,_,_=>Nat.zero_le _
 |n+1,l,h=>by
  have hm:=h n (Nat.lt_succ_self n)
  have:=jP n (l.erase (n:Int)) fun k hk=>(List.mem_erase_of_ne (by omega)).2 (h k (by omega))
  rw[List.length_erase_of_mem hm]at this
  have:0<l.length:=List.length_pos_of_mem hm
  omega
theorem Akn {s:Aa}(hp:Bh s.Conf=0)(hF: ¬s.Conf.F<(s.Faulty.length:Int)): ∃n0,(Bc s)[0]? =some n0:=by
 obtain⟨n0,n1,f0,f1,f2⟩:=((A7 _).1 hp).1
 have hcl:clV s.Conf.N=s.Conf.N:=by unfold clV;rw[if_neg (by omega),if_neg (by omega)]
 cases e:Bc s with
 |cons x r=>exact⟨x,rfl⟩
 |nil=>
  exfalso
  have:=jP s.Conf.N.toNat s.Faulty fun k hk=>by
   have hm:=qA (s:=s) (j:=k) (by omega)
   rw[e]at hm
   exact Classical.byContradiction fun hn=>by cases hm.2 hn
  omega
section
variable {s:Aa} (h:SIn s) (hz:E6 s=0) {rows:Rows} (hf:lM s.Conf.N rows) (hin: ∀n∈Bc s,0≤n∧n<s.Conf.N) {n0:Int} (h0:(Bc s)[0]? =some n0)
include h hz hf hin h0
theorem qP :Mu s rows (Bc s)=some (E8 (oZ rows (Bc s) n0 s.Conf (Kb s)) (Kb s) ((rows.length:Int)-Kb s).toNat):=by
 have hl:=It s
 have ha:=Yo h (Ga hz)
 unfold Mu
 rw[bE h hz,zbs,show idx? (Bc s) 0=some n0 from Ak h0,zbs]
 exact rV hf (by omega) hin h0 h.conf (Ga hz) ha.1
theorem qT :Ms s rows (Bc s)=some (E8 (qD rows (Bc s) n0) (Kb s) ((rows.length:Int)-Kb s).toNat):=by
 have hl:=It s
 have ha:=Yo h (Ga hz)
 unfold Ms
 rw[bE h hz,zbs]
 exact uV hf (by omega) hin h0 ha.1
end
structure Au6 (t:Am):Prop where
 u:(t.Units.length:Int)≤100
 d:(t.Delays.length:Int)≤400
 s:(t.Sends.length:Int)≤100
 b:(t.Bursts.length:Int)≤100
 y:(t.Strays.length:Int)≤100
 w:(t.Writes.length:Int)≤100
 bb: ∀x∈t.Bursts,(x.Image.length:Int)≤16000
structure Aux (s:Aa):Prop where
 t:(s.Ticks.length:Int)≤400
 c:(s.Conf.Table.length:Int)≤100
 f:(s.Faulty.length:Int)≤100
 i:(s.Images.length:Int)≤100
 ii: ∀x∈s.Images,(x.length:Int)≤16000
 tt: ∀t∈s.Ticks,Au6 t
theorem Auw (s:Aa): ∃b,aP s 400=some b∧(b=true→Aux s):=by
 classical
 unfold aP
 by_cases h1:400<(s.Ticks.length:Int)
 ·exact⟨false,if_pos h1,fun h=>by cases h⟩
 rw[if_neg h1]
 by_cases h2:100<(s.Conf.Table.length:Int)
 ·exact⟨false,if_pos h2,fun h=>by cases h⟩
 rw[if_neg h2]
 by_cases h3:100<(s.Faulty.length:Int)
 ·exact⟨false,if_pos h3,fun h=>by cases h⟩
 rw[if_neg h3]
 by_cases h4:100<(s.Images.length:Int)
 ·exact⟨false,if_pos h4,fun h=>by cases h⟩
 rw[if_neg h4]
 have L0:=Dz (f:=fun z=>J8 s z) s.Images (fun x=>(x.length:Int)≤16000) (fun k x hk hx=>by
  simp only[J8]
  rw[if_pos (by omega),Ak hx,zbs,wrI rfl (by omega)]
  by_cases a:16000<(x.length:Int)
  ·rw[if_pos a,if_neg (by omega)]
  ·rw[if_neg a,if_pos (by omega)]) (by simp only[J8];rw[if_neg (by omega)])
 have L1:=fun(o:Int) (t:Am) (ht:(t.Bursts.length:Int)≤100)=>
  Dz (f:=fun z=>J5 s o t.Bursts (t.Bursts.length:Int) t z) t.Bursts (fun x=>(x.Image.length:Int)≤16000) (fun k x hk hx=>by
   simp only[J5]
   rw[if_pos (by omega),Ak hx,zbs,wrI rfl (by omega)]
   by_cases a:16000<(x.Image.length:Int)
   ·rw[if_pos a,if_neg (by omega)]
   ·rw[if_neg a,if_pos (by omega)]) (by simp only[J5];rw[if_neg (by omega)])
 have L2:=Dz (f:=fun z=>Jv s z) s.Ticks Au6 (fun k t hk ht=>by
  simp only[Jv]
  rw[if_pos (by omega),Ak ht,zbs]
  by_cases a1:100<(t.Units.length:Int)
  ·rw[if_pos a1,if_neg (fun p=>by have:=p.u;omega)]
  rw[if_neg a1]
  by_cases a2:400<(t.Delays.length:Int)
  ·rw[if_pos a2,if_neg (fun p=>by have:=p.d;omega)]
  rw[if_neg a2]
  by_cases a3:100<(t.Sends.length:Int)
  ·rw[if_pos a3,if_neg (fun p=>by have:=p.s;omega)]
  rw[if_neg a3]
  by_cases a4:100<(t.Bursts.length:Int)
  ·rw[if_pos a4,if_neg (fun p=>by have:=p.b;omega)]
  rw[if_neg a4]
  by_cases a5:100<(t.Strays.length:Int)
  ·rw[if_pos a5,if_neg (fun p=>by have:=p.y;omega)]
  rw[if_neg a5]
  by_cases a6:100<(t.Writes.length:Int)
  ·rw[if_pos a6,if_neg (fun p=>by have:=p.w;omega)]
  rw[if_neg a6]
  unfold Zb
  rw[L1 _ t (by omega),zbs,wrI rfl (by omega)]
  by_cases a7: ∀x∈t.Bursts,(x.Image.length:Int)≤16000
  ·rw[if_pos a7,if_pos ⟨by omega,by omega,by omega,by omega,by omega,by omega,a7⟩];rfl
  ·rw[if_neg a7,if_neg (fun p=>a7 p.bb)];rfl) (by simp only[Jv];rw[if_neg (by omega)])
 unfold Yp Ym
 rw[L0,zbs]
 by_cases a: ∀x∈s.Images,(x.length:Int)≤16000
 ·rw[if_pos a,Sum.elim_inr,L2,zbs]
  by_cases b: ∀t∈s.Ticks,Au6 t
  ·exact⟨true,by rw[if_pos b];rfl,fun _=>⟨by omega,by omega,by omega,by omega,a,b⟩⟩
  ·exact⟨false,by rw[if_neg b];rfl,fun h=>by cases h⟩
 ·exact⟨false,by rw[if_neg a];rfl,fun h=>by cases h⟩
theorem Aom {s:Aa}(h:Aux s)(hc:CIn s.Conf):SIn s:=by
 have h1:=h.f
 have h2:=h.i
 have h3:=h.t
 exact⟨hc,by omega,by omega,by omega,fun t ht=>by
  have a:=h.tt t ht
  have a1:=a.u
  have a2:=a.d
  have a3:=a.s
  have a4:=a.b
  have a5:=a.y
  have a6:=a.w
  exact⟨by omega,by omega,by omega,by omega,by omega,by omega⟩⟩
theorem Aol {s:Aa}(h:Aux s):ImB s:=⟨fun t ht b hb=>by have:=(h.tt t ht).bb b hb;omega,fun im hi=>by have:=h.ii im hi;omega⟩
theorem Apt (rows:Rows): ∃b,bH rows 400=some b∧(b=true→RIn rows):=by
 classical
 unfold bH
 by_cases h1:400<(rows.length:Int)
 ·exact⟨false,if_pos h1,fun h=>by cases h⟩
 rw[if_neg h1]
 have L0:=fun(i:Int) (l:List Ac) (hl:idx? rows i=some l) (h2:(l.length:Int)≤20)=>Dz (f:=fun z=>J4 rows i z) l (fun r=>(r.Got.length:Int)≤40) (fun k x hk hx=>by
  simp only[J4,hl,zbs]
  rw[if_pos (by omega),Ak hx,zbs,wrI rfl (by omega)]
  by_cases a:40<(x.Got.length:Int)
  ·rw[if_pos a,if_neg (by omega)]
  ·rw[if_neg a,if_pos (by omega)]) (by simp only[J4,hl,zbs];rw[if_neg (by omega)])
 have L1:=Dz (f:=fun z=>J6 rows z) rows (fun l=>(l.length:Int)≤20∧∀r∈l,(r.Got.length:Int)≤40) (fun k l hk hl=>by
  simp only[J6]
  rw[if_pos (by omega),Ak hl,zbs]
  by_cases a1:20<(l.length:Int)
  ·rw[if_pos a1,if_neg (fun p=>by have:=p.1;omega)]
  rw[if_neg a1]
  unfold Y9
  rw[L0 _ l (Ak hl) (by omega),zbs,wrI rfl (by omega)]
  by_cases a2: ∀r∈l,(r.Got.length:Int)≤40
  ·rw[if_pos a2,if_pos ⟨by omega,a2⟩];rfl
  ·rw[if_neg a2,if_neg (fun p=>a2 p.2)];rfl) (by simp only[J6];rw[if_neg (by omega)])
 unfold Yw
 rw[L1]
 by_cases a: ∀l∈rows,(l.length:Int)≤20∧∀r∈l,(r.Got.length:Int)≤40
 ·exact⟨true,by rw[if_pos a];rfl,fun _=>⟨by omega,fun l hl r hr=>by have:=(a l hl).2 r hr;omega⟩⟩
 ·exact⟨false,by rw[if_neg a];rfl,fun h=>by cases h⟩
theorem Auk {s:Aa}(h:Aa.In s):CIn s.Conf:=by
 obtain⟨h1,h2,h3,h4,h5,h6,h7,h8,h9,h10,⟨h11,h12⟩,-⟩:=h
 unfold SL at h11
 exact⟨h1,h2,h3,h4,h5,h6,by omega,h12⟩
theorem Aq4 (s:Aa)(rows:Rows)(hs:Aa.In s): ∃b,bD s rows=some b∧(b=true→SIn s∧ImB s∧RIn rows):=by
 unfold bD
 obtain⟨b,e,hf⟩:=Auw s
 rw[e,zbs]
 cases b with
 |false=>exact⟨false,rfl,fun h=>by cases h⟩
 |true=>
  have hf:=hf rfl
  obtain⟨b2,e2,hf2⟩:=Apt rows
  exact⟨b2,by rw[if_pos rfl,e2];rfl,fun h=>⟨Aom hf (Auk hs),Aol hf,hf2 h⟩⟩
structure Aud (r:Ah):Prop where
 l:r.Lines.length≤1000
 g:r.Got.length≤1000
 d: ∀l∈r.Got,l.length≤4294967296
theorem Ak2 {rows:Rows}(hr:RIn rows)(n a b:Int):(x0.aD rows n a b).length≤4294967296:=by
 have hn:=hr.n
 have:=Lm (fun k:Nat=>(x0.atR rows (max a 0+(k:Int)) n).Got) 1048576 (fun k=>by rw[yV];exact x0.xD hr.g (xH rows _ n)) (x0.gN rows.length a b)
 unfold x0.aD
 have h2:x0.gN rows.length a b≤4096:=by unfold x0.gN;omega
 have h3:=Nat.mul_le_mul_right 1048576 h2
 omega
theorem nH {s:Aa}{rows:Rows}(hr:RIn rows):(Oq s rows).length≤4096∧∀r∈Oq s rows,Aud r:=by
 unfold Oq
 by_cases h0:Ew s≠0
 ·rw[if_pos h0];exact⟨by simp,fun r h=>by cases h⟩
 rw[if_neg h0]
 by_cases hq:lU s rows
 ·rw[if_pos hq]
  have hp:=Ga (L7 (Classical.not_not.1 h0))
  have hN:4≤s.Conf.N∧s.Conf.N≤13:=⟨((A7 _).1 hp).1.1,((A7 _).1 hp).1.2.1⟩
  refine⟨?_,fun r h=> ?_⟩
  ·have:=qF s.Conf hp rows ((Bc s)[0]?.getD 0) (Kb s)
   have:=hr.n
   rw[List.length_map]
   omega
  ·obtain⟨t,-,rfl⟩:=List.mem_map.1 h
   unfold lD
   refine⟨by simp only[List.length_map,List.length_range];omega,by simp only[List.length_map,List.length_range];omega,fun l hl=> ?_⟩
   obtain⟨j,-,rfl⟩:=List.mem_map.1 hl
   unfold uN
   split
   ·exact Ak2 hr _ _ _
   ·simp
 ·rw[if_neg hq];exact⟨by simp,fun r h=>by cases h⟩
theorem At4 {s:Aa}(h:SIn s)(h0:Ew s=0):Kb s≤1000000000:=(Yo h (Ga (L7 h0))).2
theorem wP {s:Aa}(h0:Ew s=0): ∃n0,(Bc s)[0]? =some n0:=by
 refine Akn (Ga (L7 h0)) fun hh=> ?_
 unfold Ew at h0
 rw[if_neg (by
  by_cases h1:E6 s≠0
  ·rw[if_pos h1]at h0;exact absurd h0 h1
  ·exact h1),if_pos hh]at h0
 cases h0
open Classical in
theorem iH {σ β:Type}{f:σ→Option (σ⊕(β⊕Unit))}(inv:Nat→σ)(m:Nat)(p:Nat→Prop)(b:β)(h: ∀k,k<m→f (inv k)=some (if p k then .inr (.inl b)else .inl (inv (k+1))))(he:f (inv m)=some (.inr (.inr ()))):
 Ai f (inv 0)=some (if∃k,k<m∧p k then .inl b else .inr ()):=by
 have: ∀j k,k+j=m→Ai f (inv k)=some (if∃i,k≤i∧i<m∧p i then .inl b else .inr ()):=by
  intro j
  induction j with
  |zero=>
   intro k hk
   have:k=m:=by omega
   subst this
   rw[Av he,if_neg (fun⟨j,h1,h2,_⟩=>absurd h1 (by omega))]
  |succ j ih=>
   intro k hk
   have h1:=h k (by omega)
   by_cases hp:p k
   ·rw[if_pos hp]at h1
    rw[Av h1,if_pos ⟨k,Nat.le_refl _,by omega,hp⟩]
   ·rw[if_neg hp]at h1
    rw[A5 h1,ih (k+1) (by omega)]
    by_cases ha: ∃i,k+1≤i∧i<m∧p i
    ·obtain⟨i,h1,h2,h3⟩:=ha
     rw[if_pos ⟨i,h1,h2,h3⟩,if_pos ⟨i,by omega,h2,h3⟩]
    ·rw[if_neg ha,if_neg]
     rintro⟨i,h1,h2,h3⟩
     by_cases e:i=k
     ·subst e;exact hp h3
     ·exact ha ⟨i,by omega,h2,h3⟩
 have:=this m 0 (by omega)
 simpa using this
def Ln (q:Int→Bool)(a:Int):Nat→Int
 |0=> -1
 |k+1=>if q (a+(k:Int))=true then a+(k:Int)else Ln q a k
def Wu (q:Int→Bool)(a:Int):Nat→Int
 |0=>0
 |k+1=>if q (a+(k:Int))=true then 0 else Wu q a k+1
def R4 (q:Int→Bool)(a b:Int):Nat→Int
 |0=>b
 |k+1=>if q (a+(k:Int))=true then(if Ln q a k≠ -1 then min (R4 q a b k) (a+(k:Int)-Ln q a k)else R4 q a b k)else R4 q a b k
def Te (q:Int→Bool)(a:Int):Nat→Int
 |0=>0
 |k+1=>if q (a+(k:Int))=true then Te q a k else max (Te q a k) (Wu q a k+1)
theorem aN (q:Int→Bool){a:Int}(ha:0≤a): ∀k,Ln q a k= -1∨0≤Ln q a k∧Ln q a k<a+(k:Int)
 |0=>.inl rfl
 |k+1=>by
  have:=aN q ha k
  simp only[Ln]
  split<;>omega
theorem gH (q:Int→Bool)(a:Int): ∀k,0≤Wu q a k∧Wu q a k≤(k:Int)
 |0=>by simp[Wu]
 |k+1=>by
  have:=gH q a k
  simp only[Wu]
  split<;>omega
def Uy (q:Int→Bool)(a P:Int)(k:Nat):Prop:=q (a+(k:Int))=true∧0≤Ln q a k∧a+(k:Int)-Ln q a k<P
theorem uE (q:Int→Bool){a b P:Int}(ha:0≤a)(hb:P≤b): ∀m,R4 q a b m<P↔∃k,k<m∧Uy q a P k
 |0=>⟨fun h=>by simp only[R4]at h;omega,fun⟨k,h,_⟩=>by omega⟩
 |m+1=>by
  have ih:=uE q ha hb m
  have hl:=aN q ha m
  have up:(∃k,k<m+1∧Uy q a P k)↔(∃k,k<m∧Uy q a P k)∨Uy q a P m:=by
   constructor
   ·rintro⟨k,h1,h2⟩
    by_cases e:k=m
    ·exact .inr (e▸h2)
    ·exact .inl ⟨k,by omega,h2⟩
   ·rintro(⟨k,h1,h2⟩|h)
    ·exact⟨k,by omega,h2⟩
    ·exact⟨m,by omega,h⟩
  rw[up,←ih]
  simp only[R4,Uy]
  by_cases hq:q (a+(m:Int))=true
  ·rw[if_pos hq]
   by_cases h1:Ln q a m≠ -1
   ·rw[if_pos h1]
    constructor
    ·intro h
     by_cases h2:R4 q a b m<P
     ·exact .inl h2
     ·exact .inr ⟨hq,by omega,by omega⟩
    ·rintro(h|⟨_,_,h⟩)<;>omega
   ·rw[if_neg h1]
    exact⟨.inl,fun h=>h.elim id fun h=>absurd h.2.1 (by omega)⟩
  ·rw[if_neg hq]
   exact⟨.inl,fun h=>h.elim id fun h=>absurd h.1 hq⟩
def lY (q:Int→Bool)(a:Int)(P k:Nat):Prop:= ∀j:Nat,k≤j→j<k+P→q (a+(j:Int))=false
theorem yD (q:Int→Bool)(a:Int): ∀(k d:Nat),(d:Int)≤Wu q a k↔d≤k∧∀j:Nat,k-d≤j→j<k→q (a+(j:Int))=false
 |0,d=>by simp only[Wu];exact⟨fun h=>⟨by omega,fun j _ h=>by omega⟩,fun h=>by have:=h.1;omega⟩
 |k+1,d=>by
  have hr:=gH q a k
  simp only[Wu]
  by_cases hq:q (a+(k:Int))=true
  ·rw[if_pos hq]
   refine⟨fun h=>⟨by omega,fun j h1 h2=>by omega⟩,fun⟨h1,h2⟩=> ?_⟩
   by_cases hd:d=0
   ·omega
   ·have:=h2 k (by omega) (by omega)
    rw[hq]at this;cases this
  ·rw[if_neg hq]
   cases d with
   |zero=>exact⟨fun _=>⟨by omega,fun j h1 h2=>by omega⟩,fun _=>by omega⟩
   |succ e=>
    have ih:=yD q a k e
    constructor
    ·intro h
     obtain⟨h1,h2⟩:=ih.1 (by omega)
     refine⟨by omega,fun j h3 h4=> ?_⟩
     by_cases ej:j=k
     ·subst ej;simpa using hq
     ·exact h2 j (by omega) (by omega)
    ·rintro⟨h1,h2⟩
     have:=ih.2 ⟨by omega,fun j h3 h4=>h2 j (by omega) (by omega)⟩
     omega
theorem uM (q:Int→Bool)(a:Int){P:Int}(hP:1≤P): ∀m,P≤Te q a m↔∃k,k≤m∧P≤Wu q a k
 |0=>⟨fun h=>by simp only[Te]at h;omega,fun⟨k,h1,h2⟩=>by have:=gH q a k;omega⟩
 |m+1=>by
  have ih:=uM q a hP m
  have up:(∃k,k≤m+1∧P≤Wu q a k)↔(∃k,k≤m∧P≤Wu q a k)∨P≤Wu q a (m+1):=by
   constructor
   ·rintro⟨k,h1,h2⟩
    by_cases e:k=m+1
    ·exact .inr (e▸h2)
    ·exact .inl ⟨k,by omega,h2⟩
   ·rintro(⟨k,h1,h2⟩|h)
    ·exact⟨k,by omega,h2⟩
    ·exact⟨m+1,by omega,h⟩
  rw[up,←ih]
  simp only[Te,Wu]
  by_cases hq:q (a+(m:Int))=true
  ·rw[if_pos hq,if_pos hq]
   exact⟨.inl,fun h=>h.elim id fun h=>by omega⟩
  ·rw[if_neg hq,if_neg hq]
   omega
theorem zB (q:Int→Bool)(a:Int){P:Nat}(hP:1≤P)(m:Nat):(P:Int)≤Te q a m↔∃k,k<m+1-P∧lY q a P k:=by
 rw[uM q a (by omega)]
 constructor
 ·rintro⟨k,h1,h2⟩
  obtain⟨h3,h4⟩:=(yD q a k P).1 h2
  exact⟨k-P,by omega,fun j h5 h6=>h4 j h5 (by omega)⟩
 ·rintro⟨k,h1,h2⟩
  exact⟨k+P,by omega,(yD q a (k+P) P).2 ⟨by omega,fun j h5 h6=>h2 j (by omega) h6⟩⟩
def puV (rows:Rows)(n t:Int):Bool:=(atV rows t n).Pulse
open Classical in
def Aim (c:Ab)(rows:Rows)(l:List Int)(n0 f:Int):Int:=
 if¬Ac8 rows l n0 f then 7 else if∃k,k<((rows.length:Int)-f).toNat∧Uy (puV rows n0) f c.Period k then 13 else if∃k,k<((rows.length:Int)-f).toNat+1-c.Period.toNat∧lY (puV rows n0) f c.Period.toNat k then 10 else 0
section
variable {c:Ab} (hc:CIn c) (hp:Bh c=0) {rows:Rows} (hr:rows.length≤100000000) {l:List Int} (hl:l.length≤1000) {n0:Int} (h0:l[0]? =some n0)
include hc hp hr hl h0
theorem zE {f:Int}(hf:f≤1000000000):J0 c rows l f=some (Aim c rows l n0 (max f 0)):=by
 classical
 have pp:=Je hp
 have z0:idx? l 0=some n0:=Ak h0
 have hl0:0<l.length:=(List.getElem?_eq_some_iff.1 h0).1
 unfold J0 Aim
 rw[Ch c hc,zbs,if_neg (by simp[hp]),if_neg (by omega),yP hr hl h0 (by omega),zbs]
 by_cases hcm:Ac8 rows l n0 (max f 0)
 ·rw[decide_eq_true hcm,if_neg (by simp),z0,zbs,if_neg (by simp[hcm])]
  obtain⟨a,ha⟩: ∃a,max f 0=a:=⟨_,rfl⟩
  rw[ha]
  obtain⟨m,hm⟩: ∃m,((rows.length:Int)-a).toNat=m:=⟨_,rfl⟩
  have L:Ai (fun s:Int×Int×Int×Int×Int=>Gh rows n0 s.1 s.2.1 s.2.2.1 s.2.2.2.1 s.2.2.2.2) ((rows.length:Int)+400,0,-1,0,a)=some (R4 (puV rows n0) a ((rows.length:Int)+400) m,Te (puV rows n0) a m):=by
   refine Hq (inv:=fun k=>(R4 (puV rows n0) a ((rows.length:Int)+400) k,Te (puV rows n0) a k,Ln (puV rows n0) a k,Wu (puV rows n0) a k,a+(k:Int))) m (by simp[R4,Te,Ln,Wu]) (fun k hk=> ?_) ?_
   ·have hla:=aN (puV rows n0) (a:=a) (by omega) k
    have hru:=gH (puV rows n0) a k
    simp only[Gh]
    rw[if_pos (by omega),jQ,zbs,wrI (n:=a+(k:Int)+1) rfl (by omega),wrI (n:=Wu (puV rows n0) a k+1) rfl (by omega),wrI (n:=a+(k:Int)-Ln (puV rows n0) a k) rfl (by omega)]
    rw[show(atV rows (a+(k:Int)) n0).Pulse=puV rows n0 (a+(k:Int))from rfl,show a+((k+1:Nat):Int)=a+(k:Int)+1 by omega]
    simp only[R4,Te,Ln,Wu]
    by_cases hq:puV rows n0 (a+(k:Int))=true
    ·rw[if_neg (by simp[hq])]
     simp only[if_pos hq]
     by_cases h1:Ln (puV rows n0) a k≠ -1
     ·simp only[if_pos h1]
     ·simp only[if_neg h1]
    ·rw[if_pos (by simpa using hq)]
     simp only[if_neg hq]
   ·simp only[Gh]
    rw[if_neg (by omega)]
  unfold Sl Ot
  rw[wrI (n:=(rows.length:Int)+400) rfl (by omega),L,zbs,zbs]
  have e1:=uE (puV rows n0) (a:=a) (b:=(rows.length:Int)+400) (P:=c.Period) (by omega) (by omega) m
  have e2:=zB (puV rows n0) a (P:=c.Period.toNat) (by omega) m
  rw[show((c.Period.toNat:Nat):Int)=c.Period by omega]at e2
  simp only[e1,e2,hm]
  split
  ·rfl
  ·split<;>rfl
 ·rw[decide_eq_false hcm,if_pos (by simp),if_pos (by simpa using hcm)]
def orN (q:Int→Bool)(t:Int):Nat→Bool
 |0=>false
 |k+1=>if orN q t k=true then true else q (t+(k:Int))
omit hc hp hr hl h0 in
theorem Abl (q:Int→Bool)(t:Int): ∀k,orN q t k=false↔∀j:Nat,j<k→q (t+(j:Int))=false
 |0=>⟨fun _ j h=>by omega,fun _=>rfl⟩
 |k+1=>by
  have ih:=Abl q t k
  simp only[orN]
  by_cases h1:orN q t k=true
  ·rw[if_pos h1]
   refine⟨fun h=>(by cases h),fun h=> ?_⟩
   rw[ih.2 fun j hj=>h j (by omega)]at h1;cases h1
  ·rw[if_neg h1]
   have h2:=ih.1 (by simpa using h1)
   exact⟨fun h j hj=>if e:j=k then e▸h else h2 j (by omega),fun h=>h k (by omega)⟩
theorem uD {f:Int}(hf:f≤1000000000):Mp c rows l f=some (Aim c rows l n0 (max f 0)):=by
 classical
 have pp:=Je hp
 have z0:idx? l 0=some n0:=Ak h0
 have hl0:0<l.length:=(List.getElem?_eq_some_iff.1 h0).1
 unfold Mp Aim
 rw[Ce c hc,zbs,if_neg (by simp[hp]),if_neg (by omega),uW hr hl h0 (by omega),zbs]
 by_cases hcm:Ac8 rows l n0 (max f 0)
 ·rw[if_pos hcm,if_neg (by simp[hcm]),Sum.elim_inr]
  obtain⟨a,ha⟩: ∃a,max f 0=a:=⟨_,rfl⟩
  rw[ha]
  obtain⟨m,hm⟩: ∃m,((rows.length:Int)-a).toNat=m:=⟨_,rfl⟩
  have L1:=iH (f:=fun s:Int×Int=>Fw rows l c a s.1 s.2) (fun k=>(Ln (puV rows n0) a k,a+(k:Int))) m (Uy (puV rows n0) a c.Period) (13:Int) (fun k hk=>by
   have hla:=aN (puV rows n0) (a:=a) (by omega) k
   simp only[Fw]
   rw[if_pos (by omega),z0,zbs,Ww,zbs,wrI (n:=a+(k:Int)+1) rfl (by omega),wrI (n:=a+(k:Int)-Ln (puV rows n0) a k) rfl (by omega)]
   rw[show(atV rows (a+(k:Int)) n0).Pulse=puV rows n0 (a+(k:Int))from rfl,show a+((k+1:Nat):Int)=a+(k:Int)+1 by omega]
   simp only[Ln,Uy]
   by_cases hq:puV rows n0 (a+(k:Int))=true
   ·simp only[if_pos hq]
    by_cases h1:0≤Ln (puV rows n0) a k
    ·simp only[if_pos h1]
     by_cases h2:a+(k:Int)-Ln (puV rows n0) a k<c.Period
     ·rw[if_pos h2,if_pos ⟨hq,h1,h2⟩]
     ·rw[if_neg h2,if_neg (fun h=>h2 h.2.2)]
    ·simp only[if_neg h1]
     rw[if_neg (fun h=>h1 h.2.1)]
   ·simp only[if_neg hq]
    rw[if_neg (fun h=>hq h.1)]) (by simp only[Fw];rw[if_neg (by omega)])
  have L2: ∀k:Nat,k<m+1-c.Period.toNat→Oo rows l c (a+(k:Int)) false (a+(k:Int))=some (orN (puV rows n0) (a+(k:Int)) c.Period.toNat):=fun k hk=>by
   refine Hq (f:=fun s:Bool×Int=>F2 rows l c (a+(k:Int)) s.1 s.2) (inv:=fun j=>(orN (puV rows n0) (a+(k:Int)) j,a+(k:Int)+(j:Int))) c.Period.toNat (by simp[orN]) (fun j hj=> ?_) ?_
   ·simp only[F2]
    rw[wrI (n:=a+(k:Int)+c.Period) rfl (by omega),if_pos (by omega),wrI (n:=a+(k:Int)+(j:Int)+1) rfl (by omega),z0,zbs,Ww,zbs,show a+(k:Int)+((j+1:Nat):Int)=a+(k:Int)+(j:Int)+1 by omega]
    simp only[orN]
    by_cases hq:orN (puV rows n0) (a+(k:Int)) j=true
    ·rw[if_pos hq,if_pos hq]
    ·rw[if_neg hq,if_neg hq];rfl
   ·simp only[F2]
    rw[wrI (n:=a+(k:Int)+c.Period) rfl (by omega),if_neg (by omega)]
  have L3:=iH (f:=fun s:Int=>Fu rows l c s) (fun k=>a+(k:Int)) (m+1-c.Period.toNat) (lY (puV rows n0) a c.Period.toNat) (10:Int) (fun k hk=>by
   simp only[Fu]
   rw[wrI (n:=(rows.length:Int)-(a+(k:Int))) rfl (by omega),if_pos (by omega),L2 k hk,zbs,wrI (n:=a+(k:Int)+1) rfl (by omega),show a+((k+1:Nat):Int)=a+(k:Int)+1 by omega]
   have e:=Abl (puV rows n0) (a+(k:Int)) c.Period.toNat
   have e2:(∀j:Nat,j<c.Period.toNat→puV rows n0 (a+(k:Int)+(j:Int))=false)↔lY (puV rows n0) a c.Period.toNat k:=
    ⟨fun h j h1 h2=>by have:=h (j-k) (by omega);rwa [show a+(k:Int)+((j-k:Nat):Int)=a+(j:Int) by omega]at this,
      fun h j hj=>by have:=h (k+j) (by omega) (by omega);rwa [show a+((k+j:Nat):Int)=a+(k:Int)+(j:Int) by omega]at this⟩
   by_cases hq:lY (puV rows n0) a c.Period.toNat k
   ·rw[if_pos hq,e.2 (e2.2 hq)];rfl
   ·rw[if_neg hq,if_neg]
    intro h
    exact hq (e2.1 (e.1 (by simpa using h)))) (by
   simp only[Fu]
   rw[wrI rfl (by omega),if_neg (by omega)])
  unfold Oz Pb
  simp only[Ln,Int.natCast_zero,Int.add_zero]at L1 L3
  simp only[hm]
  rw[L1,zbs]
  by_cases q1: ∃k,k<m∧Uy (puV rows n0) a c.Period k
  ·rw[if_pos q1,if_pos q1];rfl
  ·rw[if_neg q1,if_neg q1,Sum.elim_inr,L3,zbs]
   by_cases q2: ∃k,k<m+1-c.Period.toNat∧lY (puV rows n0) a c.Period.toNat k
   ·rw[if_pos q2,if_pos q2];rfl
   ·rw[if_neg q2,if_neg q2];rfl
 ·rw[if_neg hcm,if_pos (by simpa using hcm)];rfl
end
theorem kD {n m:Int}(h:n=m)(h1: -9223372036854775808≤m∧m≤9223372036854775807):IntKind.wrap .i64 n=m:=by
 have:=wrI h h1
 unfold wr at this
 exact this
def Xi (c:Ab)(g b:Int):Prop:=g*c.Drift<g*c.Rate-b∨g*c.Drift<b-g*c.Rate
instance (c :Ab)(g b:Int):Decidable (Xi c g b):=by unfold Xi;infer_instance
def brd (c:Ab)(k:Nat):Int:=c.Offset+(k:Int)*c.Slot
def bK (c:Ab)(g:Int):Prop:=0≤g∧g≤2000∧∀k∈List.range (c.Table.length+1),Xi c g (brd c k)
instance (c :Ab)(g:Int):Decidable (bK c g):=by unfold bK;infer_instance
def Wr (c:Ab)(g:Int):Int:=if g<0 then-1 else if 2000<g then-1 else if g*c.Rate<c.Offset then-1 else if(c.Table.length:Int)≤(g*c.Rate-c.Offset)/c.Slot then-1 else(g*c.Rate-c.Offset)/c.Slot
section
variable {c:Ab} (hc:CIn c) (hp:Bh c=0)
include hc hp
theorem S9 :(1≤c.Rate∧c.Rate≤64)∧(0≤c.Drift∧c.Drift≤c.Rate-1)∧(0≤c.Offset∧c.Offset≤30000)∧(1≤c.Slot∧c.Slot≤30000)∧1≤c.Table.length∧c.Table.length≤32:=by
 have _:=hc
 obtain⟨-,-,⟨-,-,a1,a2,a3,a4,a5,a6,a7,a8,-⟩,b1,b2,-⟩:=(A7 c).1 hp
 exact⟨⟨a1,a2⟩,⟨a3,a4⟩,⟨a5,a6⟩,⟨a7,a8⟩,b1,b2⟩
theorem Xa {k:Nat}(hk:k≤32):0≤(k:Int)*c.Slot∧(k:Int)*c.Slot≤960000∧0≤brd c k∧brd c k≤990000:=by
 obtain⟨-,-,a,b,-⟩:=S9 hc hp
 have h:=fT (a:=(k:Int)) (A:=32) (B:=30000) (by omega) (by omega) (show 0≤c.Slot by omega) b.2
 unfold brd
 omega
theorem Ad1 {k:Nat}(hk:k<c.Table.length):Ps c (k:Int)=some (brd c k):=by
 have n:=S9 hc hp
 have b:=Xa hc hp (k:=k) (by omega)
 unfold Ps Lk Lt Dw
 rw[Ch c hc,zbs,zbs]
 simp only[hp,decide_true,Bool.not_true,Bool.false_eq_true,if_false]
 rw[if_pos (by omega),zbs,if_neg (by simp;omega),zbs,wrI (n:=(k:Int)*c.Slot) rfl (by omega),wrI rfl (by unfold brd at b;omega)]
 rfl
theorem dQ {k:Nat}(hk:k<c.Table.length):Hz c (k:Int)=some (brd c k):=by
 have n:=S9 hc hp
 have b:=Xa hc hp (k:=k) (by omega)
 unfold Hz
 rw[Ce c hc,zbs,if_neg (by simp[hp]),if_neg (by omega),if_neg (by omega),wrI (n:=(k:Int)*c.Slot) rfl (by omega),wrI rfl (by unfold brd at b;omega)]
 rfl
theorem prods {g:Int}(g0:0≤g)(g1:g≤2000):(0≤g*c.Rate∧g*c.Rate≤128000)∧0≤g*c.Drift∧g*c.Drift≤128000:=by
 obtain⟨a,b,-⟩:=S9 hc hp
 exact⟨fT (A:=2000) (B:=64) g0 g1 (by omega) a.2,fT (A:=2000) (B:=64) g0 g1 b.1 (by omega)⟩
theorem Aif {g b:Int}(g0:0≤g)(g1:g≤2000)(b0:0≤b)(b1:b≤2000000):Y0 c g b=some (decide (Xi c g b)):=by
 obtain⟨p1,p2⟩:=prods hc hp g0 g1
 unfold Y0
 rw[wrI (n:=g*c.Drift) rfl (by omega),wrI (n:=g*c.Rate) rfl (by omega),wrI (n:=g*c.Rate-b) rfl (by omega)]
 rw[show IntKind.wrap .i64 (0-(g*c.Rate-b))=b-g*c.Rate from kD (by omega) (by omega)]
 by_cases h:g*c.Drift<g*c.Rate-b
 ·rw[if_pos h,decide_eq_true (show Xi c g b from Or.inl h)]
 ·rw[if_neg h]
  by_cases h2:g*c.Drift<b-g*c.Rate
  ·rw[decide_eq_true h2,decide_eq_true (show Xi c g b from Or.inr h2)]
  ·rw[decide_eq_false h2,decide_eq_false (show¬Xi c g b from fun hh=>hh.elim h h2)]
theorem Adv (g:Int):Ul c g=some (decide (bK c g)):=by
 have n:=S9 hc hp
 unfold Ul
 rw[Ce c hc,zbs,if_neg (by simp[hp])]
 by_cases g0:g<0
 ·rw[if_pos g0,decide_eq_false (fun h=>by have:=h.1;omega)]
 rw[if_neg g0]
 by_cases g1:2000<g
 ·rw[if_pos g1,decide_eq_false (fun h=>by have:=h.2.1;omega)]
 rw[if_neg g1]
 have L:=Dz (f:=fun s=>Hs g c s) (List.range c.Table.length) (fun k=>Xi c g (brd c k)) (fun k x hk hx=>by
  rw[List.length_range]at hk
  rw[List.getElem?_range hk]at hx
  injection hx with hx
  subst hx
  have b:=Xa hc hp (k:=k) (by omega)
  simp only[Hs]
  rw[if_pos (by omega),dQ hc hp hk,zbs,Aif hc hp (by omega) (by omega) b.2.2.1 (by omega),zbs,wrI (n:=(k:Int)+1) rfl (by omega)]
  by_cases h:Xi c g (brd c k)<;>simp[h]) (by simp only[Hs,List.length_range];rw[if_neg (by omega)])
 have b:=Xa hc hp (k:=c.Table.length-1) (by omega)
 have b9:=Xa hc hp (k:=c.Table.length) (by omega)
 have e9:brd c (c.Table.length-1)+c.Slot=brd c c.Table.length:=by
  unfold brd
  have:((c.Table.length-1:Nat):Int)*c.Slot+c.Slot=(c.Table.length:Int)*c.Slot:=by
   rw[show(c.Table.length:Int)=((c.Table.length-1:Nat):Int)+1 by omega,Int.add_mul,Int.one_mul]
  omega
 unfold Tb
 rw[L,zbs]
 have up:bK c g↔(∀k∈List.range c.Table.length,Xi c g (brd c k))∧Xi c g (brd c c.Table.length):=by
  constructor
  ·intro h
   exact⟨fun k hk=>h.2.2 k (List.mem_range.2 (by have:=List.mem_range.1 hk;omega)),h.2.2 _ (List.mem_range.2 (by omega))⟩
  ·intro h
   refine⟨by omega,by omega,fun k hk=> ?_⟩
   have:=List.mem_range.1 hk
   by_cases e:k=c.Table.length
   ·exact e▸h.2
   ·exact h.1 k (List.mem_range.2 (by omega))
 by_cases h: ∀k∈List.range c.Table.length,Xi c g (brd c k)
 ·rw[if_pos h,Sum.elim_inr,wrI (n:=(c.Table.length:Int)-1) (m:=((c.Table.length-1:Nat):Int)) (by omega) (by omega),dQ hc hp (by omega),zbs,e9,wrI (n:=brd c c.Table.length) rfl (by omega),Aif hc hp (by omega) (by omega) b9.2.2.1 (by omega),zbs]
  congr 1
  exact Bool.eq_iff_iff.2 (by simp only[decide_eq_true_eq];exact⟨fun hh=>up.2 ⟨h,hh⟩,fun hh=>(up.1 hh).2⟩)
 ·rw[if_neg h,Sum.elim_inl,decide_eq_false (fun hh=>h (up.1 hh).1)]
theorem Ajp (g:Int):Rl c g=some (decide (bK c g)):=by
 have n:=S9 hc hp
 unfold Rl Mh
 by_cases g0:0≤g
 ·rw[if_pos g0,zbs]
  by_cases g1:g≤2000
  ·obtain⟨p1,p2⟩:=prods hc hp g0 g1
   rw[decide_eq_true g1,if_neg (by simp),Ch c hc,zbs,if_neg (by simp[hp])]
   have hb:Nc c=some ((List.range (c.Table.length+1)).map (brd c)):=by
    have L:=Hq (f:=fun s:List Int×Int=>D1 c (c.Table.length:Int) s.1 s.2) (s:=([],0)) (r:=(List.range c.Table.length).map (brd c)) (fun k=>((List.range k).map (brd c),(k:Int))) c.Table.length (by simp) (fun k hk=>by
     simp only[D1]
     rw[if_pos (by omega),Ad1 hc hp hk,zbs,if_pos (by simp only[List.length_map,List.length_range,List.length_cons,List.length_nil,Ar];omega),wrI (n:=(k:Int)+1) rfl (by omega),List.range_succ,List.map_append]
     rfl) (by simp only[D1];rw[if_neg (by omega)])
    have b9:=Xa hc hp (k:=c.Table.length) (by omega)
    unfold Nc Rq
    rw[L,zbs,wrI (n:=(c.Table.length:Int)*c.Slot) rfl (by omega),wrI (n:=c.Offset+(c.Table.length:Int)*c.Slot) rfl (by unfold brd at b9;omega),if_pos (by simp only[List.length_map,List.length_range,List.length_cons,List.length_nil,Ar];omega),List.range_succ,List.map_append]
    rfl
   rw[hb,zbs,wrI (n:=c.Rate-c.Drift) rfl (by omega),wrI (n:=c.Rate+c.Drift) rfl (by omega),wrI (n:=g*(c.Rate-c.Drift)) rfl (by rw[Int.mul_sub];omega),wrI (n:=g*(c.Rate+c.Drift)) rfl (by rw[Int.mul_add];omega)]
   have E:=Fz (fun s=>Iy (Cs.mk (g*(c.Rate-c.Drift)) (g*(c.Rate+c.Drift))) ((List.range (c.Table.length+1)).map (brd c)) ((((List.range (c.Table.length+1)).map (brd c)).length:Nat):Int) s) ((List.range (c.Table.length+1)).map (brd c)) (fun b=>Xi c g b) (fun k x hk hx=>by
    simp only[List.length_map,List.length_range]at hk
    simp only[Iy,Ko]
    rw[if_pos (by simp only[List.length_map,List.length_range];omega),Ak hx,zbs,wrI (n:=(k:Int)+1) rfl (by omega),Int.mul_sub,Int.mul_add]
    by_cases h1:x<g*c.Rate-g*c.Drift
    ·rw[if_pos h1,zbs,if_neg (by simp),if_pos (show Xi c g x from Or.inl (by omega))]
    ·rw[if_neg h1,zbs]
     by_cases h2:g*c.Rate+g*c.Drift<x
     ·rw[if_neg (by simpa using h2),if_pos (show Xi c g x from Or.inr (by omega))]
     ·rw[if_pos (by simpa using h2),if_neg (show¬Xi c g x from by unfold Xi;omega)]) (by simp only[Iy];rw[if_neg (by omega)])
   unfold bL Vb
   rw[E,zbs]
   congr 1
   refine Bool.eq_iff_iff.2 ?_
   simp only[decide_eq_true_eq,List.forall_mem_map]
   exact⟨fun h=>⟨g0,g1,h⟩,fun h=>h.2.2⟩
  ·rw[decide_eq_false g1,if_pos (by simp),decide_eq_false fun h=>g1 h.2.1]
 ·rw[if_neg g0,zbs,if_pos (by simp),decide_eq_false fun h=>g0 h.1]
theorem xI (g:Int):M4 c g=some (Wr c g):=by
 have n:=S9 hc hp
 unfold M4 Mh Wr
 by_cases g0:g<0
 ·rw[if_neg (by omega),zbs,if_pos (by simp),if_pos g0]
 rw[if_pos (by omega),zbs,if_neg g0]
 by_cases g1:2000<g
 ·rw[decide_eq_false (by omega),if_pos (by simp),if_pos g1]
 obtain⟨p1,p2⟩:=prods hc hp (show 0≤g by omega) (by omega)
 rw[decide_eq_true (by omega),if_neg (by simp),if_neg g1,Ch c hc,zbs,if_neg (by simp[hp])]
 unfold Ve
 rw[Ch c hc,zbs,if_neg (by simp[hp]),wrI (n:=g*c.Rate) rfl (by omega)]
 by_cases h1:g*c.Rate<c.Offset
 ·rw[if_pos h1,if_pos h1];rfl
 rw[if_neg h1,if_neg h1,if_neg (by omega),wrI (n:=g*c.Rate-c.Offset) rfl (by omega),Int.tdiv_eq_ediv_of_nonneg (by omega)]
 have d0:0≤(g*c.Rate-c.Offset)/c.Slot:=Int.ediv_nonneg (by omega) (by omega)
 have d1:(g*c.Rate-c.Offset)/c.Slot≤g*c.Rate-c.Offset:=Int.ediv_le_self _ (by omega)
 rw[wrI (n:=(g*c.Rate-c.Offset)/c.Slot) rfl (by omega)]
 split<;>rfl
theorem uX (g:Int):P0 c g=some (Wr c g):=by
 classical
 have n:=S9 hc hp
 unfold P0 Wr
 by_cases g0:g<0
 ·rw[if_pos g0,if_pos g0]
 rw[if_neg g0,if_neg g0]
 by_cases g1:2000<g
 ·rw[if_pos g1,if_pos g1]
 obtain⟨p1,p2⟩:=prods hc hp (show 0≤g by omega) (by omega)
 rw[if_neg g1,if_neg g1,wrI (n:=g*c.Rate) rfl (by omega)]
 unfold aX
 rw[Ce c hc,zbs,if_neg (by simp[hp])]
 obtain⟨x,hx⟩: ∃x,g*c.Rate=x:=⟨_,rfl⟩
 rw[hx]at p1 ⊢
 have step: ∀k:Nat,k<c.Table.length→Ey x c (k:Int)=some (if brd c k≤x∧x<brd c k+c.Slot then .inr (.inl (k:Int))else .inl ((k:Int)+1)):=fun k hk=>by
  have b:=Xa hc hp (k:=k) (by omega)
  simp only[Ey]
  rw[if_pos (by omega),dQ hc hp hk,zbs,zbs,wrI (n:=brd c k+c.Slot) rfl (by omega),wrI (n:=(k:Int)+1) rfl (by omega)]
  by_cases h1:brd c k≤x
  ·rw[if_pos h1]
   by_cases h2:x<brd c k+c.Slot
   ·rw[if_pos h2,if_pos ⟨h1,h2⟩]
   ·rw[if_neg h2,if_neg fun h=>h2 h.2]
  ·rw[if_neg h1,if_neg fun h=>h1 h.1]
 have inB: ∀k:Nat,c.Offset≤x→(brd c k≤x∧x<brd c k+c.Slot↔(k:Int)=(x-c.Offset)/c.Slot):=fun k ho=>by
  have e:=Int.emod_add_mul_ediv (x-c.Offset) c.Slot
  have e1:=Int.emod_nonneg (x-c.Offset) (show c.Slot≠0 by omega)
  have e2:=Int.emod_lt_of_pos (x-c.Offset) (show 0<c.Slot by omega)
  unfold brd
  constructor
  ·rintro⟨h1,h2⟩
   refine(Int.le_antisymm ?_ ?_)
   ·exact(Int.le_ediv_iff_mul_le (by omega)).2 (by omega)
   ·exact Int.le_of_lt_add_one ((Int.ediv_lt_iff_lt_mul (by omega)).2 (by rw[Int.add_mul,Int.one_mul];omega))
  ·intro h
   rw[h,Int.mul_comm]
   omega
 have key: ∀j k:Nat,k+j=c.Table.length→(∀i:Nat,i<k→¬(brd c i≤x∧x<brd c i+c.Slot))→Ai (fun s=>Ey x c s) (k:Int)=some (if x<c.Offset then .inr ()else if(c.Table.length:Int)≤(x-c.Offset)/c.Slot then .inr ()else .inl ((x-c.Offset)/c.Slot)):=by
  intro j
  induction j with
  |zero=>
   intro k hk hn
   rw[Av (by simp only[Ey];rw[if_neg (by omega)])]
   by_cases h1:x<c.Offset
   ·rw[if_pos h1]
   rw[if_neg h1,if_pos]
   have d0:0≤(x-c.Offset)/c.Slot:=Int.ediv_nonneg (by omega) (by omega)
   by_cases h2:(c.Table.length:Int)≤(x-c.Offset)/c.Slot
   ·exact h2
   ·exact absurd ((inB ((x-c.Offset)/c.Slot).toNat (by omega)).2 (by omega)) (hn _ (by omega))
  |succ j ih=>
   intro k hk hn
   have hs:=step k (by omega)
   by_cases h:brd c k≤x∧x<brd c k+c.Slot
   ·rw[if_pos h]at hs
    have b:=Xa hc hp (k:=k) (by omega)
    have ho:c.Offset≤x:=by
     have:=h.1;unfold brd at this;omega
    have e:=(inB k ho).1 h
    rw[Av hs,if_neg (by omega),if_neg (by omega),e]
   ·rw[if_neg h]at hs
    rw[A5 hs]
    exact ih (k+1) (by omega) fun i hi=>if e:i=k then e▸h else hn i (by omega)
 have K:=key c.Table.length 0 (by omega) (fun i hi=>by omega)
 unfold Vv
 rw[show Ai (fun s=>Ey x c s) 0=_ from K,zbs]
 by_cases h1:x<c.Offset
 ·rw[if_pos h1,if_pos h1];rfl
 rw[if_neg h1,if_neg h1]
 by_cases h2:(c.Table.length:Int)≤(x-c.Offset)/c.Slot
 ·rw[if_pos h2,if_pos h2];rfl
 ·rw[if_neg h2,if_neg h2];rfl
end
theorem mT (rows:Rows)(n t:Int): ∀k:Nat,(dU rows n t k= -1∧∀i:Nat,i<k→(atV rows (i:Int) n).Pulse=false)∨∃j:Nat,j<k∧dU rows n t k=t-(j:Int)∧(atV rows (j:Int) n).Pulse=true∧∀i:Nat,j<i→i<k→(atV rows (i:Int) n).Pulse=false
 |0=>.inl ⟨rfl,fun i h=>by omega⟩
 |k+1=>by
  simp only[dU]
  by_cases hp:(atV rows (k:Int) n).Pulse=true
  ·rw[if_pos hp]
   exact .inr ⟨k,by omega,rfl,hp,fun i h1 h2=>by omega⟩
  ·rw[if_neg hp]
   have hp:(atV rows (k:Int) n).Pulse=false:=by simpa using hp
   rcases mT rows n t k with⟨h1,h2⟩|⟨j,h1,h2,h3,h4⟩
   ·exact .inl ⟨h1,fun i hi=>if e:i=k then e▸hp else h2 i (by omega)⟩
   ·exact .inr ⟨j,by omega,h2,h3,fun i h5 h6=>if e:i=k then e▸hp else h4 i h5 (by omega)⟩
theorem dX (rows:Rows)(n:Int){t:Int}(t0:0≤t)(t1:t<(rows.length:Int)):(Jh rows n t= -1∧∀i,0≤i→i≤t→(atV rows i n).Pulse=false)∨(0≤Jh rows n t∧Jh rows n t≤t∧(atV rows (t-Jh rows n t) n).Pulse=true∧∀i,t-Jh rows n t<i→i≤t→(atV rows i n).Pulse=false):=by
 unfold Jh
 rw[if_neg (by omega)]
 have up: ∀(j:Nat) (i:Int),(j:Int)<i→i≤t→(∀i:Nat,j<i→i<(t+1).toNat→(atV rows (i:Int) n).Pulse=false)→(atV rows i n).Pulse=false:=fun j i h1 h2 h=>by
  have:=h i.toNat (by omega) (by omega)
  rwa [show((i.toNat:Nat):Int)=i by omega]at this
 rcases mT rows n t (t+1).toNat with⟨h1,h2⟩|⟨j,h1,h2,h3,h4⟩
 ·refine .inl ⟨h1,fun i i0 i1=> ?_⟩
  have:=h2 i.toNat (by omega)
  rwa [show((i.toNat:Nat):Int)=i by omega]at this
 ·rw[h2]
  refine .inr ⟨by omega,by omega,by rw[show t-(t-(j:Int))=(j:Int) by omega];exact h3,fun i i0 i1=>up j i (by omega) i1 h4⟩
theorem bW {e e':Int→Int}: ∀(m:Nat) (a:Int),(∀t,a≤t→t<a+(m:Int)→e t=e' t)→E8 e a m=E8 e' a m
 |0,a,_=>rfl
 |m+1,a,h=>by
  simp only[E8]
  rw[h a (by omega) (by omega),bW m (a+1) fun t h1 h2=>h t (by omega) (by omega)]
theorem eZ {e:Int→Int}(L:Int): ∀(m:Nat) (a f:Int),a≤f→(f-a).toNat=m→(∀t,a≤t→t<f→e t=0)→E8 e a (L-a).toNat=E8 e f (L-f).toNat
 |0,a,f,h1,h2,_=>by obtain rfl:a=f:=by omega
                    rfl
 |m+1,a,f,h1,h2,h=>by
  have ih:=eZ L m (a+1) f (by omega) (by omega) fun t h3 h4=>h t (by omega) h4
  by_cases hL:a<L
  ·rw[←ih,show(L-a).toNat=(L-(a+1)).toNat+1 by omega]
   simp only[E8]
   rw[if_neg (by simp[h a (by omega) (by omega)])]
  ·rw[show(L-a).toNat=0 by omega,show(L-f).toNat=0 by omega];rfl
def sL (rows:Rows)(l:List Int)(n0:Int)(c:Ab)(a t:Int):Int:=
 if Jh rows n0 t<0 then 0 else if t-Jh rows n0 t<a then 0 else if∃n∈l,bK c (Jh rows n0 t)∧(atV rows t n).Slot≠Wr c (Jh rows n0 t)then 11 else 0
section
variable {rows:Rows} {l:List Int} {n0:Int} {s:Aa} (hf:lM s.Conf.N rows) (hl:l.length≤1000) (hin: ∀n∈l,0≤n∧n<s.Conf.N) (h0:l[0]? =some n0) (hc:CIn s.Conf) (hp:Bh s.Conf=0)
include hf hl hin h0 hc hp
theorem Ali {a:Int}(ha:0≤a):Ly (Ad.mk s l rows a)=some (E8 (sL rows l n0 s.Conf a) a ((rows.length:Int)-a).toNat):=by
 have hr:=hf.1
 have z0:idx? l 0=some n0:=Ak h0
 refine Kj (Mq (f:=fun p=>Dy (Ad.mk s l rows a) p) (rows.length:Int) (sL rows l n0 s.Conf a) (fun t ht=>by simp only[Dy];rw[if_neg (by omega)]) _ a rfl fun t h1 h2=> ?_)
 have hs:=dX rows n0 (t:=t) (by omega) h2
 simp only[Dy,Bl]
 rw[if_pos h2,z0,zbs,zbs,Alu hr n0 (by omega),zbs,wrI (n:=t+1) rfl (by omega),wrI (n:=t-Jh rows n0 t) rfl (by omega)]
 unfold sL
 by_cases q1:Jh rows n0 t<0
 ·rw[if_pos q1,if_pos q1];rfl
 rw[if_neg q1,if_neg q1]
 by_cases q2:t-Jh rows n0 t<a
 ·rw[if_pos q2,if_pos q2];rfl
 rw[if_neg q2,if_neg q2,Ajp hc hp,zbs]
 by_cases q3:bK s.Conf (Jh rows n0 t)
 ·rw[decide_eq_true q3,if_neg (by simp),xI hc hp,zbs]
  have e2:Kk (Ad.mk s l rows a) t (Wr s.Conf (Jh rows n0 t))=some (decide (∃n∈l,(atV rows t n).Slot≠Wr s.Conf (Jh rows n0 t)),Wr s.Conf (Jh rows n0 t)):=by
   refine fW (fun p=>Dn t (Ad.mk s l rows a) l (l.length:Int) p.1 p.2) _ l (fun n=>(atV rows t n).Slot≠Wr s.Conf (Jh rows n0 t)) (fun k x hk hx=> ?_) ?_
   ·have ix:=hin x (List.mem_of_getElem? hx)
    obtain⟨y,hy,hy2⟩:=Ji hf (show 0≤t by omega) h2 ix.1 ix.2
    simp only[Dn,Jr]
    rw[if_pos (by omega),Ak hx,zbs,hy,zbs,hy2,zbs,zbs,wrI rfl (by omega)]
    by_cases h:(atV rows t x).Slot≠Wr s.Conf (Jh rows n0 t)<;>simp[h]
   ·simp only[Dn];rw[if_neg (by omega)]
  rw[e2,zbs]
  by_cases q4: ∃n∈l,(atV rows t n).Slot≠Wr s.Conf (Jh rows n0 t)
  ·have hv: ∃n∈l,bK s.Conf (Jh rows n0 t)∧(atV rows t n).Slot≠Wr s.Conf (Jh rows n0 t):=by obtain⟨n,hn,h⟩:=q4;exact⟨n,hn,q3,h⟩
   rw[if_pos (decide_eq_true q4)]
   simp only[if_pos hv];rfl
  ·have hv: ¬∃n∈l,bK s.Conf (Jh rows n0 t)∧(atV rows t n).Slot≠Wr s.Conf (Jh rows n0 t):=fun⟨n,hn,_,h⟩=>q4 ⟨n,hn,h⟩
   rw[if_neg (by simpa using q4)]
   simp only[if_neg hv];rfl
 ·have hv: ¬∃n∈l,bK s.Conf (Jh rows n0 t)∧(atV rows t n).Slot≠Wr s.Conf (Jh rows n0 t):=fun⟨_,_,h,_⟩=>q3 h
  rw[decide_eq_false q3,if_pos (by simp)]
  simp only[if_neg hv];rfl
theorem xS {a:Int}(ha:0≤a): ∃f,S8 rows l s a=some f∧a≤f∧(∀t,a≤t→t<f→t<(rows.length:Int)∧(atV rows t n0).Pulse=false)∧(f<(rows.length:Int)→(atV rows f n0).Pulse=true):=by
 have _:=hl
 have _:=hc
 have _:=hp
 have hr:=hf.1
 have z0:idx? l 0=some n0:=Ak h0
 have i0:=hin n0 (List.mem_of_getElem? h0)
 have key: ∀(m:Nat) (a:Int),0≤a→((rows.length:Int)-a).toNat=m→∃f,Ai (fun p=>Fk rows l s p) a=some f∧a≤f∧(∀t,a≤t→t<f→t<(rows.length:Int)∧(atV rows t n0).Pulse=false)∧(f<(rows.length:Int)→(atV rows f n0).Pulse=true):=by
  intro m
  induction m with
  |zero=>
   intro a ha hm
   exact⟨a,Av (by simp only[Fk];rw[if_neg (by omega)]),by omega,fun t h1 h2=>by omega,fun h=>by omega⟩
  |succ m ih=>
   intro a ha hm
   obtain⟨z,hz,hz2⟩:=Ji hf ha (show a<(rows.length:Int) by omega) i0.1 i0.2
   by_cases hq:(atV rows a n0).Pulse=true
   ·exact⟨a,Av (by simp only[Fk];rw[if_pos (by omega),hz,zbs,z0,zbs,hz2,zbs,if_neg (by simp[hq])]),by omega,fun t h1 h2=>by omega,fun _=>hq⟩
   ·obtain⟨f,h1,h2,h3,h4⟩:=ih (a+1) (by omega) (by omega)
    refine⟨f,(A5 (by simp only[Fk];rw[if_pos (by omega),hz,zbs,z0,zbs,hz2,zbs,if_pos (by simpa using hq),wrI (n:=a+1) rfl (by omega)])).trans h1,by omega,fun t h5 h6=> ?_,h4⟩
    by_cases e:t=a
    ·subst e;exact⟨by omega,by simpa using hq⟩
    ·exact h3 t (by omega) h6
 exact key _ a ha rfl
theorem yO {f:Int}(hf0:0≤f):((S5 rows l s f).bind fun r12=>Sum.elim (fun r13=>some r13) (fun r14=>some 0) r12)=some (E8 (fun t=>if∃n∈l,bK s.Conf (Jh rows n0 t)∧(atV rows t n).Slot≠Wr s.Conf (Jh rows n0 t)then 11 else 0) f ((rows.length:Int)-f).toNat):=by
 have hr:=hf.1
 have z0:idx? l 0=some n0:=Ak h0
 refine Kj (Mq (f:=fun p=>H3 rows l s p) (rows.length:Int) _ (fun t ht=>by simp only[H3];rw[if_neg (by omega)]) _ f rfl fun t h1 h2=> ?_)
 have e1: ∀g,Sg rows l s t g l (l.length:Int) 0=some (if∃n∈l,bK s.Conf g∧(atV rows t n).Slot≠Wr s.Conf g then .inl 11 else .inr ()):=fun g=>by
  refine Dt (f:=fun p=>Ht rows l s t g l (l.length:Int) p) l (fun n=>bK s.Conf g∧(atV rows t n).Slot≠Wr s.Conf g) 11 (fun k x hk hx=> ?_) ?_ |>.trans ?_
  ·have ix:=hin x (List.mem_of_getElem? hx)
   obtain⟨y,hy,hy2⟩:=Ji hf (show 0≤t by omega) h2 ix.1 ix.2
   simp only[Ht]
   rw[if_pos (by omega),Ak hx,zbs,Adv hc hp,zbs,wrI rfl (by omega)]
   by_cases q3:bK s.Conf g
   ·rw[if_pos (decide_eq_true q3),hy,zbs,hy2,zbs,uX hc hp,zbs]
    by_cases q4:(atV rows t x).Slot≠Wr s.Conf g
    ·rw[if_pos q4,if_pos ⟨q3,q4⟩]
    ·rw[if_neg q4,if_neg fun h=>q4 h.2]
   ·rw[if_neg (by simpa using q3),if_neg fun h=>q3 h.1]
  ·simp only[Ht];rw[if_neg (by omega)]
  ·congr 1;split<;>rfl
 simp only[H3]
 rw[if_pos h2,z0,zbs,Abx hr n0 (by omega),zbs,e1,zbs,wrI (n:=t+1) rfl (by omega)]
 split<;>rfl
end
section
variable {s:Aa} (h:SIn s) (hz:E6 s=0) {rows:Rows} (hf:lM s.Conf.N rows) (hin: ∀n∈Bc s,0≤n∧n<s.Conf.N) {n0:Int} (h0:(Bc s)[0]? =some n0)
include h hz hf hin h0
theorem zH :Q5 s rows (Bc s)=some (E8 (sL rows (Bc s) n0 s.Conf (Kb s)) (Kb s) ((rows.length:Int)-Kb s).toNat):=by
 have hl:=It s
 have hp:=Ga hz
 have ha:=Yo h hp
 unfold Q5
 rw[bE h hz,zbs,show max 0 (wr (K1 s+dT s.Conf))=Kb s from rfl]
 obtain⟨f,e,f1,f2,f3⟩:=xS hf (by omega) hin h0 h.conf hp ha.1
 rw[e,zbs,yO hf (by omega) hin h0 h.conf hp (by omega)]
 congr 1
 rw[eZ (e:=sL rows (Bc s) n0 s.Conf (Kb s)) (rows.length:Int) _ (Kb s) f f1 rfl fun t h1 h2=> ?_]
 ·refine bW _ f fun t h1 h2=> ?_
  have hL:f<(rows.length:Int):=by omega
  have hq:=f3 hL
  unfold sL
  rcases dX rows n0 (t:=t) (by omega) (by omega)with⟨g1,g2⟩|⟨g1,g2,g3,g4⟩
  ·rw[g2 f (by omega) h1]at hq;cases hq
  ·have w1: ¬Jh rows n0 t<0:=by omega
   have w2: ¬t-Jh rows n0 t<Kb s:=fun hh=>by rw[g4 f (by omega) h1]at hq;cases hq
   rw[if_neg w1,if_neg w2]
 ·obtain⟨b1,b2⟩:=f2 t h1 h2
  unfold sL
  rcases dX rows n0 (t:=t) (by omega) b1 with⟨g1,g2⟩|⟨g1,g2,g3,g4⟩
  ·rw[if_pos (by omega)]
  ·have w1: ¬Jh rows n0 t<0:=by omega
   have w2:t-Jh rows n0 t<Kb s:=Classical.byContradiction fun hh=>by rw[(f2 (t-Jh rows n0 t) (by omega) (by omega)).2]at g3;cases g3
   rw[if_neg w1,if_pos w2]
end
theorem pU {s:Aa}(h:SIn s)(n:Int):Bb (Af.mk s.Conf s.Faulty) n=some (decide (n∈s.Faulty)):=by
 have:=h.f
 unfold Bb
 rw[Sw _ _ (by show s.Faulty.length≤_;omega)];rfl
theorem gO {s:Aa}(h:SIn s)(n:Int):Ka s.Faulty n=some (decide (n∈s.Faulty)):=by
 have:=h.f
 rw[Ak6 _ _ (by omega)]
section
variable {s:Aa} (h:SIn s) (hp:Bh s.Conf=0)
include h hp
omit h in
theorem lV :(4≤s.Conf.N∧s.Conf.N≤13)∧clV s.Conf.N=s.Conf.N:=by
 have hN:4≤s.Conf.N∧s.Conf.N≤13:=⟨((A7 _).1 hp).1.1,((A7 _).1 hp).1.2.1⟩
 exact⟨hN,by unfold clV;rw[if_neg (by omega),if_neg (by omega)]⟩
theorem iI :De (Af.mk s.Conf s.Faulty)=some (Bc s):=by
 obtain⟨hN,hcl⟩:=lV hp
 have L:=L9 (f:=fun p:List Int×Int=>Bt (Af.mk s.Conf s.Faulty) s.Conf.N p.1 p.2) s.Conf.N.toNat (Zz s) (fun k hk=>by
  simp only[Bt]
  have:=fZ s k
  rw[if_pos (by omega),pU h,zbs,wrI rfl (by omega),notb,show Zz s k=if(k:Int)∈s.Faulty then []else [(k:Int)]from rfl]
  by_cases hm:(k:Int)∈s.Faulty
  ·rw[if_pos hm,if_pos hm,List.append_nil]
  ·rw[if_neg hm,if_neg hm,if_pos (by simp only[List.length_cons,List.length_nil,Ar];omega)]) (by
  simp only[Bt]
  rw[if_neg (by omega)])
 unfold De Ig
 rw[L]
 unfold Bc
 rw[hcl]
 rfl
def Zk (s:List UInt8)(l:List Int)(k:Nat):UInt8:=if s[k]? =some 49 then 49 else if(k:Int)∈l then 49 else 48
omit h hp in
theorem Ajy (m:List UInt8)(n:Int)(l:List Int)(hl:l.length≤1000)(hn:0≤n)(hn':n≤64):Kt m n l=some ((List.range n.toNat).map (Zk m l)):=by
 unfold Kt
 rw[Rb,bG n 0 64 hn hn',zbs,if_pos ⟨hn,by show n≤4294967296;omega⟩]
 have e:=Ry (f:=fun p:Int×List Int=>Cz m l n.toNat (n.toNat:Nat) p.1 p.2) (List.replicate n.toNat 0) (fun k=>((Zk m l k).toNat:Int)) (fun k pre post x hk hpre hx=> ?_) (fun l'=> ?_)
 rotate_left
 ·rw[List.length_replicate]at hk
  have tail: ∀v:UInt8,(if(k:Int)∈l then(49:UInt8)else 48)=v→((Au l (k:Int)).bind fun r3=>if r3=true then(if 0≤(k:Int)∧(k:Int)<((n.toNat:Nat):Int)then(mod? (pre++48::post) k (fun _=>(49:Int))).bind fun l4=>some (Sum.inl (β:=List Int) ((k:Int)+1,l4))else none)else some (.inl ((k:Int)+1,pre++48::post)))=some (.inl ((k:Int)+1,pre++((v.toNat:Nat):Int)::post)):=fun v hv=>by
   rw[Sw _ _ (by omega),zbs,O6 _ _ _ _ _ hpre]
   subst hv
   by_cases hm:(k:Int)∈l
   ·rw[if_pos (decide_eq_true hm),if_pos (by omega),if_pos hm];rfl
   ·rw[if_neg (by simpa using hm),if_neg hm];rfl
  simp only[Cz]
  rw[if_pos (by omega),if_pos (by omega),Int.toNat_natCast,O6 _ _ _ _ _ hpre,zbs,wrM (n:=(k:Int)+1) (by omega) (by omega)]
  by_cases h1:(k:Int)<m.length
  ·have hk':k<m.length:=by omega
   have hg:=zge hk'
   rw[if_pos h1,Ak hg,zbs]
   by_cases h2:(m[k].toNat:Int)=49
   ·rw[if_pos h2,if_pos (by omega),O6 _ _ _ _ _ hpre]
    have:m[k]=49:=UInt8.toNat_inj.1 (by simpa using Int.ofNat_inj.1 h2)
    simp only[Zk,hg,this,if_true];rfl
   ·rw[if_neg h2]
    have: ¬m[k]=49:=fun e=>h2 (by rw[e];rfl)
    refine tail (Zk m l k) (Eq.symm ?_)
    unfold Zk
    rw[hg]
    exact if_neg (by simpa using this)
  ·rw[if_neg h1]
   refine tail (Zk m l k) (Eq.symm ?_)
   unfold Zk
   rw[List.getElem?_eq_none (by omega)]
   exact if_neg (by simp)
 ·rw[List.length_replicate]
  simp only[Cz]
  rw[if_neg (by omega)]
 rw[List.length_replicate]at e
 unfold S7
 rw[e,zbs,O7 _ _ (by simp),zbs]
 congr 1
 unfold Pg
 rw[List.map_map]
 apply List.map_congr_left
 intro k _
 simp
def uP (s:Aa)(m:List UInt8)(k:Nat):Prop:=m[k]? =some 49∨m[k]? =some 48∧(k:Int)∈s.Faulty
instance (s :Aa)(m:List UInt8)(k:Nat):Decidable (uP s m k):=by unfold uP;infer_instance
def xX (s:Aa)(m:List UInt8):Prop:=(m.length:Int)=s.Conf.N∧∀k∈List.range s.Conf.N.toNat,uP s m k
instance (s :Aa)(m:List UInt8):Decidable (xX s m):=by unfold xX;infer_instance
theorem vJ (m:List UInt8):D9 (Af.mk s.Conf s.Faulty) m=some (decide (xX s m)):=by
 obtain⟨hN,hcl⟩:=lV hp
 have hh:=It s
 unfold D9
 by_cases h1:(m.length:Int)=s.Conf.N
 ·rw[if_pos h1,iI h hp,zbs]
  unfold J9
  rw[Ajy m s.Conf.N (Bc s) (by omega) (by omega) (by omega),zbs,zbs]
  congr 1
  refine Bool.eq_iff_iff.2 ?_
  simp only[decide_eq_true_eq]
  have pt: ∀k:Nat,k<s.Conf.N.toNat→(m[k]? =some (Zk m (Bc s) k)↔uP s m k):=fun k hk=>by
   have hm:=qA (s:=s) (j:=k) (by omega)
   have hg:=zge (l:=m) (i:=k) (by omega)
   unfold Zk uP
   rw[hg]
   simp only[zsi]
   by_cases a:m[k]=49
   ·simp[a]
   ·rw[if_neg a]
    by_cases b:(k:Int)∈s.Faulty
    ·rw[if_neg (fun hh=>hm.1 hh b)]
     exact⟨fun e=>.inr ⟨e,b⟩,fun e=>e.elim (fun e=>absurd e a) fun e=>e.1⟩
    ·rw[if_pos (hm.2 b)]
     exact⟨fun e=>absurd e a,fun e=>e.elim id fun e=>absurd e.2 b⟩
  constructor
  ·intro e
   refine⟨h1,fun k hk=>(pt k (List.mem_range.1 hk)).1 ?_⟩
   have hk:=List.mem_range.1 hk
   have:((List.range s.Conf.N.toNat).map (Zk m (Bc s)))[k]? =m[k]? :=by rw[e]
   rw[←this,List.getElem?_map,List.getElem?_range hk];rfl
  ·intro e
   refine List.ext_getElem? fun k=> ?_
   by_cases hk:k<s.Conf.N.toNat
   ·rw[(pt k hk).2 (e.2 k (List.mem_range.2 hk)),List.getElem?_map,List.getElem?_range hk];rfl
   ·rw[List.getElem?_eq_none (by simp;omega),List.getElem?_eq_none (by omega)]
 ·rw[if_neg h1,decide_eq_false fun hh=>h1 hh.1]
theorem Aii (m:List UInt8):Px s.Conf s.Faulty m=some (decide (xX s m)):=by
 obtain⟨hN,hcl⟩:=lV hp
 unfold Px
 by_cases h1:(m.length:Int)=s.Conf.N
 ·rw[if_neg (by simpa using h1)]
  have E:=Fz (fun p=>Ea s.Faulty m s.Conf p) (List.range s.Conf.N.toNat) (uP s m) (fun k x hk hx=>by
   rw[List.length_range]at hk
   rw[List.getElem?_range hk]at hx
   injection hx with hx
   subst hx
   have hg:=zge (l:=m) (i:=k) (by omega)
   simp only[Ea]
   rw[if_pos (by omega)]
   simp only[Ak hg,zbs,gO h]
   rw[wrI (n:=(k:Int)+1) rfl (by omega)]
   have hM:uP s m k↔(m[k]=49∨m[k]=48∧(k:Int)∈s.Faulty):=by unfold uP;rw[hg];simp only[zsi]
   by_cases a:m[k]=48
   ·rw[if_neg (by simp[a]),if_pos (by simp[a])]
    by_cases b:(k:Int)∈s.Faulty
    ·rw[if_neg (by simpa using b),if_pos (hM.2 (.inr ⟨a,b⟩))]
    ·rw[if_pos (by simpa using b),if_neg (fun e=>(hM.1 e).elim (fun e=>by rw[a]at e;cases e) fun e=>b e.2)]
   ·have a2: ¬(m[k].toNat:Int)=48:=fun e=>a (UInt8.toNat_inj.1 (by simpa using Int.ofNat_inj.1 e))
    rw[if_pos a2]
    by_cases b:m[k]=49
    ·rw[if_neg (by simp[b]),if_neg a2,if_pos (hM.2 (.inl b))]
    ·have b2: ¬(m[k].toNat:Int)=49:=fun e=>b (UInt8.toNat_inj.1 (by simpa using Int.ofNat_inj.1 e))
     rw[if_pos b2,if_neg (fun e=>(hM.1 e).elim b fun e=>a e.1)]) (by
   simp only[Ea,List.length_range];rw[if_neg (by omega)])
  unfold Ti
  rw[E]
  congr 1
  refine Bool.eq_iff_iff.2 ?_
  simp only[decide_eq_true_eq]
  exact⟨fun e=>⟨h1,e⟩,fun e=>e.2⟩
 ·rw[if_pos h1,decide_eq_false fun hh=>h1 hh.1]
def Aei (s:Aa)(r:Ah)(k:Nat):Prop:=((r.Lines[k]?).getD []).length≤16∧((k:Int)∈s.Faulty→(r.Lines[k]?).getD []=[]∧((r.Got[k]?).getD []).length=0)
instance (s :Aa)(r:Ah)(k:Nat):Decidable (Aei s r k):=by unfold Aei;infer_instance
def qG (s:Aa)(r:Ah):Prop:=(r.Lines.length:Int)=s.Conf.N∧(r.Got.length:Int)=s.Conf.N∧∀k∈List.range s.Conf.N.toNat,Aei s r k
instance (s :Aa)(r:Ah):Decidable (qG s r):=by unfold qG;infer_instance
omit h in
theorem nN (r:Ah)(f:Int→Option (Int⊕(Bool⊕Unit)))(h1:(r.Lines.length:Int)=s.Conf.N)(h2:(r.Got.length:Int)=s.Conf.N)
 (hf: ∀k:Nat,k<s.Conf.N.toNat→f (k:Int)=(idx? r.Lines (k:Int)).bind fun z0=>if 16<(z0.length:Int)then some (.inr (.inl false))else if(k:Int)∈s.Faulty then(idx? r.Lines (k:Int)).bind fun z2=>if z2≠[]then some (.inr (.inl false))else(idx? r.Got (k:Int)).bind fun z3=>if 0<(z3.length:Int)then some (.inr (.inl false))else some (.inl ((k:Int)+1))else some (.inl ((k:Int)+1)))
 (he:f s.Conf.N=some (.inr (.inr ()))):((Ai f 0).bind fun r2=>Sum.elim (fun r3=>some r3) (fun _=>some true) r2)=some (decide (qG s r)):=by
 obtain⟨hN,hcl⟩:=lV hp
 have E:=Fz f (List.range s.Conf.N.toNat) (Aei s r) (fun k x hk hx=>by
  rw[List.length_range]at hk
  rw[List.getElem?_range hk]at hx
  injection hx with hx
  subst hx
  have g1:=zge (l:=r.Lines) (i:=k) (by omega)
  have g2:=zge (l:=r.Got) (i:=k) (by omega)
  rw[hf k hk,Ak g1,zbs,zbs,Ak g2,zbs]
  have hS:Aei s r k↔(r.Lines[k].length≤16∧((k:Int)∈s.Faulty→r.Lines[k]=[]∧r.Got[k].length=0)):=by unfold Aei;rw[g1,g2];simp only[Option.getD_some]
  by_cases a:16<(r.Lines[k].length:Int)
  ·rw[if_pos a,if_neg fun e=>by have:=(hS.1 e).1;omega]
  ·rw[if_neg a]
   by_cases b:(k:Int)∈s.Faulty
   ·rw[if_pos b]
    by_cases d:r.Lines[k]≠[]
    ·rw[if_pos d,if_neg fun e=>d ((hS.1 e).2 b).1]
    ·rw[if_neg d]
     by_cases g:0<(r.Got[k].length:Int)
     ·rw[if_pos g,if_neg fun e=>by have:=((hS.1 e).2 b).2;omega]
     ·rw[if_neg g,if_pos (hS.2 ⟨by omega,fun _=>⟨Classical.not_not.1 d,by omega⟩⟩)]
   ·rw[if_neg b,if_pos (hS.2 ⟨by omega,fun e=>absurd e b⟩)]) (by
  rw[List.length_range,show((s.Conf.N.toNat:Nat):Int)=s.Conf.N by omega];exact he)
 rw[E]
 congr 1
 refine Bool.eq_iff_iff.2 ?_
 simp only[decide_eq_true_eq]
 exact⟨fun e=>⟨h1,h2,e⟩,fun e=>e.2.2⟩
theorem Ada (r:Ah):E2 (Af.mk s.Conf s.Faulty) r=some (decide (qG s r)):=by
 obtain⟨hN,hcl⟩:=lV hp
 unfold E2
 by_cases h1:(r.Lines.length:Int)=s.Conf.N
 ·rw[if_neg (by simpa using h1)]
  by_cases h2:(r.Got.length:Int)=s.Conf.N
  ·rw[if_neg (by simpa using h2)]
   refine nN hp r (fun p=>Cp (Af.mk s.Conf s.Faulty) r s.Conf.N p) h1 h2 (fun k hk=> ?_) (by simp only[Cp];rw[if_neg (by omega)])
   simp only[Cp]
   rw[if_pos (by omega),pU h,zbs,wrI (n:=(k:Int)+1) rfl (by omega)]
   simp only[decide_eq_true_eq]
  ·rw[if_pos h2,decide_eq_false fun hh=>h2 hh.2.1]
 ·rw[if_pos h1,decide_eq_false fun hh=>h1 hh.1]
theorem Acw (r:Ah):Um s.Conf s.Faulty r=some (decide (qG s r)):=by
 obtain⟨hN,hcl⟩:=lV hp
 unfold Um
 by_cases h1:(r.Lines.length:Int)=s.Conf.N
 ·rw[if_neg (by simpa using h1)]
  by_cases h2:(r.Got.length:Int)=s.Conf.N
  ·rw[if_neg (by simpa using h2)]
   refine nN hp r (fun p=>H8 s.Faulty s.Conf r p) h1 h2 (fun k hk=> ?_) (by simp only[H8];rw[if_neg (by omega)])
   simp only[H8]
   rw[if_pos (by omega),gO h,zbs,wrI (n:=(k:Int)+1) rfl (by omega)]
   simp only[decide_eq_true_eq]
  ·rw[if_pos h2,decide_eq_false fun hh=>h2 hh.2.1]
 ·rw[if_pos h1,decide_eq_false fun hh=>h1 hh.1]
end
def Zf (s:Aa)(r:Ah)(d:Ag)(last:Int):Int:=
 if d.Slot≤last then 11 else if(s.Conf.Table.length:Int)≤d.Slot then 11 else if d.From≠(s.Conf.Table[d.Slot.toNat]?).getD 0 then 12 else if d.Cycle≠r.Number then 16 else if 16<(d.Text.length:Int)then 15
 else if d.From∈s.Faulty then 0 else if d.Text≠(r.Lines[d.From.toNat]?).getD []then 15 else 0
def lB (s:Aa)(r:Ah):List Ag→Int→List Int→Int⊕List Int
 | [],_,hs=>.inr hs
 |d::ds,last,hs=>if Zf s r d last=0 then lB s r ds d.Slot (d.Slot::hs)else .inl (Zf s r d last)
def Qi (s:Aa)(hs:List Int)(k:Nat):Prop:=(k:Int)∉hs∧(s.Conf.Table[k]?).getD 0∉s.Faulty
open Classical in
def sE (s:Aa)(hs:List Int):Int:=if∃k,k<s.Conf.Table.length∧Qi s hs k then 10 else 0
def qQ (s:Aa)(r:Ah)(l:List Ag):Int:=(lB s r l (-1) []).elim id (sE s)
section
variable {s:Aa} (h:SIn s) (hp:Bh s.Conf=0) {r:Ah} (hL:(r.Lines.length:Int)=s.Conf.N)
include h hp hL
omit h hL in
theorem kK :s.Conf.Table.length≤32∧∀k:Nat,k<s.Conf.Table.length→∃x,s.Conf.Table[k]? =some x∧0≤x∧x<s.Conf.N:=by
 obtain⟨-,-,-,b1,b2,b3,-⟩:=(A7 _).1 hp
 exact⟨b2,fun k hk=>⟨s.Conf.Table[k],zge hk,b3 _ (List.getElem_mem hk)⟩⟩
theorem Aa5 {β:Type}(d:Ag){last:Int}(h1: -1≤last)(F:Int→Option β)(G:Option β)(hG:Zf s r d last=0→F 0=G)(fl:Int→Option Bool)(hfl:fl d.From=some (decide (d.From∈s.Faulty))):
 (if d.Slot≤last then F 11 else if(s.Conf.Table.length:Int)≤d.Slot then F 11 else(idx? s.Conf.Table d.Slot).bind fun z0=>if d.From≠z0 then F 12 else if d.Cycle≠r.Number then F 16 else if 16<(d.Text.length:Int)then F 15 else
   (fl d.From).bind fun r2=>if(!r2)=true then(idx? r.Lines d.From).bind fun z2=>if d.Text≠z2 then F 15 else G else G)=F (Zf s r d last):=by
 have _:=h
 obtain⟨t1,t2⟩:=kK hp
 have e: ∀v,Zf s r d last=v→v=0→G=F (Zf s r d last):=fun v h1 h2=>by rw[h1,h2];exact(hG (h1.trans h2)).symm
 by_cases q1:d.Slot≤last
 ·rw[if_pos q1];unfold Zf;rw[if_pos q1]
 rw[if_neg q1]
 by_cases q2:(s.Conf.Table.length:Int)≤d.Slot
 ·rw[if_pos q2];unfold Zf;rw[if_neg q1,if_pos q2]
 rw[if_neg q2]
 obtain⟨x,hx,x0,x1⟩:=t2 d.Slot.toNat (by omega)
 have ix:idx? s.Conf.Table d.Slot=some x:=by
  have:=Ak hx
  rwa [show((d.Slot.toNat:Nat):Int)=d.Slot by omega]at this
 have hm:Zf s r d last=if d.From≠x then 12 else if d.Cycle≠r.Number then 16 else if 16<(d.Text.length:Int)then 15 else if d.From∈s.Faulty then 0 else if d.Text≠(r.Lines[d.From.toNat]?).getD []then 15 else 0:=by
  unfold Zf;rw[if_neg q1,if_neg q2,hx];rfl
 rw[ix,zbs]
 by_cases q3:d.From≠x
 ·rw[if_pos q3,hm,if_pos q3]
 rw[if_neg q3]
 by_cases q4:d.Cycle≠r.Number
 ·rw[if_pos q4,hm,if_neg q3,if_pos q4]
 rw[if_neg q4]
 by_cases q5:16<(d.Text.length:Int)
 ·rw[if_pos q5,hm,if_neg q3,if_neg q4,if_pos q5]
 rw[if_neg q5,hfl,zbs]
 rw[if_neg q3,if_neg q4,if_neg q5]at hm
 by_cases q6:d.From∈s.Faulty
 ·rw[if_pos q6]at hm
  rw[if_neg (by simpa using q6)]
  exact e _ hm rfl
 ·rw[if_neg q6]at hm
  have hf:d.From=x:=Classical.not_not.1 q3
  have g:=zge (l:=r.Lines) (i:=d.From.toNat) (by omega)
  have ig:=Ak g
  rw[show((d.From.toNat:Nat):Int)=d.From by omega]at ig
  rw[g,Option.getD_some]at hm
  rw[if_pos (by simpa using q6),ig,zbs]
  by_cases q7:d.Text≠r.Lines[d.From.toNat]
  ·rw[if_pos q7]at hm
   rw[if_pos q7,hm]
  ·rw[if_neg q7]at hm
   rw[if_neg q7]
   exact e _ hm rfl
omit hp hL in
theorem tT (n:Int):x0.Bb (Af.mk s.Conf s.Faulty) n=some (decide (n∈s.Faulty)):=pU h n
theorem xU (d:Ag){last:Int}(h1: -1≤last):x0.Cf (Af.mk s.Conf s.Faulty) r d last=some (Zf s r d last):=
 Aa5 h hp hL d h1 some (some 0) (fun _=>rfl) (x0.Bb (Af.mk s.Conf s.Faulty)) (tT h _)
omit h hp hL in
theorem uH {d:Ag}{last:Int}(h0:Zf s r d last=0):last<d.Slot∧d.Slot<(s.Conf.Table.length:Int):=by
 unfold Zf at h0
 by_cases q1:d.Slot≤last
 ·rw[if_pos q1]at h0;cases h0
 rw[if_neg q1]at h0
 by_cases q2:(s.Conf.Table.length:Int)≤d.Slot
 ·rw[if_pos q2]at h0;cases h0
 omega
theorem lZ : ∀(l:List Ag) (last:Int) (hs:List Int),-1≤last→x0.dP (Af.mk s.Conf s.Faulty) r l last hs=some (lB s r l last hs)
 | [],_,_,_=>rfl
 |d::ds,last,hs,h1=>by
  simp only[x0.dP,lB]
  rw[xU h hp hL d h1,zbs]
  by_cases q:Zf s r d last=0
  ·rw[if_pos q,if_pos q]
   exact lZ ds d.Slot _ (by have:=uH q;omega)
  ·rw[if_neg q,if_neg q]
omit hp hL in
theorem nT (hs:List Int): ∀(j k:Nat),k+j=s.Conf.Table.length→x0.Zr (Af.mk s.Conf s.Faulty) hs (s.Conf.Table.drop k) (k:Int)=some (open Classical in if∃i,k≤i∧i<s.Conf.Table.length∧Qi s hs i then 10 else 0)
 |0,k,hk=>by
  rw[List.drop_eq_nil_of_le (by omega),if_neg (by rintro⟨i,h1,h2,-⟩;omega)];rfl
 |j+1,k,hk=>by
  have hlt:k<s.Conf.Table.length:=by omega
  have ih:=nT hs j (k+1) (by omega)
  rw[List.drop_eq_getElem_cons hlt]
  simp only[x0.Zr]
  rw[tT h,zbs,show((k:Int)+1)=((k+1:Nat):Int) by omega,ih]
  have hk0:Qi s hs k↔(k:Int)∉hs∧s.Conf.Table[k]∉s.Faulty:=by unfold Qi;rw[zge hlt];rfl
  have up:(∃i,k≤i∧i<s.Conf.Table.length∧Qi s hs i)↔Qi s hs k∨∃i,k+1≤i∧i<s.Conf.Table.length∧Qi s hs i:=by
   constructor
   ·rintro⟨i,h1,h2,h3⟩
    by_cases e:i=k
    ·exact .inl (e▸h3)
    ·exact .inr ⟨i,by omega,h2,h3⟩
   ·rintro(h3|⟨i,h1,h2,h3⟩)
    ·exact⟨k,Nat.le_refl _,hlt,h3⟩
    ·exact⟨i,by omega,h2,h3⟩
  by_cases q:Qi s hs k
  ·have q':=hk0.1 q
   rw[if_neg q'.1,if_neg (by simpa using q'.2),if_pos (up.2 (.inl q))]
  ·have e:(open Classical in if∃i,k≤i∧i<s.Conf.Table.length∧Qi s hs i then(10:Int)else 0)=(open Classical in if∃i,k+1≤i∧i<s.Conf.Table.length∧Qi s hs i then 10 else 0):=by
    by_cases a: ∃i,k+1≤i∧i<s.Conf.Table.length∧Qi s hs i
    ·rw[if_pos a,if_pos (up.2 (.inr a))]
    ·rw[if_neg a,if_neg fun b=>(up.1 b).elim q a]
   rw[e]
   by_cases q1:(k:Int)∈hs
   ·rw[if_pos q1]
   ·rw[if_neg q1]
    by_cases q2:s.Conf.Table[k]∈s.Faulty
    ·rw[if_pos (by simpa using q2)]
    ·exact absurd (hk0.2 ⟨q1,q2⟩) q
theorem Agk {l:List Ag}(hl:l.length≤4294967296):Bi (Af.mk s.Conf s.Faulty) r l=some (qQ s r l):=by
 obtain⟨t1,t2⟩:=kK hp
 show x0.Bi (Af.mk s.Conf s.Faulty) r l=_
 unfold x0.Bi qQ
 rw[if_pos ⟨hl,by show s.Conf.Table.length≤_;omega⟩,lZ h hp hL l (-1) [] (by omega),zbs]
 cases lB s r l (-1) []with
 |inl e=>rfl
 |inr hs=>
  have:=nT h hs s.Conf.Table.length 0 (by omega)
  rw[List.drop_zero]at this
  refine this.trans ?_
  show _=some (sE s hs)
  unfold sE
  by_cases q: ∃k,k<s.Conf.Table.length∧Qi s hs k
  ·rw[if_pos q,if_pos (by obtain⟨k,q⟩:=q;exact⟨k,Nat.zero_le _,q⟩)]
  ·rw[if_neg q,if_neg (fun⟨k,_,hh⟩=>q ⟨k,hh⟩)]
def K3 (n:Nat)(hs:List Int):List Bool:=(List.range n).map fun j:Nat=>decide ((j:Int)∈hs)
omit h hp hL in
theorem Ajv {n:Nat}{hs:List Int}{k:Int}(h0:0≤k)(h1:k<(n:Int)):mod? (K3 n hs) k.toNat (fun _=>true)=some (K3 n (k::hs)):=by
 have hlen:(K3 n hs).length=n:=by unfold K3;simp
 rw[Ud _ _ _ (by omega)]
 congr 1
 refine List.ext_getElem? fun j=> ?_
 rw[List.getElem?_set]
 by_cases hj:j<n
 ·have g: ∀hs,(K3 n hs)[j]? =some (decide ((j:Int)∈hs)):=fun hs=>by unfold K3;rw[List.getElem?_map,List.getElem?_range hj];rfl
  rw[g,g]
  by_cases e:k.toNat=j
  ·rw[if_pos e,if_pos (by omega),decide_eq_true (show(j:Int)∈k::hs by rw[show(j:Int)=k by omega];exact List.mem_cons_self ..)]
  ·rw[if_neg e]
   congr 1
   refine Bool.eq_iff_iff.2 ?_
   simp only[decide_eq_true_eq,List.mem_cons]
   exact⟨.inr,fun hh=>hh.elim (fun hh=>absurd hh (by omega)) id⟩
 ·rw[if_neg (by omega),List.getElem?_eq_none (by omega),List.getElem?_eq_none (by unfold K3;simp;omega)]
theorem Aau {l:List Ag}(hl:l.length≤4294967296): ∀(j k:Nat) (last:Int) (hs:List Int),k+j=l.length→ -1≤last→
 ∃q,Ai (fun p:Int×Int×List Bool=>Ef s.Faulty l s.Conf r s.Conf.Table.length p.1 p.2.1 p.2.2) (last,(k:Int),K3 s.Conf.Table.length hs)=some q∧Sum.map Prod.fst id q=Sum.map id (K3 s.Conf.Table.length) (lB s r (l.drop k) last hs)
 |0,k,last,hs,hk,h1=>by
  refine⟨_,Av (by simp only[Ef];rw[if_neg (by omega)]),?_⟩
  rw[List.drop_eq_nil_of_le (by omega)];rfl
 |j+1,k,last,hs,hk,h1=>by
  have hlt:k<l.length:=by omega
  have g:=zge hlt
  rw[List.drop_eq_getElem_cons hlt]
  obtain⟨t1,t2⟩:=kK hp
  have st:Ef s.Faulty l s.Conf r s.Conf.Table.length last (k:Int) (K3 s.Conf.Table.length hs)=(fun e:Int=>if e=0 then some (Sum.inl (β:=(Int×List Bool)⊕List Bool) (l[k].Slot,(k:Int)+1,K3 s.Conf.Table.length (l[k].Slot::hs)))else some (.inr (.inl (e,K3 s.Conf.Table.length hs)))) (Zf s r l[k] last):=by
   refine Eq.trans ?_ (Aa5 h hp hL l[k] h1 (fun e:Int=>if e=0 then some (Sum.inl (β:=(Int×List Bool)⊕List Bool) (l[k].Slot,(k:Int)+1,K3 s.Conf.Table.length (l[k].Slot::hs)))else some (.inr (.inl (e,K3 s.Conf.Table.length hs)))) (some (Sum.inl (β:=(Int×List Bool)⊕List Bool) (l[k].Slot,(k:Int)+1,K3 s.Conf.Table.length (l[k].Slot::hs)))) (fun _=>if_pos rfl) (Ka s.Faulty) (gO h _))
   simp only[Ef]
   rw[if_pos (by omega),Ak g,zbs]
   by_cases q1:l[k].Slot≤last
   ·rw[if_pos q1,if_pos q1];rfl
   rw[if_neg q1,if_neg q1]
   by_cases q2:(s.Conf.Table.length:Int)≤l[k].Slot
   ·rw[if_pos q2,if_pos q2];rfl
   rw[if_neg q2,if_neg q2]
   have hb:=Ajv (n:=s.Conf.Table.length) (hs:=hs) (k:=l[k].Slot) (by omega) (by omega)
   have hi:0≤l[k].Slot∧l[k].Slot<((s.Conf.Table.length:Nat):Int):=⟨by omega,by omega⟩
   simp only[if_pos hi,hb,zbs,wrI (n:=(k:Int)+1) rfl (by omega: -9223372036854775808≤(k:Int)+1∧(k:Int)+1≤9223372036854775807)]
   rfl
  by_cases q:Zf s r l[k] last=0
  ·obtain⟨p,h2,h3⟩:=Aau hl j (k+1) l[k].Slot (l[k].Slot::hs) (by omega) (by have:=uH q;omega)
   refine⟨p,(A5 (st.trans (if_pos q))).trans ?_,?_⟩
   ·rw[←h2];congr 2
   ·rw[h3]
    simp only[lB]
    rw[if_pos q]
  ·refine⟨_,Av (st.trans (if_neg q)),?_⟩
   simp only[lB]
   rw[if_neg q]
   rfl
omit hL in
theorem Aqc (hs:List Int):((Yf s.Faulty s.Conf s.Conf.Table.length (K3 s.Conf.Table.length hs) 0).bind fun r7=>Sum.elim (fun r8=>some r8) (fun r9=>some 0) r7)=some (sE s hs):=by
 classical
 obtain⟨t1,t2⟩:=kK hp
 have L:=Yj (f:=fun p=>Hx s.Faulty s.Conf s.Conf.Table.length (K3 s.Conf.Table.length hs) p) s.Conf.Table.length (Qi s hs) (10:Int) (fun k hk=>by
  have g:=zge hk
  have hk0:Qi s hs k↔(k:Int)∉hs∧s.Conf.Table[k]∉s.Faulty:=by unfold Qi;rw[g];rfl
  have gb:(K3 s.Conf.Table.length hs)[k]? =some (decide ((k:Int)∈hs)):=by unfold K3;rw[List.getElem?_map,List.getElem?_range hk];rfl
  simp only[Hx]
  rw[if_pos (by omega),if_pos (by omega),Int.toNat_natCast,gb,zbs,Ak g,zbs,gO h,zbs,wrI (n:=(k:Int)+1) rfl (by omega),notb]
  by_cases q1:(k:Int)∈hs
  ·rw[if_pos q1,if_neg fun e=>(hk0.1 e).1 q1]
  ·rw[if_neg q1,notb]
   by_cases q2:s.Conf.Table[k]∈s.Faulty
   ·rw[if_pos q2,if_neg fun e=>(hk0.1 e).2 q2]
   ·rw[if_neg q2,if_pos (hk0.2 ⟨q1,q2⟩)]) (by simp only[Hx];rw[if_neg (by omega)])
 unfold Yf sE
 rw[L]
 by_cases q: ∃k,k<s.Conf.Table.length∧Qi s hs k
 ·rw[if_pos q,if_pos q];rfl
 ·rw[if_neg q,if_neg q];rfl
theorem Au5 {l:List Ag}(hl:l.length≤4294967296):aK s.Conf s.Faulty r l=some (qQ s r l):=by
 obtain⟨t1,t2⟩:=kK hp
 obtain⟨q,h1,h2⟩:=Aau h hp hL hl l.length 0 (-1) [] (by omega) (by omega)
 unfold aK qQ
 rw[if_pos ⟨by omega,by simp only[Ar];omega⟩,Int.toNat_natCast]
 have e0:List.replicate s.Conf.Table.length false=K3 s.Conf.Table.length []:=by
  unfold K3
  refine List.ext_getElem? fun j=> ?_
  by_cases hj:j<s.Conf.Table.length
  ·rw[List.getElem?_replicate,if_pos hj,List.getElem?_map,List.getElem?_range hj];rfl
  ·rw[List.getElem?_eq_none (by simp;omega),List.getElem?_eq_none (by simp;omega)]
 rw[e0]
 unfold cU
 rw[show Ai (fun p:Int×Int×List Bool=>Ef s.Faulty l s.Conf r s.Conf.Table.length p.1 p.2.1 p.2.2) (-1,0,K3 s.Conf.Table.length [])=some q from h1,zbs]
 rw[List.drop_zero]at h2
 cases q with
 |inl e=>
  cases hn:lB s r l (-1) []with
  |inl v=>rw[hn]at h2;injection h2 with h2;exact congrArg some h2
  |inr v=>rw[hn]at h2;cases h2
 |inr b=>
  cases hn:lB s r l (-1) []with
  |inl v=>rw[hn]at h2;cases h2
  |inr v=>
   rw[hn]at h2
   injection h2 with h2
   simp only[id]at h2
   subst h2
   exact Aqc h hp v
end
def yM (s:Aa)(r:Ah)(n:Int):Int:=qQ s r ((r.Got[n.toNat]?).getD [])
def Xm (s:Aa)(r:Ah):Int:=
 if r.Number<0 then 2 else if s.Conf.Mod≤r.Number then 2 else if¬xX s r.Members then 7 else if¬qG s r then 6 else Hp ((Bc s).map (yM s r))
theorem eV (s:Aa)(e:Int→Int): ∀l:List Nat,Hp (l.map fun k:Nat=>if(k:Int)∈s.Faulty then 0 else e (k:Int))=Hp ((l.flatMap (Zz s)).map e)
 | []=>rfl
 |k::l=>by
  have ih:=eV s e l
  rw[List.map_cons,List.flatMap_cons]
  by_cases hk:(k:Int)∈s.Faulty
  ·rw[if_pos hk,show Zz s k=[]from if_pos hk,List.nil_append,←ih]
   simp only[Hp,ne_eq,not_true,if_false]
  ·rw[if_neg hk,show Zz s k=[(k:Int)]from if_neg hk,List.singleton_append,List.map_cons]
   simp only[Hp,ih]
section
variable {s:Aa} (h:SIn s) (hp:Bh s.Conf=0) {r:Ah} (hr:Aud r)
include h hp hr
theorem wA (hz:qG s r){n:Int}(n0:0≤n)(n1:n<s.Conf.N):idx? r.Got n=some ((r.Got[n.toNat]?).getD [])∧((r.Got[n.toNat]?).getD []).length≤4294967296:=by
 have _:=And.intro h hp
 obtain⟨z,hz1,hz2,hm⟩:=Gd (l:=r.Got) n0 (by have:=hz.2.1;omega)
 rw[hz1,hz2]
 exact⟨rfl,hr.d z hm⟩
theorem Aov :R0 s.Conf s.Faulty r=some (Xm s r):=by
 obtain⟨hN,hcl⟩:=lV hp
 unfold R0 Xm
 rw[Ch _ h.conf,zbs,if_neg (by simp[hp])]
 by_cases q1:r.Number<0
 ·rw[if_pos q1,if_pos q1]
 rw[if_neg q1,if_neg q1]
 by_cases q2:s.Conf.Mod≤r.Number
 ·rw[if_pos q2,if_pos q2]
 rw[if_neg q2,if_neg q2,vJ h hp,zbs,notb]
 by_cases q3:xX s r.Members
 ·rw[if_pos q3,if_neg (fun hh=>hh q3),Ada h hp,zbs,notb]
  by_cases q4:qG s r
  ·rw[if_pos q4,if_neg (fun hh=>hh q4),iI h hp,zbs]
   refine Kj (Yd (fun p=>G1 r (Bc s) ((Bc s).length:Int) (Af.mk s.Conf s.Faulty) p) (Bc s) (yM s r) (fun k x hk hx=> ?_) ?_)
   ·have hl:=It s
    have hn:=(Yr (List.mem_of_getElem? hx)).1
    obtain⟨g1,g2⟩:=wA h hp hr q4 hn.1 (hcl▸hn.2)
    simp only[G1]
    rw[if_pos (by omega),Ak hx,zbs,g1,zbs,Agk h hp q4.1 g2,zbs,wrI (n:=(k:Int)+1) rfl (by omega)]
    show(if yM s r x≠0 then _ else _)=_
    split<;>rfl
   ·simp only[G1];rw[if_neg (by omega)]
  ·rw[if_neg q4,if_pos q4]
 ·rw[if_neg q3,if_pos q3]
theorem Akt :W6 s.Conf s.Faulty r=some (Xm s r):=by
 obtain⟨hN,hcl⟩:=lV hp
 unfold W6 Xm
 rw[Ce _ h.conf,zbs,if_neg (by simp[hp])]
 by_cases q1:r.Number<0
 ·rw[if_pos q1,if_pos q1]
 rw[if_neg q1,if_neg q1]
 by_cases q2:s.Conf.Mod≤r.Number
 ·rw[if_pos q2,if_pos q2]
 rw[if_neg q2,if_neg q2,Aii h hp,zbs,notb]
 by_cases q3:xX s r.Members
 ·rw[if_pos q3,if_neg (fun hh=>hh q3),Acw h hp,zbs,notb]
  by_cases q4:qG s r
  ·rw[if_pos q4,if_neg (fun hh=>hh q4)]
   have hh:Hp ((Bc s).map (yM s r))=Hp ((List.range s.Conf.N.toNat).map fun k:Nat=>if(k:Int)∈s.Faulty then 0 else yM s r (k:Int)):=by
    rw[eV];unfold Bc;rw[hcl]
   rw[hh]
   refine Kj (Yd (fun p=>Ir s.Faulty s.Conf r p) (List.range s.Conf.N.toNat) (fun k:Nat=>if(k:Int)∈s.Faulty then 0 else yM s r (k:Int)) (fun k x hk hx=> ?_) ?_)
   ·rw[List.length_range]at hk
    rw[List.getElem?_range hk]at hx
    injection hx with hx
    subst hx
    obtain⟨g1,g2⟩:=wA h hp hr q4 (n:=(k:Int)) (by omega) (by omega)
    simp only[Ir]
    rw[if_pos (by omega),g1,zbs,Au5 h hp q4.1 g2,zbs,gO h,zbs,wrI (n:=(k:Int)+1) rfl (by omega),notb]
    by_cases q5:(k:Int)∈s.Faulty
    ·simp only[if_pos q5,ne_eq,not_true,if_false]
    ·simp only[if_neg q5]
     show(if yM s r (k:Int)≠0 then _ else _)=_
     split<;>rfl
   ·rw[List.length_range]
    simp only[Ir];rw[if_neg (by omega)]
  ·rw[if_neg q4,if_pos q4]
 ·rw[if_neg q3,if_pos q3]
end
def Ad3 (c:Ab)(a b:Int):Int:=tA (wr (tA b c.Mod-tA a c.Mod)) c.Mod
theorem zM {c:Ab}(hc:CIn c)(hp:Bh c=0)(a b:Ah):Lj c a b=some (decide (Ad3 c a.Number b.Number=1)):=by
 unfold Lj Qq
 rw[Ch _ hc,zbs,if_pos hp,zbs,if_neg (by simp[hp]),T2,zbs,T2,zbs,T2]
 rfl
theorem vF {c:Ab}(hc:CIn c)(hp:Bh c=0)(a b:Ah):Pm c a b=some (decide (Ad3 c a.Number b.Number=1)):=by
 unfold Pm Yi
 rw[Ce _ hc,zbs,if_pos hp,zbs,if_neg (by simp[hp]),Xz,zbs,Xz,zbs,Xz]
 rfl
def xA (s:Aa)(l:List Ah)(k:Nat):Int:=
 ((l[k]?).map fun x=>if Xm s x≠0 then Xm s x else if 0<k then((l[k-1]?).map fun y=>if Ad3 s.Conf y.Number x.Number=1 then 0 else 16).getD 0 else 0).getD 0
section
variable {s:Aa} (h:SIn s) (hp:Bh s.Conf=0) {l:List Ah} (hl:l.length≤4096) (hr: ∀r∈l,Aud r)
include h hp hl hr
omit h hp hr in
theorem vI (f:Int→Option (Int⊕(Int⊕Unit)))(hf: ∀(k:Nat) x,l[k]? =some x→f (k:Int)=if Xm s x≠0 then some (.inr (.inl (Xm s x)))else if 0<(k:Int)then(idx? l (wr ((k:Int)-1))).bind fun y=>if Ad3 s.Conf y.Number x.Number=1 then some (.inl ((k:Int)+1))else some (.inr (.inl 16))else some (.inl ((k:Int)+1)))
 (he:f (l.length:Int)=some (.inr (.inr ()))):((Ai f 0).bind fun r=>Sum.elim (fun r3=>some r3) (fun _=>some 0) r)=some (Hp ((List.range l.length).map (xA s l))):=by
 refine Kj (Yd f (List.range l.length) (xA s l) (fun k x hk hx=> ?_) ?_)
 ·rw[List.length_range]at hk
  rw[List.getElem?_range hk]at hx
  injection hx with hx
  subst hx
  have g:=zge hk
  have e:xA s l k=if Xm s l[k]≠0 then Xm s l[k]else if 0<k then((l[k-1]?).map fun y=>if Ad3 s.Conf y.Number l[k].Number=1 then 0 else 16).getD 0 else 0:=by unfold xA;rw[g];rfl
  rw[hf k l[k] g]
  by_cases q1:Xm s l[k]≠0
  ·rw[if_pos q1]at e ⊢
   rw[e,if_pos q1]
  rw[if_neg q1]at e ⊢
  by_cases q2:0<k
  ·have g2:=zge (l:=l) (i:=k-1) (by omega)
   rw[if_pos q2,g2]at e
   rw[if_pos (by omega),wrI (n:=(k:Int)-1) (m:=((k-1:Nat):Int)) (by omega) (by omega),Ak g2,zbs,e]
   simp only[Option.map_some,Option.getD_some]
   by_cases q3:Ad3 s.Conf l[k-1].Number l[k].Number=1
   ·rw[if_pos q3,if_pos q3,if_neg (by simp)]
   ·rw[if_neg q3,if_neg q3,if_pos (by decide)]
  ·rw[if_neg q2]at e
   rw[if_neg (by omega),e,if_neg (by simp)]
 ·rw[List.length_range];exact he
theorem xW (rows:Rows)(n:List Int)(a:Int):Nk (Ad.mk s n rows a) l=some (Hp ((List.range l.length).map (xA s l))):=by
 refine vI hl (fun p=>D7 l (Ad.mk s n rows a) l (l.length:Int) p) (fun k x hx=> ?_) (by simp only[D7];rw[if_neg (by omega)])
 obtain⟨hk,-⟩:=List.getElem?_eq_some_iff.1 hx
 simp only[D7]
 rw[if_pos (by omega),Ak hx,zbs,Aov h hp (hr x (List.mem_of_getElem? hx)),zbs,wrI (n:=(k:Int)+1) rfl (by omega)]
 simp only[zM h.conf hp,zbs,notb]
theorem lP :Rt s l=some (Hp ((List.range l.length).map (xA s l))):=by
 refine vI hl (fun p=>G0 l s p) (fun k x hx=> ?_) (by simp only[G0];rw[if_neg (by omega)])
 obtain⟨hk,-⟩:=List.getElem?_eq_some_iff.1 hx
 simp only[G0]
 rw[if_pos (by omega),Ak hx,zbs,Akt h hp (hr x (List.mem_of_getElem? hx)),zbs,wrI (n:=(k:Int)+1) rfl (by omega)]
 simp only[zbs,vF h.conf hp,notb]
end
def Acx (s:Aa):Int:=wr (K1 s+lE s.Conf)
theorem Aaj {s:Aa}(h:SIn s)(hp:Bh s.Conf=0):Acx s≤1000000000:=by
 have hT:=h.t
 have hl:=M3 s.Conf ((A7 s.Conf).1 hp)
 have pp:=Je hp
 have hk:=kV (eG s) s.Ticks.length
 unfold Acx lE
 rw[wrI (n:=4*Pp s.Conf) rfl (by omega),wrI (n:=1+4*Pp s.Conf) rfl (by omega),wrI (n:=2*s.Conf.Period) rfl (by omega),wrI (n:=1+4*Pp s.Conf+2*s.Conf.Period) rfl (by omega),wrI rfl (by unfold K1;omega)]
 unfold K1
 omega
def oB (s:Aa)(rows:Rows):E0:=
 if Ew s≠0 then⟨0,0,0,0,0,⟨Ew s,Ew s,Ew s,Ew s,Ew s⟩⟩else if lU s rows then
  ⟨(rows.length:Int),K1 s,Acx s,wr (K1 s+dT s.Conf),((Oq s rows).length:Int),
    ⟨Aim s.Conf rows (Bc s) ((Bc s)[0]?.getD 0) (max (Acx s) 0),
     E8 (oZ rows (Bc s) ((Bc s)[0]?.getD 0) s.Conf (Kb s)) (Kb s) ((rows.length:Int)-Kb s).toNat,
     E8 (sL rows (Bc s) ((Bc s)[0]?.getD 0) s.Conf (Kb s)) (Kb s) ((rows.length:Int)-Kb s).toNat,
     Hp ((List.range (Oq s rows).length).map (xA s (Oq s rows))),
     E8 (qD rows (Bc s) ((Bc s)[0]?.getD 0)) (Kb s) ((rows.length:Int)-Kb s).toNat⟩⟩
 else⟨0,0,0,0,0,⟨2,2,2,2,2⟩⟩
section
variable {s:Aa} (h:SIn s) (hb:ImB s) {rows:Rows} (hR:RIn rows)
include h hb hR
theorem Aji :Pw s rows=some (oB s rows):=by
 have hn:=hR.n
 have hro:=nH (s:=s) hR
 unfold Pw oB
 rw[Apn h (by omega),zbs]
 by_cases h0:Ew s≠0
 ·simp only[if_pos h0]
 have h00:=Classical.not_not.1 h0
 have hz:=L7 h00
 have hp:=Ga hz
 have ha:=Yo h hp
 simp only[if_neg h0]
 by_cases hq:lU s rows
 ·obtain⟨n0,hn0⟩:=wP h00
  obtain⟨hN,hcl⟩:=lV hp
  have hl:=It s
  have hin: ∀n∈Bc s,0≤n∧n<s.Conf.N:=fun n hn=>by have:=(Yr hn).1;exact⟨this.1,hcl▸this.2⟩
  have hf:lM s.Conf.N rows:=⟨by omega,hq.2⟩
  have e:=Ac1 h hb hp hf (fun t t0 t1=>⟨hn,hR.g,by omega,by omega⟩) hn0 ha.2
  have er:Oq s rows=(stV s.Conf rows n0 (Kb s)).map (lD s rows (Bc s) n0):=by
   unfold Oq
   rw[if_neg h0,if_pos hq,hn0];rfl
  simp only[if_pos hq]
  rw[if_neg (by simp),e,←er,zbs,Ahs h hz,zbs,Aqo h hz,zbs,zW h hz,zbs,show wr (K1 s+lE s.Conf)=Acx s from rfl]
  simp only[zE h.conf hp (show rows.length≤100000000 by omega) (show(Bc s).length≤1000 by omega) hn0 (Aaj h hp),pI hf (show(Bc s).length≤1000 by omega) hin hn0 h.conf hp ha.1,Ali hf (show(Bc s).length≤1000 by omega) hin hn0 h.conf hp ha.1,
   xW h hp hro.1 hro.2,oX hf (show(Bc s).length≤1000 by omega) hin hn0 s ha.1 (Ad.mk s (Bc s) rows (Kb s)) rfl rfl,zbs,hn0,Option.getD_some]
 ·simp only[if_neg hq]
  rfl
theorem Aeq :T8 s rows=some (oB s rows):=by
 have hn:=hR.n
 have hro:=nH (s:=s) hR
 unfold T8 oB
 rw[nS h,zbs]
 by_cases h0:Ew s≠0
 ·rw[if_neg h0,if_pos h0,if_pos h0]
 have h00:=Classical.not_not.1 h0
 have hz:=L7 h00
 have hp:=Ga hz
 have ha:=Yo h hp
 rw[if_pos h00,Abi (by omega),zbs,notb,if_neg h0]
 by_cases hq:lU s rows
 ·obtain⟨n0,hn0⟩:=wP h00
  obtain⟨hN,hcl⟩:=lV hp
  have hl:=It s
  have hin: ∀n∈Bc s,0≤n∧n<s.Conf.N:=fun n hn=>by have:=(Yr hn).1;exact⟨this.1,hcl▸this.2⟩
  have hf:lM s.Conf.N rows:=⟨by omega,hq.2⟩
  rw[if_pos hq,if_pos hq,if_neg h0,xZ h hb hR (At4 h) wP,zbs,Z0 h,zbs,iJ h hz,zbs,Aop h hz,zbs,bE h hz,zbs,show wr (K1 s+lE s.Conf)=Acx s from rfl]
  simp only[uD h.conf hp (show rows.length≤100000000 by omega) (show(Bc s).length≤1000 by omega) hn0 (Aaj h hp),qP h hz hf hin hn0,zH h hz hf hin hn0,
   lP h hp hro.1 hro.2,qT h hz hf hin hn0,zbs,hn0,Option.getD_some]
 ·rw[if_neg hq,if_neg h0,if_neg hq]
end
theorem gP (s:Aa)(rows:List (List Ac))(hs:Aa.In s)(h1:SL rows∧∀z∈rows,SL z∧∀y∈z,Ac.In y):Pe s rows=some true:=by
 unfold Pe
 obtain⟨b,e,hf⟩:=Aq4 s rows hs
 rw[e,zbs]
 cases b with
 |false=>rfl
 |true=>
  obtain⟨hS,hB,hR⟩:=hf rfl
  rw[if_neg (by simp),Aji hS hB hR,zbs,Aeq hS hB hR,zbs]
  simp
  rfl
theorem JudgeSays_law (l:List AV)(h:U4 [([.i .i64,.i .i64,.i .i64,.i .i64,.i .i64,.i .i64,.i .i64,.i .i64,.i .i64,.i .i64,.l [.i .i64] false,.l [.i .i64] false,.l [.s] false,.l [.l [.i .i64] false,.l [.i .i64] false,.l [.i .i64,.i .i64,.i .i64,.s] true,.l [.i .i64,.s] true,.l [.i .i64,.i .i64,.i .i64,.s] true,.l [.i .i64,.s] true] true],true),([.l [.l [.b,.b,.i .i64,.i .i64,.s,.i .i64,.l [.i .i64,.i .i64,.i .i64,.s] true] true] false],false)] l):LM.call 3 l []=some (.bool true,[]):=by
 obtain⟨y0,_,rfl,p0,h⟩:=Aa.dec.arg h
 obtain⟨y1,_,rfl,p1,h⟩:=(Dec.list (Dec.list Ac.dec)).arg h
 obtain rfl:=Dec.end_ h
 obtain⟨q,e,rfl⟩:=(aT y0 y1).h true (gP y0 y1 p0 p1)
 exact e
end
end Go.Proofs.YtaoijbibmcgdaaaGreat
