/-
  PF, parts 3 to 3: a small machine with values, and that Go's code does what it tells. Conditions: none beyond each theorem's own.
-/
import Derived.Test.YtaoijbibmcgdaaaGreatPFa
set_option linter.unusedVariables false
set_option linter.unusedSimpArgs false
namespace Go.Proofs.PF
noncomputable section
def kO {α β:Type}(o:Option α)(k:α→Option β):Option β:=
 match o with
 |some a=>k a
 |none=>none
def kB {β:Type}(b:Bool)(x y:Option β):Option β:=
 match b with
 |true=>x
 |false=>y
theorem Bf {α β:Type}(o:Option α)(k:α→Option β):kO o k=o.bind k:=by cases o<;>rfl
@[irreducible] def in64 (n:Int):Bool:= @decide (-9223372036854775808≤n∧n≤9223372036854775807) (Classical.propDecidable _)
theorem kD {n:Int}(h: -9223372036854775808≤n∧n≤9223372036854775807):IntKind.wrap .i64 n=n:=by
 have:IntKind.wrap .i64 n=(n+9223372036854775808)%18446744073709551616-9223372036854775808:=by
  simp only[IntKind.wrap,IntKind.bits,IntKind.signed]
  simp
  split<;>omega
 omega
@[simp] def fc {β:Type}(v:AV)(k:AV→Option β):Option β:=
  match v with
  | .undef=>k .undef
  | .nov=>k .nov
  | .bool b=>k (.bool b)
  | .int i n=>k (.int i n)
  | .str s=>k (.str s)
  | .agg cs=>k (.agg cs)
  | .tup vs=>k (.tup vs)
  | .lst g xs=>k (.lst g xs)
  | .arr a b c d e=>k (.arr a b c d e)
  | .arw a b c d=>k (.arw a b c d)
  | .ptr o a=>k (.ptr o a)
  | .ept cs a=>k (.ept cs a)
  | .nilp=>k .nilp
  | .fn f c=>k (.fn f c)
theorem Avg {β:Type}(v:AV)(k:AV→Option β):fc v k=k v:=by cases v<;>rfl
@[simp] def fl {β:Type}:List AV→(List AV→Option β)→Option β
  | [],k=>k []
  |a::r,k=>fc a fun b=>fl r fun s=>k (b::s)
theorem vQ {β:Type}(l:List AV): ∀k:List AV→Option β,fl l k=k l:=by
 induction l with
 |nil=>intro k;rfl
 |cons a r ih=>intro k;simp only[fl,Avg,ih]
@[simp] def fv {β:Type}(v:AV)(k:AV→Option β):Option β:=
  match v with
  | .undef=>k .undef
  | .nov=>k .nov
  | .bool b=>k (.bool b)
  | .int i n=>k (.int i n)
  | .str s=>k (.str s)
  | .agg cs=>fl cs fun cs=>k (.agg cs)
  | .tup vs=>k (.tup vs)
  | .lst g xs=>k (.lst g xs)
  | .arr a b c d e=>k (.arr a b c d e)
  | .arw a b c d=>k (.arw a b c d)
  | .ptr o a=>k (.ptr o a)
  | .ept cs a=>k (.ept cs a)
  | .nilp=>k .nilp
  | .fn f c=>k (.fn f c)
theorem Ru {β:Type}(v:AV)(k:AV→Option β):fv v k=k v:=by cases v<;>first|rfl|exact vQ _ _
@[simp] def fvs {β:Type}:List AV→(List AV→Option β)→Option β
  | [],k=>k []
  |a::r,k=>fv a fun b=>fvs r fun s=>k (b::s)
theorem yZ {β:Type}(l:List AV): ∀k:List AV→Option β,fvs l k=k l:=by
 induction l with
 |nil=>intro k;rfl
 |cons a r ih=>intro k;simp only[fvs,Ru,ih]
@[simp] def evK {β:Type}(env:Env)(x:Opd)(k:AV→Env→Option β):Option β:=
  match x with
  | .t j=>fv (get env j).cp fun v=>k v env
  | .x j=>fv (get env j) fun v=>fv v.cp fun w=>k v ((j,w)::env)
  | .c v=>k v env
theorem dH {β:Type}(env:Env)(x:Opd)(k:AV→Env→Option β):evK env x k=k (evo env x) (Vs env x):=by
 cases x<;>simp only[evK,Ru,evo,Vs]
@[simp] def dZ {β:Type}(env:Env):List Opd→(List AV→Env→Option β)→Option β
  | [],k=>k [] env
  |a::r,k=>evK env a fun v env'=>dZ env' r fun vs e2=>k (v::vs) e2
theorem gY {β:Type}(l:List Opd): ∀(env:Env) (k:List AV→Env→Option β),dZ env l k=k (Pt env l) (eH env l):=by
 induction l with
 |nil=>intro env k;rfl
 |cons a r ih=>intro env k;simp only[dZ,dH,ih,Pt,eH]
@[simp] def Zn {β:Type}:Heap→Nat→Obj→(Heap→Option β)→Option β
  | [],_,_,k=>k []
  |(j,o)::r,n,o',k=>match Nat.beq j n with
   |true=>k ((j,o')::r)
   |false=>Zn r n o' fun r'=>k ((j,o)::r')
theorem aV {β:Type}(h:Heap)(n:Nat)(o:Obj): ∀k:Heap→Option β,Zn h n o k=k (hset h n o):=by
 induction h with
 |nil=>intro k;rfl
 |cons p r ih=>
  intro k
  obtain⟨j,o'⟩:=p
  simp only[Zn,hset]
  cases Nat.beq j n
  ·exact ih _
  ·rfl
@[simp] def X6 {β:Type}(h:Heap):List AV→(List AV→Option β)→Option β
  | [],k=>k []
  |a::r,k=>kO (tree h a) fun b=>X6 h r fun s=>k (b::s)
theorem dN {β:Type}(h:Heap)(l:List AV): ∀k:List AV→Option β,X6 h l k=(l.mapM (tree h)).bind k:=by
 induction l with
 |nil=>intro k;rfl
 |cons a r ih=>
  intro k
  simp only[X6,Bf,List.mapM_cons,Option.bind_eq_bind,Option.bind_assoc,Option.pure_def,ih,zbs]
@[simp] def uQ {β:Type}:Heap→Nat→Obj→(Heap→Option β)→Option β
  | [],n,o',k=>k [(n,o')]
  |(j,o)::r,n,o',k=>match Nat.beq j n with
   |true=>k ((j,o')::r)
   |false=>uQ r n o' fun r'=>k ((j,o)::r')
theorem Ajr {β:Type}(h:Heap)(n:Nat)(o:Obj): ∀k:Heap→Option β,uQ h n o k=k (hput h n o):=by
 induction h with
 |nil=>intro k;rfl
 |cons p r ih=>
  intro k
  obtain⟨j,o'⟩:=p
  simp only[uQ,hput]
  cases Nat.beq j n
  ·exact ih _
  ·rfl
def vC {β:Type}(f:Nat→Nat)(h:Heap)(l:List (Nat×Obj)):(Heap→Option β)→Option β:=
 @List.rec (Nat×Obj) (fun _=>Heap→(Heap→Option β)→Option β) (fun h k=>k h) (fun p _ ih h k=>match p with
  |(o,ob)=>fl (ob.cells.map (ren2 f)) fun cs=>uQ h o {ob with cells:=cs} fun h'=>ih h' k) l h
@[simp] theorem wZ {β:Type}(f:Nat→Nat)(h:Heap)(o:Nat)(ob:Obj)(r:List (Nat×Obj))(k:Heap→Option β):vC f h ((o,ob)::r) k=fl (ob.cells.map (ren2 f)) fun cs=>uQ h o {ob with cells:=cs} fun h'=>vC f h' r k:=rfl
theorem Ahj {β:Type}(f:Nat→Nat)(l:List (Nat×Obj)): ∀(h:Heap) (k:Heap→Option β),
 vC f h l k=k (l.foldl (fun h p=>hput h p.1 {p.2 with cells:=p.2.cells.map (ren2 f)}) h):=by
 induction l with
 |nil=>intro h k;rfl
 |cons p r ih=>
  intro h k
  obtain⟨o,ob⟩:=p
  simp only[wZ,vQ,Ajr,ih,List.foldl_cons]
def dI {β:Type}(h:Heap)(v:AV)(k:AV→Option β):Option β:=
 match v with
 | .tup vs=>X6 h vs fun rs=>k (.tup rs)
 |v=>kO (tree h v) k
theorem mS {β:Type}(h:Heap)(v:AV)(k:AV→Option β):dI h v k=(rZ h v).bind k:=by
 cases v<;>simp only[dI,rZ,dN,Bf]
 rename_i vs
 cases vs.mapM (tree h)<;>rfl
def aS {β:Type}(R:C2)(h:Heap)(f:Nat)(m:CArg)(args:List AV)(k:AV→Heap→Option β):Option β:=
 match m with
 | .data=>X6 [] args fun as=>kO (R f as []) fun p=>match p.2 with
   | []=>fv p.1 fun v=>k v h
   |_::_=>dI (hp p.2) p.1 fun v=>k v h
 | .tree=>X6 h args fun as=>kO (R f as []) fun p=>match p.2 with
   | []=>fv p.1 fun v=>match N7 v with
     |true=>match args.flatMap arrs with
      | []=>k v h
      |ns=>k v (freeze h ns)
     |false=>k v h
   |_::_=>dI (hp p.2) p.1 fun v=>match N7 v with
    |true=>match args.flatMap arrs with
     | []=>k v h
     |ns=>k v (freeze h ns)
    |false=>k v h
 | .ref base=>
   kO (reach h 64 (args.flatMap refs) []) fun ns=>
   kO (ns.mapM fun o=>(hget h o).map fun ob=>{ob with cells:=ob.cells.map (ren2 (idx ns))}) fun hin=>
   kO (R f (args.map (ren (idx ns))) hin) fun p=>
    match Nat.ble ns.length p.2.length&&((names ns base p.2.length).drop ns.length).all (fun k=>(hget h k).isNone)with
    |true=>fv (ren (fun i=>(names ns base p.2.length).getD i 0) p.1) fun v=>vC (fun i=>(names ns base p.2.length).getD i 0) h ((names ns base p.2.length).zip p.2) fun h'=>k v h'
    |false=>none
theorem yE (h:Heap):freeze h []=h:=by
 induction h with
 |nil=>rfl
 |cons p r ih=>obtain⟨j,o⟩:=p;simp[freeze,ih]
theorem Ah9 {β:Type}(R:C2)(h:Heap)(f:Nat)(m:CArg)(args:List AV)(k:AV→Heap→Option β):aS R h f m args k=(callR R h f m args).bind fun p=>k p.1 p.2:=by
 cases m with
 |data=>
  simp only[aS,callR,dN,Bf,Option.bind_eq_bind,Option.bind_assoc,Option.pure_def,Ru]
  congr 1;funext as;congr 1;funext p
  obtain⟨v,o⟩:=p
  cases o with
  |nil=>simp only[back,zbs]
  |cons=>simp only[mS,back,zbs]
 |tree=>
  simp only[aS,callR,dN,Bf,Option.bind_eq_bind,Option.bind_assoc,Option.pure_def,Ru]
  congr 1;funext as;congr 1;funext p
  obtain⟨v,o⟩:=p
  have key: ∀v,(match N7 v with
   |true=>match args.flatMap arrs with
    | []=>k v h
    |ns=>k v (freeze h ns)
   |false=>k v h)=k v (if N7 v=true then freeze h (args.flatMap arrs)else h):=by
   intro v
   cases hl:N7 v with
   |true=>
    simp only[if_true]
    cases hn:args.flatMap arrs with
    |nil=>simp only[yE]
    |cons a b=>rfl
   |false=>rfl
  cases o with
  |cons=>simp only[mS,back,zbs,key]
  |nil=>simp only[back,zbs,key]
 |ref base=>
  simp only[aS,callR,Bf,Option.bind_eq_bind,Option.bind_assoc,Option.pure_def,Ru,Ahj]
  congr 1;funext ns;congr 1;funext hin;congr 1;funext p
  cases Nat.ble ns.length p.2.length&&((names ns base p.2.length).drop ns.length).all (fun k=>(hget h k).isNone)<;>rfl
@[simp] def Awh {β:Type}(op:BinOp)(x y:AV)(k:AV→Option β):Option β:=
  match op,x,y with
  | .add,.int .i64 a,.int .i64 b=>kB (in64 (a+b)) (k (.int .i64 (a+b))) (k (.int .i64 (IntKind.wrap .i64 (a+b))))
  | .sub,.int .i64 a,.int .i64 b=>kB (in64 (a-b)) (k (.int .i64 (a-b))) (k (.int .i64 (IntKind.wrap .i64 (a-b))))
  | .mul,.int .i64 a,.int .i64 b=>kB (in64 (a*b)) (k (.int .i64 (a*b))) (k (.int .i64 (IntKind.wrap .i64 (a*b))))
  | .shl,.int i a,.int _ b=>kB (decide (b<0)) none (k (.int i (i.wrap (a*2^min b.toNat i.bits))))
  | .shr,.int i a,.int _ b=>kB (decide (b<0)) none (k (.int i (a.fdiv (2^min b.toNat i.bits))))
  | .quo,.int i a,.int j b=>if i=j then kB (decide (b=0)) none (k (.int i (i.wrap (a.tdiv b))))else none
  | .rem,.int i a,.int j b=>if i=j then kB (decide (b=0)) none (k (.int i (a.tmod b)))else none
  | .add,.str a,.str b=>kB (decide (a.length+b.length≤9223372036854775807)) (k (.str (a++b))) none
  |op,x,y=>kO (V6 op x y) fun v=>fv v k
@[simp] def Jo {β:Type}(i:Int)(n:Nat)(k:Nat→Option β):Option β:=kB (decide (0≤i∧i<n)) (k i.toNat) none
theorem Oj {β:Type}(i:Int)(n:Nat)(k:Nat→Option β):Jo i n k=(within i n).bind k:=by
 simp only[Jo,within];by_cases h:0≤i∧i<n<;>simp[h,kB]
@[simp] def Gm {β:Type}(env:Env)(o:Option Opd)(dflt n:Nat)(k:Nat→Option β):Option β:=
  match o with
  |none=>k dflt
  |some x=>kO (Jt (evo env x)) fun i=>kB (decide (0≤i∧i≤n)) (k i.toNat) none
theorem Yl {β:Type}(env:Env)(o:Option Opd)(dflt n:Nat)(k:Nat→Option β):Gm env o dflt n k=(bound env o dflt n).bind k:=by
 cases o with
 |none=>rfl
 |some x=>
  simp only[Gm,bound,Bf,Option.bind_assoc,upto]
  congr 1;funext i
  by_cases h:0≤i∧i≤n<;>simp[h,kB]
@[simp] def Wq {β:Type}(v:AV)(k:Int→Option β):Option β:=
  match v with
  | .int _ n=>k n
  |_=>none
theorem Qy {β:Type}(v:AV)(k:Int→Option β):Wq v k=(Jt v).bind k:=by cases v<;>rfl
@[simp] def iL {β:Type}(env:Env):List Opd→(List Int→Option β)→Option β
  | [],k=>k []
  |x::r,k=>Wq (evo env x) fun n=>iL env r fun l=>k (n::l)
theorem Aly {β:Type}(env:Env)(l:List Opd): ∀k:List Int→Option β,iL env l k=(l.mapM fun y=>Jt (evo env y)).bind k:=by
 induction l with
 |nil=>intro k;rfl
 |cons x r ih=>
  intro k
  simp only[iL,Qy,ih,List.mapM_cons,Option.bind_eq_bind,Option.bind_assoc,Option.pure_def,zbs]
@[simp] def eqK {β:Type}:List CK→List AV→List AV→(Bool→Option β)→Option β
  | [],[],[],k=>k true
  | .i q::ks,.int j a::r,.int j' b::s,k=>if j=q∧j'=q then eqK ks r s fun t=>k (decide (a=b)&&t)else none
  | .s::ks,.str a::r,.str b::s,k=>eqK ks r s fun t=>k (decide (a=b)&&t)
  | .b::ks,.bool a::r,.bool b::s,k=>eqK ks r s fun t=>k (decide (a=b)&&t)
  |_,_,_,_=>none
theorem Avc {β:Type}(ks:List CK)(cs ds:List AV)(k:Bool→Option β):eqK ks cs ds k=(Cc ks cs ds).bind k:=by
 fun_induction Cc ks cs ds generalizing k with
 |case1=>rfl
 |case2 q ks j a r j' b s h ih=>
  simp only[eqK,if_pos h,ih]
  cases Cc ks r s<;>rfl
 |case3 q ks j a r j' b s h=>simp only[eqK,if_neg h];rfl
 |case4 ks a r b s ih=>
  simp only[eqK,ih]
  cases Cc ks r s<;>rfl
 |case5 ks a r b s ih=>
  simp only[eqK,ih]
  cases Cc ks r s<;>rfl
 |case6 x y z h1 h2 h3 h4=>
  unfold eqK
  split
  ·exact absurd rfl (h1 rfl rfl)
  ·exact absurd rfl (h2 _ _ _ _ _ _ _ _ rfl rfl)
  ·exact absurd rfl (h3 _ _ _ _ _ rfl rfl)
  ·exact absurd rfl (h4 _ _ _ _ _ rfl rfl)
  ·rfl
@[simp] def toK {β:Type}(i:IntKind)(n:Int)(k:Int→Option β):Option β:=
  match i with
  | .i64=>kB (in64 n) (k n) (k (IntKind.wrap .i64 n))
  | .u8=>kB (decide (0≤n∧n≤255)) (k n) (k (IntKind.wrap .u8 n))
  |i=>k (i.wrap n)
@[simp] def cut {α:Type}(lo hi:Option Opd)(xs:List α)(a b:Nat):List α:=
  match lo,hi with
  |none,none=>xs
  |some _,none=>xs.drop a
  |none,some _=>xs.take b
  |some _,some _=>(xs.take b).drop a
@[simp] def Aql (hi mx:Option Opd)(g:Gr)(b m:Nat):Gr:=
  match hi,mx with
  |none,_=>g
  |some _,none=>.no
  |some _,some _=>if b=m then .full else .no
theorem Vt {α β:Type}(env:Env)(lo hi:Option Opd)(xs:List α)(n:Nat)(hn:n=xs.length)(m:Nat)(k:Nat→List α→Option β):
 ((bound env hi n m).bind fun b=>(bound env lo 0 b).bind fun a=>k b (cut lo hi xs a b))=(bound env hi n m).bind fun b=>(bound env lo 0 b).bind fun a=>k b ((xs.take b).drop a):=by
 subst hn
 cases lo<;>cases hi<;>simp[bound]
@[simp] def opK {β:Type}(R:C2)(env:Env)(h:Heap)(op:MOp)(k:AV→Env→Heap→Option β):Option β:=
  match op with
  | .mv x=>evK env x fun v env=>k v env h
  | .pick c a b=>match evo env c with
    | .bool t=>kB t (fv (evo env a) fun v=>k v env h) (fv (evo env b) fun v=>k v env h)
    |_=>none
  | .new nm zero=>match hget h nm with
    |none=>k (.ptr nm 0) env ((nm,⟨true,zero⟩)::h)
    |some _=>none
  | .box nm x=>match hget h nm with
    |none=>evK env x fun v env=>if v.cells.all AV.isCell then k (.ptr nm 0) env ((nm,⟨true,v.cells⟩)::h)else none
    |some _=>none
  | .ld sz ag a=>match evo env a with
    | .ptr o off=>kO (hget h o) fun ob=>kO (Dr ob.cells off sz ag) fun v=>fv v fun v=>k v env h
    | .ept cs off=>kO (Dr cs off sz ag) fun v=>fv v fun v=>k v env h
    |_=>none
  | .ldx a=>match evo env a with
    | .ptr o off=>kO (hget h o) fun ob=>match ob.wr with
      |true=>kO (ob.cells[off]?) fun v=>fv v fun v=>Zn h o {ob with cells:=ob.cells.set off v.cp} fun h=>k v env h
      |false=>none
    |_=>none
  | .st sz a v=>match evo env a with
    | .ptr o off=>kO (hget h o) fun ob=>evK env v fun v env=>
      if ob.wr∧v.cells.length=sz∧v.cells.all AV.isCell then kO (Ck ob.cells off v.cells) fun cs=>Zn h o {ob with cells:=cs} fun h=>k .undef env h else none
    |_=>none
  | .nilc x=>match evo env x with
    | .ptr o a=>k (.ptr o a) env h
    | .ept cs a=>k (.ept cs a) env h
    |_=>none
  | .bin op x y=>Awh op (evo env x) (evo env y) fun v=>k v env h
  | .toInt i x=>Wq (evo env x) fun n=>toK i n fun n=>k (.int i n) env h
  | .s2b x=>match evo env x with
    | .str s=>kB (decide (s.length≤Ar)) (k (.lst (.own 1) (s.map He)) env h) none
    |_=>none
  | .s2bA nm x=>match hget h nm,evo env x with
    |none,.str s=>kB (decide (s.length≤Ar)) (k (.arr nm 0 s.length 1 false) env ((nm,⟨true,s.map He⟩)::h)) none
    |_,_=>none
  | .b2s x=>match evo env x with
    | .lst _ xs=>kO (xs.mapM Oa) fun s=>k (.str s) env h
    | .arr o off len 1 false=>kO (hget h o) fun ob=>kB (decide (off+len≤ob.cells.length)) (kO (((ob.cells.drop off).take len).mapM Oa) fun s=>k (.str s) env h) none
    |_=>none
  | .makeL e cap=>Wq (evo env cap) fun n=>kB (decide (0≤n∧n≤Ar)) (k (.lst (.own e) []) env h) none
  | .makeA nm e ag zero len=>match hget h nm with
    |none=>Wq (evo env len) fun n=>kB (decide (0≤n∧n≤Ar))
      (k (.arr nm 0 n.toNat e ag) env ((nm,⟨true,(List.replicate n.toNat zero).flatten⟩)::h)) none
    |some _=>none
  | .slcS x lo hi=>match evo env x with
    | .str s=>Gm env hi s.length s.length fun b=>Gm env lo 0 b fun a=>k (.str (cut lo hi s a b)) env h
    |_=>none
  | .slc e x lo hi mx=>match evo env x with
    | .lst g xs=>kB (iS e xs) (Gm env mx xs.length xs.length fun m=>Gm env hi xs.length m fun b=>Gm env lo 0 b fun a=>
       evK env x fun _ env=>k (.lst (Aql hi mx g b m) (cut lo hi xs a b)) env h) none
    | .arr o off len e' ag=>if e=e' then Gm env mx len len fun m=>Gm env hi len m fun b=>Gm env lo 0 b fun a=>
       k (.arr o (off+a*e) (b-a) e ag) env h else none
    |_=>none
  | .slcA n e ag x lo hi=>match evo env x with
    | .ptr o off=>Gm env hi n n fun b=>Gm env lo 0 b fun a=>k (.arr o (off+a*e) (b-a) e ag) env h
    |_=>none
  | .fa off x=>match evo env x with
    | .ptr o a=>k (.ptr o (a+off)) env h
    | .ept cs a=>k (.ept cs (a+off)) env h
    |_=>none
  | .fld off sz ag x=>match evo env x with
    | .agg cs=>kO (Dr cs off sz ag) fun v=>fv v fun v=>k v env h
    |_=>none
  | .ia e x i=>Wq (evo env i) fun i=>match evo env x with
    | .lst _ xs=>Jo i xs.length fun j=>kO (xs[j]?) fun y=>if y.cells.length=e then k (.ept y.cells 0) env h else none
    | .arr o off len e' _=>if e=e' then Jo i len fun j=>k (.ptr o (off+j*e)) env h else none
    |_=>none
  | .iaA n e x i=>Wq (evo env i) fun i=>match evo env x with
    | .ptr o off=>Jo i n fun j=>k (.ptr o (off+j*e)) env h
    | .ept cs off=>Jo i n fun j=>k (.ept cs (off+j*e)) env h
    |_=>none
  | .ixS x i=>Wq (evo env i) fun i=>match evo env x with
    | .str s=>Jo i s.length fun j=>kO (s[j]?) fun b=>k (He b) env h
    |_=>none
  | .ixA n e ag x i=>Wq (evo env i) fun i=>match evo env x with
    | .agg cs=>Jo i n fun j=>kO (Dr cs (j*e) e ag) fun v=>fv v fun v=>k v env h
    |_=>none
  | .eqA neg ks x y=>match evo env x,evo env y with
    | .agg cs,.agg ds=>eqK ks cs ds fun b=>match neg with
      |true=>k (.bool (!b)) env h
      |false=>k (.bool b) env h
    |_,_=>none
  | .eqB neg x y=>match evo env x with
    | .bool a=>match evo env y with
      | .bool b=>match neg with
        |true=>k (.bool (a !=b)) env h
        |false=>k (.bool (a==b)) env h
      |_=>none
    |_=>none
  | .lit e ag zero len parts=>kO (Ej e (List.replicate len (D4 ag zero)) (parts.map fun p=>(p.1,evo env p.2))) fun xs=>fvs (xs.map AV.dtE) fun xs=>kB (Bk e ag xs) (k (.lst .full xs) env h) none
  | .litA nm e ag zero len parts=>match hget h nm with
    |none=>kO (Ej e (List.replicate len (D4 ag zero)) (parts.map fun p=>(p.1,evo env p.2))) fun xs=>fvs (xs.map AV.dtE) fun xs=>kB (Bk e ag xs) (fl (xs.flatMap AV.cells) fun cs=>k (.arr nm 0 len e ag) env ((nm,⟨true,cs⟩)::h)) none
    |some _=>none
  | .len st x=>match st,evo env x with
    |true,.str s=>k (.int .i64 s.length) env h
    |false,.lst _ xs=>k (.int .i64 xs.length) env h
    |false,.arr _ _ len _ _=>k (.int .i64 len) env h
    |_,_=>none
  | .lenA n=>k (.int .i64 n) env h
  | .mm mx x [y]=>match evo env x with
    | .int i a=>Wq (evo env y) fun b=>match mx with
      |true=>k (.int i (max a b)) env h
      |false=>k (.int i (min a b)) env h
    |_=>none
  | .mm mx x r=>match evo env x with
    | .int i a=>iL env r fun l=>k (.int i (l.foldl (fun x y=>if mx then(if y>x then y else x)else(if y<x then y else x)) a)) env h
    |_=>none
  | .app e ag b a=>match evo env b with
    | .lst g xs=>kO (Ez h ag (evo env a)) fun ys=>
       kB (Zx e g xs) (kB (Bk e ag ys) (kB (decide (xs.length+ys.length≤Ar)) (evK env b fun _ env=>k (.lst (.own e) (xs++ys)) env h) none) none) none
    |_=>none
  | .copy e d s=>match evo env d with
    | .arr o off len e' ag=>if e=e' then kO (Ez h ag (evo env s)) fun ys=>kO (hget h o) fun ob=>
       match ob.wr with
       |true=>kB (Bk e ag ys) (kO (Ck ob.cells off ((ys.take (min ys.length len)).flatMap AV.cells)) fun cs=>Zn h o {ob with cells:=cs} fun h=>k (.int .i64 (min ys.length len:Nat)) env h) none
       |false=>none
      else none
    |_=>none
  | .ext x i=>match evo env x with
    | .tup vs=>kO (vs[i]?) fun v=>fv v fun v=>k v env h
    |_=>none
  | .call f m args=>dZ env args fun as env=>aS R h f m as fun v h=>k v env h
  | .callv x m args=>match evo env x with
    | .fn f cap=>dZ env args fun as env=>aS R h f m (Vh cap as) fun v h=>k v env h
    |_=>none
  |op=>kO (opv R env h op) fun p=>match p with|(v,env,h)=>fv v fun v=>k v env h
@[simp] def Avq {β:Type}(R:C2)(i:MI)(env:Env)(h:Heap)(k:Env→Heap→Option β):Option β:=
  match i with
  |⟨d,g,op⟩=>
   match g with
   |none=>opK R env h op fun v env h=>match d with
    |some j=>k ((j,v)::env) h
    |none=>k env h
   |some (j,want)=>match get env j with
    | .bool b=>match want with
      |true=>kB b
       (opK R env h op fun v env h=>match d with
         |some j=>k ((j,v)::env) h
         |none=>k env h)
       (match d with
         |some j=>k ((j,.nov)::env) h
         |none=>k env h)
      |false=>kB b
       (match d with
         |some j=>k ((j,.nov)::env) h
         |none=>k env h)
       (opK R env h op fun v env h=>match d with
         |some j=>k ((j,v)::env) h
         |none=>k env h)
    | .nov=>match d with
      |some j=>k ((j,.nov)::env) h
      |none=>k env h
    |_=>none
@[simp] def Avv {β:Type}(R:C2):List MI→Env→Heap→(Env→Heap→Option β)→Option β
  | [],env,h,k=>k env h
  |i::r,env,h,k=>Avq R i env h fun env h=>Avv R r env h k
@[simp] def rn {β:Type}(R:MRec):MCode→Env→Heap→(Ex→Env→Heap→Option β)→Option β
  | .skip,env,h,k=>k .norm env h
  | .reg ops ap,env,h,k=>Avv R.call ops env h fun env h=>match ap with
    | []=>k .norm env h
    |ap=>if ap.all (fun p=>distinct p.1.1 (evo env p.1.2) p.2.1 (evo env p.2.2))then k .norm env h else none
  | .seq a b,env,h,k=>rn R a env h fun e env h=>match e with
     | .norm=>rn R b env h k
     | .exit j=>k (.exit j) env h
     | .ret=>k .ret env h
  | .cond c a b,env,h,k=>match evo env c with
     | .bool t=>kB t (rn R a env h k) (rn R b env h k)
     |_=>none
  | .block id b,env,h,k=>rn R b env h fun e env h=>match e with
     | .exit j=>match Nat.beq j id with
       |true=>k .norm env h
       |false=>k (.exit j) env h
     | .norm=>k .norm env h
     | .ret=>k .ret env h
  | .loop ks ko kx b,env,h,k=>kO (R.loop (ks,ko,kx,b) ⟨env,h⟩) fun p=>match p with|(e,⟨env,h⟩)=>k e env h
  | .exit id,env,h,k=>k (.exit id) env h
  | .ret,env,h,k=>k .ret env h
def Al7 {β:Type}(s:St)(l:List MRes):(List AV→Option β)→Option β:=
 @List.rec MRes (fun _=>(List AV→Option β)→Option β) (fun k=>k []) (fun r _ ih k=>kO (eY s r) fun v=>ih fun vs=>k (v::vs)) l
@[simp] theorem Ac6 {β:Type}(s:St)(r:MRes)(l:List MRes)(k:List AV→Option β):Al7 s (r::l) k=kO (eY s r) fun v=>Al7 s l fun vs=>k (v::vs):=rfl
theorem Aa2 {β:Type}(s:St)(l:List MRes): ∀k:List AV→Option β,Al7 s l k=(l.mapM (eY s)).bind k:=by
 induction l with
 |nil=>intro k;rfl
 |cons r l ih=>intro k;simp only[Ac6,Bf,ih,List.mapM_cons,Option.bind_eq_bind,Option.bind_assoc,Option.pure_def,zbs]
@[simp] def Acl {β:Type}(ns:List Nat)(h:Heap):List AV→(List AV→Option β)→Option β
  | [],k=>k []
  |v::l,k=>kO (eD ns h v) fun v'=>Acl ns h l fun vs=>k (v'::vs)
theorem Aqw {β:Type}(ns:List Nat)(h:Heap)(l:List AV): ∀k:List AV→Option β,Acl ns h l k=(l.mapM (eD ns h)).bind k:=by
 induction l with
 |nil=>intro k;rfl
 |cons v l ih=>intro k;simp only[Acl,Bf,ih,List.mapM_cons,Option.bind_eq_bind,Option.bind_assoc,Option.pure_def,zbs]
@[simp] def Acv (n:Nat)(ns:List Nat)(h:Heap)(rs:List AV):Option (AV×List Obj):=
  kO (ns.mapM fun o=>(hget h o).map fun ob=>{ob with cells:=ob.cells.map (ren2 (idx ns))}) fun out=>match Nat.ble n 100 with
   |true=>some (one rs,out)
   |false=>none
@[simp] def Aiq (F:MFunc)(n:Nat)(s:St):Option (AV×List Obj):=
  Al7 s F.res fun vs=>match F.handsRef with
   |false=>kO (reach s.heap 64 (List.range n++[]) []) fun ns=>Acl ns s.heap vs fun rs=>Acv n ns s.heap rs
   |true=>kO (reach s.heap 64 (List.range n++vs.flatMap refs) []) fun ns=>if vs.all AV.flat2 then Acv n ns s.heap (vs.map (ren (idx ns)))else none
theorem Aak (F:MFunc)(n:Nat)(s:St):Aiq F n s=finish F n s:=by
 have fin: ∀(b:Bool) (x:AV×List Obj),(match b with|true=>some x|false=>none)=if b=true then pure x else none:=by
  intro b x;cases b<;>rfl
 cases hF:F.handsRef with
 |true=>
  simp only[Aiq,finish,Acv,hF,Aa2,Bf,Option.bind_eq_bind,if_true,fin]
  congr 1;funext vs;congr 1;funext ns
  by_cases hv:vs.all AV.flat2=true
  ·simp only[hv,if_true,zbs]
  ·simp only[hv,if_false,Bool.false_eq_true,Option.bind_none]
 |false=>
  simp only[Aiq,finish,Acv,hF,Aa2,Aqw,Bf,Option.bind_eq_bind,Bool.false_eq_true,if_false,fin]
section
variable (M:Prog) (X:Nat→List AV→Option (AV×List Obj))
end
end
end Go.Proofs.PF
