/-
  PF, parts 3 to 3: a small machine with values, and that Go's code does what it tells. Conditions: none beyond each theorem's own.
-/
import Derived.Test.YtaoijbibmcgdaaaGreatPFa
set_option linter.unusedVariables false
set_option linter.unusedSimpArgs false
namespace Go.Proofs.PF
def kO {α β:Type}(o:Option α)(k:α→Option β):Option β:=
 match o with
 |some a=>k a
 |none=>none
def kB {β:Type}(b:Bool)(x y:Option β):Option β:=
 match b with
 |true=>x
 |false=>y
theorem kO_bind {α β:Type}(o:Option α)(k:α→Option β):kO o k=o.bind k:=by cases o<;>rfl
@[irreducible] noncomputable def in64 (n:Int):Bool:= @decide (-9223372036854775808≤n∧n≤9223372036854775807) (Classical.propDecidable _)
theorem in64_true {n:Int}(h: -9223372036854775808≤n∧n≤9223372036854775807):in64 n=true:=by unfold in64;exact @decide_eq_true _ (Classical.propDecidable _) h
theorem in64_false {n:Int}(h: ¬(-9223372036854775808≤n∧n≤9223372036854775807)):in64 n=false:=by unfold in64;exact @decide_eq_false _ (Classical.propDecidable _) h
theorem wrap64 {n:Int}(h: -9223372036854775808≤n∧n≤9223372036854775807):IntKind.wrap .i64 n=n:=by
 have:IntKind.wrap .i64 n=(n+9223372036854775808)%18446744073709551616-9223372036854775808:=by
  simp only[IntKind.wrap,IntKind.bits,IntKind.signed]
  simp
  split<;>omega
 omega
@[simp] def fc {β:Type}(v:AV)(k:AV→Option β):Option β:=
  match v with
  | .undef=>k .undef
  | .nov=>k .nov
  | .bool b=>k (.bool b)
  | .int i n=>k (.int i n)
  | .str s=>k (.str s)
  | .agg cs=>k (.agg cs)
  | .tup vs=>k (.tup vs)
  | .lst g xs=>k (.lst g xs)
  | .arr a b c d e=>k (.arr a b c d e)
  | .arw a b c d=>k (.arw a b c d)
  | .ptr o a=>k (.ptr o a)
  | .ept cs a=>k (.ept cs a)
  | .nilp=>k .nilp
  | .fn f c=>k (.fn f c)
theorem fc_eq {β:Type}(v:AV)(k:AV→Option β):fc v k=k v:=by cases v<;>rfl
@[simp] def fl {β:Type}:List AV→(List AV→Option β)→Option β
  | [],k=>k []
  |a::r,k=>fc a fun b=>fl r fun s=>k (b::s)
theorem fl_eq {β:Type}(l:List AV): ∀k:List AV→Option β,fl l k=k l:=by
 induction l with
 |nil=>intro k;rfl
 |cons a r ih=>intro k;simp only[fl,fc_eq,ih]
@[simp] def fv {β:Type}(v:AV)(k:AV→Option β):Option β:=
  match v with
  | .undef=>k .undef
  | .nov=>k .nov
  | .bool b=>k (.bool b)
  | .int i n=>k (.int i n)
  | .str s=>k (.str s)
  | .agg cs=>fl cs fun cs=>k (.agg cs)
  | .tup vs=>k (.tup vs)
  | .lst g xs=>k (.lst g xs)
  | .arr a b c d e=>k (.arr a b c d e)
  | .arw a b c d=>k (.arw a b c d)
  | .ptr o a=>k (.ptr o a)
  | .ept cs a=>k (.ept cs a)
  | .nilp=>k .nilp
  | .fn f c=>k (.fn f c)
theorem fv_eq {β:Type}(v:AV)(k:AV→Option β):fv v k=k v:=by cases v<;>first|rfl|exact fl_eq _ _
@[simp] def fvs {β:Type}:List AV→(List AV→Option β)→Option β
  | [],k=>k []
  |a::r,k=>fv a fun b=>fvs r fun s=>k (b::s)
theorem fvs_eq {β:Type}(l:List AV): ∀k:List AV→Option β,fvs l k=k l:=by
 induction l with
 |nil=>intro k;rfl
 |cons a r ih=>intro k;simp only[fvs,fv_eq,ih]
@[simp] def evK {β:Type}(env:Env)(x:Opd)(k:AV→Env→Option β):Option β:=
  match x with
  | .t j=>fv (get env j).cp fun v=>k v env
  | .x j=>fv (get env j) fun v=>fv v.cp fun w=>k v ((j,w)::env)
  | .c v=>k v env
theorem evK_eq {β:Type}(env:Env)(x:Opd)(k:AV→Env→Option β):evK env x k=k (evo env x) (evoE env x):=by
 cases x<;>simp only[evK,fv_eq,evo,evoE]
@[simp] def argsK {β:Type}(env:Env):List Opd→(List AV→Env→Option β)→Option β
  | [],k=>k [] env
  |a::r,k=>evK env a fun v env'=>argsK env' r fun vs e2=>k (v::vs) e2
theorem argsK_eq {β:Type}(l:List Opd): ∀(env:Env) (k:List AV→Env→Option β),argsK env l k=k (argsV env l) (argsE env l):=by
 induction l with
 |nil=>intro env k;rfl
 |cons a r ih=>intro env k;simp only[argsK,evK_eq,ih,argsV,argsE]
@[simp] def hsetK {β:Type}:Heap→Nat→Obj→(Heap→Option β)→Option β
  | [],_,_,k=>k []
  |(j,o)::r,n,o',k=>match Nat.beq j n with
   |true=>k ((j,o')::r)
   |false=>hsetK r n o' fun r'=>k ((j,o)::r')
theorem hsetK_eq {β:Type}(h:Heap)(n:Nat)(o:Obj): ∀k:Heap→Option β,hsetK h n o k=k (hset h n o):=by
 induction h with
 |nil=>intro k;rfl
 |cons p r ih=>
  intro k
  obtain⟨j,o'⟩:=p
  simp only[hsetK,hset]
  cases Nat.beq j n
  ·exact ih _
  ·rfl
@[simp] def treesK {β:Type}(h:Heap):List AV→(List AV→Option β)→Option β
  | [],k=>k []
  |a::r,k=>kO (tree h a) fun b=>treesK h r fun s=>k (b::s)
theorem treesK_eq {β:Type}(h:Heap)(l:List AV): ∀k:List AV→Option β,treesK h l k=(l.mapM (tree h)).bind k:=by
 induction l with
 |nil=>intro k;rfl
 |cons a r ih=>
  intro k
  simp only[treesK,kO_bind,List.mapM_cons,Option.bind_eq_bind,Option.bind_assoc,Option.pure_def,ih,zbs]
@[simp] def hputK {β:Type}:Heap→Nat→Obj→(Heap→Option β)→Option β
  | [],n,o',k=>k [(n,o')]
  |(j,o)::r,n,o',k=>match Nat.beq j n with
   |true=>k ((j,o')::r)
   |false=>hputK r n o' fun r'=>k ((j,o)::r')
theorem hputK_eq {β:Type}(h:Heap)(n:Nat)(o:Obj): ∀k:Heap→Option β,hputK h n o k=k (hput h n o):=by
 induction h with
 |nil=>intro k;rfl
 |cons p r ih=>
  intro k
  obtain⟨j,o'⟩:=p
  simp only[hputK,hput]
  cases Nat.beq j n
  ·exact ih _
  ·rfl
noncomputable def putsK {β:Type}(f:Nat→Nat)(h:Heap)(l:List (Nat×Obj)):(Heap→Option β)→Option β:=
 @List.rec (Nat×Obj) (fun _=>Heap→(Heap→Option β)→Option β) (fun h k=>k h) (fun p _ ih h k=>match p with
  |(o,ob)=>fl (ob.cells.map (ren2 f)) fun cs=>hputK h o {ob with cells:=cs} fun h'=>ih h' k) l h
@[simp] theorem putsK_cons {β:Type}(f:Nat→Nat)(h:Heap)(o:Nat)(ob:Obj)(r:List (Nat×Obj))(k:Heap→Option β):putsK f h ((o,ob)::r) k=fl (ob.cells.map (ren2 f)) fun cs=>hputK h o {ob with cells:=cs} fun h'=>putsK f h' r k:=rfl
theorem putsK_eq {β:Type}(f:Nat→Nat)(l:List (Nat×Obj)): ∀(h:Heap) (k:Heap→Option β),
 putsK f h l k=k (l.foldl (fun h p=>hput h p.1 {p.2 with cells:=p.2.cells.map (ren2 f)}) h):=by
 induction l with
 |nil=>intro h k;rfl
 |cons p r ih=>
  intro h k
  obtain⟨o,ob⟩:=p
  simp only[putsK_cons,fl_eq,hputK_eq,ih,List.foldl_cons]
def treeTK {β:Type}(h:Heap)(v:AV)(k:AV→Option β):Option β:=
 match v with
 | .tup vs=>treesK h vs fun rs=>k (.tup rs)
 |v=>kO (tree h v) k
theorem treeTK_eq {β:Type}(h:Heap)(v:AV)(k:AV→Option β):treeTK h v k=(treeT h v).bind k:=by
 cases v<;>simp only[treeTK,treeT,treesK_eq,kO_bind]
 rename_i vs
 cases vs.mapM (tree h)<;>rfl
noncomputable def callK {β:Type}(R:CallF)(h:Heap)(f:Nat)(m:CArg)(args:List AV)(k:AV→Heap→Option β):Option β:=
 match m with
 | .data=>treesK [] args fun as=>kO (R f as []) fun p=>match p.2 with
   | []=>fv p.1 fun v=>k v h
   |_::_=>treeTK (hp p.2) p.1 fun v=>k v h
 | .tree=>treesK h args fun as=>kO (R f as []) fun p=>match p.2 with
   | []=>fv p.1 fun v=>match hasLst v with
     |true=>match args.flatMap arrs with
      | []=>k v h
      |ns=>k v (freeze h ns)
     |false=>k v h
   |_::_=>treeTK (hp p.2) p.1 fun v=>match hasLst v with
    |true=>match args.flatMap arrs with
     | []=>k v h
     |ns=>k v (freeze h ns)
    |false=>k v h
 | .ref base=>
   kO (reach h 64 (args.flatMap refs) []) fun ns=>
   kO (ns.mapM fun o=>(hget h o).map fun ob=>{ob with cells:=ob.cells.map (ren2 (idx ns))}) fun hin=>
   kO (R f (args.map (ren (idx ns))) hin) fun p=>
    match Nat.ble ns.length p.2.length&&((names ns base p.2.length).drop ns.length).all (fun k=>(hget h k).isNone)with
    |true=>fv (ren (fun i=>(names ns base p.2.length).getD i 0) p.1) fun v=>putsK (fun i=>(names ns base p.2.length).getD i 0) h ((names ns base p.2.length).zip p.2) fun h'=>k v h'
    |false=>none
theorem freeze_nil (h:Heap):freeze h []=h:=by
 induction h with
 |nil=>rfl
 |cons p r ih=>obtain⟨j,o⟩:=p;simp[freeze,ih]
theorem callK_eq {β:Type}(R:CallF)(h:Heap)(f:Nat)(m:CArg)(args:List AV)(k:AV→Heap→Option β):callK R h f m args k=(callR R h f m args).bind fun p=>k p.1 p.2:=by
 cases m with
 |data=>
  simp only[callK,callR,treesK_eq,kO_bind,Option.bind_eq_bind,Option.bind_assoc,Option.pure_def,fv_eq]
  congr 1;funext as;congr 1;funext p
  obtain⟨v,o⟩:=p
  cases o with
  |nil=>simp only[back,zbs]
  |cons=>simp only[treeTK_eq,back,zbs]
 |tree=>
  simp only[callK,callR,treesK_eq,kO_bind,Option.bind_eq_bind,Option.bind_assoc,Option.pure_def,fv_eq]
  congr 1;funext as;congr 1;funext p
  obtain⟨v,o⟩:=p
  have key: ∀v,(match hasLst v with
   |true=>match args.flatMap arrs with
    | []=>k v h
    |ns=>k v (freeze h ns)
   |false=>k v h)=k v (if hasLst v=true then freeze h (args.flatMap arrs)else h):=by
   intro v
   cases hl:hasLst v with
   |true=>
    simp only[if_true]
    cases hn:args.flatMap arrs with
    |nil=>simp only[freeze_nil]
    |cons a b=>rfl
   |false=>rfl
  cases o with
  |cons=>simp only[treeTK_eq,back,zbs,key]
  |nil=>simp only[back,zbs,key]
 |ref base=>
  simp only[callK,callR,kO_bind,Option.bind_eq_bind,Option.bind_assoc,Option.pure_def,fv_eq,putsK_eq]
  congr 1;funext ns;congr 1;funext hin;congr 1;funext p
  cases Nat.ble ns.length p.2.length&&((names ns base p.2.length).drop ns.length).all (fun k=>(hget h k).isNone)<;>rfl
@[simp] noncomputable def binK {β:Type}(op:BinOp)(x y:AV)(k:AV→Option β):Option β:=
  match op,x,y with
  | .add,.int .i64 a,.int .i64 b=>kB (in64 (a+b)) (k (.int .i64 (a+b))) (k (.int .i64 (IntKind.wrap .i64 (a+b))))
  | .sub,.int .i64 a,.int .i64 b=>kB (in64 (a-b)) (k (.int .i64 (a-b))) (k (.int .i64 (IntKind.wrap .i64 (a-b))))
  | .mul,.int .i64 a,.int .i64 b=>kB (in64 (a*b)) (k (.int .i64 (a*b))) (k (.int .i64 (IntKind.wrap .i64 (a*b))))
  | .shl,.int i a,.int _ b=>kB (decide (b<0)) none (k (.int i (i.wrap (a*2^min b.toNat i.bits))))
  | .shr,.int i a,.int _ b=>kB (decide (b<0)) none (k (.int i (a.fdiv (2^min b.toNat i.bits))))
  | .quo,.int i a,.int j b=>if i=j then kB (decide (b=0)) none (k (.int i (i.wrap (a.tdiv b))))else none
  | .rem,.int i a,.int j b=>if i=j then kB (decide (b=0)) none (k (.int i (a.tmod b)))else none
  | .add,.str a,.str b=>kB (decide (a.length+b.length≤9223372036854775807)) (k (.str (a++b))) none
  |op,x,y=>kO (binV op x y) fun v=>fv v k
theorem binK_eq {β:Type}(op:BinOp)(x y:AV)(k:AV→Option β):binK op x y k=(binV op x y).bind k:=by
 unfold binK
 split
 ·rename_i a b
  simp only[binV,if_true,zbs]
  by_cases h: -9223372036854775808≤a+b∧a+b≤9223372036854775807
  ·rw[in64_true h,wrap64 h];rfl
  ·rw[in64_false h];rfl
 ·rename_i a b
  simp only[binV,if_true,zbs]
  by_cases h: -9223372036854775808≤a-b∧a-b≤9223372036854775807
  ·rw[in64_true h,wrap64 h];rfl
  ·rw[in64_false h];rfl
 ·rename_i a b
  simp only[binV,if_true,zbs]
  by_cases h: -9223372036854775808≤a*b∧a*b≤9223372036854775807
  ·rw[in64_true h,wrap64 h];rfl
  ·rw[in64_false h];rfl
 ·rename_i i a j b;simp only[binV];by_cases hb:b<0<;>simp[hb,kB]
 ·rename_i i a j b;simp only[binV];by_cases hb:b<0<;>simp[hb,kB]
 ·rename_i i a j b;simp only[binV];by_cases hj:i=j<;>by_cases hb:b=0<;>simp[hj,hb,kB]
 ·rename_i i a j b;simp only[binV];by_cases hj:i=j<;>by_cases hb:b=0<;>simp[hj,hb,kB]
 ·rename_i a b;simp only[binV];by_cases hl:a.length+b.length≤9223372036854775807<;>simp[hl,kB]
 ·rw[kO_bind];congr 1;funext v;exact fv_eq v k
@[simp] def withinK {β:Type}(i:Int)(n:Nat)(k:Nat→Option β):Option β:=kB (decide (0≤i∧i<n)) (k i.toNat) none
theorem withinK_eq {β:Type}(i:Int)(n:Nat)(k:Nat→Option β):withinK i n k=(within i n).bind k:=by
 simp only[withinK,within];by_cases h:0≤i∧i<n<;>simp[h,kB]
@[simp] def boundK {β:Type}(env:Env)(o:Option Opd)(dflt n:Nat)(k:Nat→Option β):Option β:=
  match o with
  |none=>k dflt
  |some x=>kO (intV (evo env x)) fun i=>kB (decide (0≤i∧i≤n)) (k i.toNat) none
theorem boundK_eq {β:Type}(env:Env)(o:Option Opd)(dflt n:Nat)(k:Nat→Option β):boundK env o dflt n k=(bound env o dflt n).bind k:=by
 cases o with
 |none=>rfl
 |some x=>
  simp only[boundK,bound,kO_bind,Option.bind_assoc,upto]
  congr 1;funext i
  by_cases h:0≤i∧i≤n<;>simp[h,kB]
@[simp] def intK {β:Type}(v:AV)(k:Int→Option β):Option β:=
  match v with
  | .int _ n=>k n
  |_=>none
theorem intK_eq {β:Type}(v:AV)(k:Int→Option β):intK v k=(intV v).bind k:=by cases v<;>rfl
@[simp] def intsK {β:Type}(env:Env):List Opd→(List Int→Option β)→Option β
  | [],k=>k []
  |x::r,k=>intK (evo env x) fun n=>intsK env r fun l=>k (n::l)
theorem intsK_eq {β:Type}(env:Env)(l:List Opd): ∀k:List Int→Option β,intsK env l k=(l.mapM fun y=>intV (evo env y)).bind k:=by
 induction l with
 |nil=>intro k;rfl
 |cons x r ih=>
  intro k
  simp only[intsK,intK_eq,ih,List.mapM_cons,Option.bind_eq_bind,Option.bind_assoc,Option.pure_def,zbs]
@[simp] def eqK {β:Type}:List CK→List AV→List AV→(Bool→Option β)→Option β
  | [],[],[],k=>k true
  | .i q::ks,.int j a::r,.int j' b::s,k=>if j=q∧j'=q then eqK ks r s fun t=>k (decide (a=b)&&t)else none
  | .s::ks,.str a::r,.str b::s,k=>eqK ks r s fun t=>k (decide (a=b)&&t)
  | .b::ks,.bool a::r,.bool b::s,k=>eqK ks r s fun t=>k (decide (a=b)&&t)
  |_,_,_,_=>none
theorem eqK_eq {β:Type}(ks:List CK)(cs ds:List AV)(k:Bool→Option β):eqK ks cs ds k=(eqCells ks cs ds).bind k:=by
 fun_induction eqCells ks cs ds generalizing k with
 |case1=>rfl
 |case2 q ks j a r j' b s h ih=>
  simp only[eqK,if_pos h,ih]
  cases eqCells ks r s<;>rfl
 |case3 q ks j a r j' b s h=>simp only[eqK,if_neg h];rfl
 |case4 ks a r b s ih=>
  simp only[eqK,ih]
  cases eqCells ks r s<;>rfl
 |case5 ks a r b s ih=>
  simp only[eqK,ih]
  cases eqCells ks r s<;>rfl
 |case6 x y z h1 h2 h3 h4=>
  unfold eqK
  split
  ·exact absurd rfl (h1 rfl rfl)
  ·exact absurd rfl (h2 _ _ _ _ _ _ _ _ rfl rfl)
  ·exact absurd rfl (h3 _ _ _ _ _ rfl rfl)
  ·exact absurd rfl (h4 _ _ _ _ _ rfl rfl)
  ·rfl
@[simp] noncomputable def toK {β:Type}(i:IntKind)(n:Int)(k:Int→Option β):Option β:=
  match i with
  | .i64=>kB (in64 n) (k n) (k (IntKind.wrap .i64 n))
  | .u8=>kB (decide (0≤n∧n≤255)) (k n) (k (IntKind.wrap .u8 n))
  |i=>k (i.wrap n)
theorem toK_eq {β:Type}(i:IntKind)(n:Int)(k:Int→Option β):toK i n k=k (i.wrap n):=by
 cases i<;>try rfl
 ·simp only[toK]
  by_cases h: -9223372036854775808≤n∧n≤9223372036854775807
  ·rw[in64_true h,wrap64 h];rfl
  ·rw[in64_false h];rfl
 ·simp only[toK]
  by_cases h:0≤n∧n≤255
  ·have:IntKind.wrap .u8 n=n:=by
    simp only[IntKind.wrap,IntKind.bits,IntKind.signed]
    simp
    omega
   rw[decide_eq_true h,this];rfl
  ·rw[decide_eq_false h];rfl
@[simp] def cut {α:Type}(lo hi:Option Opd)(xs:List α)(a b:Nat):List α:=
  match lo,hi with
  |none,none=>xs
  |some _,none=>xs.drop a
  |none,some _=>xs.take b
  |some _,some _=>(xs.take b).drop a
@[simp] def cutG (hi mx:Option Opd)(g:Gr)(b m:Nat):Gr:=
  match hi,mx with
  |none,_=>g
  |some _,none=>.no
  |some _,some _=>if b=m then .full else .no
theorem cut_eq {α β:Type}(env:Env)(lo hi:Option Opd)(xs:List α)(n:Nat)(hn:n=xs.length)(m:Nat)(k:Nat→List α→Option β):
 ((bound env hi n m).bind fun b=>(bound env lo 0 b).bind fun a=>k b (cut lo hi xs a b))=(bound env hi n m).bind fun b=>(bound env lo 0 b).bind fun a=>k b ((xs.take b).drop a):=by
 subst hn
 cases lo<;>cases hi<;>simp[bound]
@[simp] noncomputable def opK {β:Type}(R:CallF)(env:Env)(h:Heap)(op:MOp)(k:AV→Env→Heap→Option β):Option β:=
  match op with
  | .mv x=>evK env x fun v env=>k v env h
  | .pick c a b=>match evo env c with
    | .bool t=>kB t (fv (evo env a) fun v=>k v env h) (fv (evo env b) fun v=>k v env h)
    |_=>none
  | .new nm zero=>match hget h nm with
    |none=>k (.ptr nm 0) env ((nm,⟨true,zero⟩)::h)
    |some _=>none
  | .box nm x=>match hget h nm with
    |none=>evK env x fun v env=>if v.cells.all AV.isCell then k (.ptr nm 0) env ((nm,⟨true,v.cells⟩)::h)else none
    |some _=>none
  | .ld sz ag a=>match evo env a with
    | .ptr o off=>kO (hget h o) fun ob=>kO (loadC ob.cells off sz ag) fun v=>fv v fun v=>k v env h
    | .ept cs off=>kO (loadC cs off sz ag) fun v=>fv v fun v=>k v env h
    |_=>none
  | .ldx a=>match evo env a with
    | .ptr o off=>kO (hget h o) fun ob=>match ob.wr with
      |true=>kO (ob.cells[off]?) fun v=>fv v fun v=>hsetK h o {ob with cells:=ob.cells.set off v.cp} fun h=>k v env h
      |false=>none
    |_=>none
  | .st sz a v=>match evo env a with
    | .ptr o off=>kO (hget h o) fun ob=>evK env v fun v env=>
      if ob.wr∧v.cells.length=sz∧v.cells.all AV.isCell then kO (storeC ob.cells off v.cells) fun cs=>hsetK h o {ob with cells:=cs} fun h=>k .undef env h else none
    |_=>none
  | .nilc x=>match evo env x with
    | .ptr o a=>k (.ptr o a) env h
    | .ept cs a=>k (.ept cs a) env h
    |_=>none
  | .bin op x y=>binK op (evo env x) (evo env y) fun v=>k v env h
  | .toInt i x=>intK (evo env x) fun n=>toK i n fun n=>k (.int i n) env h
  | .s2b x=>match evo env x with
    | .str s=>kB (decide (s.length≤lenMax)) (k (.lst (.own 1) (s.map byteAV)) env h) none
    |_=>none
  | .s2bA nm x=>match hget h nm,evo env x with
    |none,.str s=>kB (decide (s.length≤lenMax)) (k (.arr nm 0 s.length 1 false) env ((nm,⟨true,s.map byteAV⟩)::h)) none
    |_,_=>none
  | .b2s x=>match evo env x with
    | .lst _ xs=>kO (xs.mapM avByte) fun s=>k (.str s) env h
    | .arr o off len 1 false=>kO (hget h o) fun ob=>kB (decide (off+len≤ob.cells.length)) (kO (((ob.cells.drop off).take len).mapM avByte) fun s=>k (.str s) env h) none
    |_=>none
  | .makeL e cap=>intK (evo env cap) fun n=>kB (decide (0≤n∧n≤lenMax)) (k (.lst (.own e) []) env h) none
  | .makeA nm e ag zero len=>match hget h nm with
    |none=>intK (evo env len) fun n=>kB (decide (0≤n∧n≤lenMax))
      (k (.arr nm 0 n.toNat e ag) env ((nm,⟨true,(List.replicate n.toNat zero).flatten⟩)::h)) none
    |some _=>none
  | .slcS x lo hi=>match evo env x with
    | .str s=>boundK env hi s.length s.length fun b=>boundK env lo 0 b fun a=>k (.str (cut lo hi s a b)) env h
    |_=>none
  | .slc e x lo hi mx=>match evo env x with
    | .lst g xs=>kB (headE e xs) (boundK env mx xs.length xs.length fun m=>boundK env hi xs.length m fun b=>boundK env lo 0 b fun a=>
       evK env x fun _ env=>k (.lst (cutG hi mx g b m) (cut lo hi xs a b)) env h) none
    | .arr o off len e' ag=>if e=e' then boundK env mx len len fun m=>boundK env hi len m fun b=>boundK env lo 0 b fun a=>
       k (.arr o (off+a*e) (b-a) e ag) env h else none
    |_=>none
  | .slcA n e ag x lo hi=>match evo env x with
    | .ptr o off=>boundK env hi n n fun b=>boundK env lo 0 b fun a=>k (.arr o (off+a*e) (b-a) e ag) env h
    |_=>none
  | .fa off x=>match evo env x with
    | .ptr o a=>k (.ptr o (a+off)) env h
    | .ept cs a=>k (.ept cs (a+off)) env h
    |_=>none
  | .fld off sz ag x=>match evo env x with
    | .agg cs=>kO (loadC cs off sz ag) fun v=>fv v fun v=>k v env h
    |_=>none
  | .ia e x i=>intK (evo env i) fun i=>match evo env x with
    | .lst _ xs=>withinK i xs.length fun j=>kO (xs[j]?) fun y=>if y.cells.length=e then k (.ept y.cells 0) env h else none
    | .arr o off len e' _=>if e=e' then withinK i len fun j=>k (.ptr o (off+j*e)) env h else none
    |_=>none
  | .iaA n e x i=>intK (evo env i) fun i=>match evo env x with
    | .ptr o off=>withinK i n fun j=>k (.ptr o (off+j*e)) env h
    | .ept cs off=>withinK i n fun j=>k (.ept cs (off+j*e)) env h
    |_=>none
  | .ixS x i=>intK (evo env i) fun i=>match evo env x with
    | .str s=>withinK i s.length fun j=>kO (s[j]?) fun b=>k (byteAV b) env h
    |_=>none
  | .ixA n e ag x i=>intK (evo env i) fun i=>match evo env x with
    | .agg cs=>withinK i n fun j=>kO (loadC cs (j*e) e ag) fun v=>fv v fun v=>k v env h
    |_=>none
  | .eqA neg ks x y=>match evo env x,evo env y with
    | .agg cs,.agg ds=>eqK ks cs ds fun b=>match neg with
      |true=>k (.bool (!b)) env h
      |false=>k (.bool b) env h
    |_,_=>none
  | .eqB neg x y=>match evo env x with
    | .bool a=>match evo env y with
      | .bool b=>match neg with
        |true=>k (.bool (a !=b)) env h
        |false=>k (.bool (a==b)) env h
      |_=>none
    |_=>none
  | .lit e ag zero len parts=>kO (putElems e (List.replicate len (zeroElem ag zero)) (parts.map fun p=>(p.1,evo env p.2))) fun xs=>fvs (xs.map AV.dtE) fun xs=>kB (okElems e ag xs) (k (.lst .full xs) env h) none
  | .litA nm e ag zero len parts=>match hget h nm with
    |none=>kO (putElems e (List.replicate len (zeroElem ag zero)) (parts.map fun p=>(p.1,evo env p.2))) fun xs=>fvs (xs.map AV.dtE) fun xs=>kB (okElems e ag xs) (fl (xs.flatMap AV.cells) fun cs=>k (.arr nm 0 len e ag) env ((nm,⟨true,cs⟩)::h)) none
    |some _=>none
  | .len st x=>match st,evo env x with
    |true,.str s=>k (.int .i64 s.length) env h
    |false,.lst _ xs=>k (.int .i64 xs.length) env h
    |false,.arr _ _ len _ _=>k (.int .i64 len) env h
    |_,_=>none
  | .lenA n=>k (.int .i64 n) env h
  | .mm mx x [y]=>match evo env x with
    | .int i a=>intK (evo env y) fun b=>match mx with
      |true=>k (.int i (max a b)) env h
      |false=>k (.int i (min a b)) env h
    |_=>none
  | .mm mx x r=>match evo env x with
    | .int i a=>intsK env r fun l=>k (.int i (l.foldl (fun x y=>if mx then(if y>x then y else x)else(if y<x then y else x)) a)) env h
    |_=>none
  | .app e ag b a=>match evo env b with
    | .lst g xs=>kO (srcElems h ag (evo env a)) fun ys=>
       kB (mayApp e g xs) (kB (okElems e ag ys) (kB (decide (xs.length+ys.length≤lenMax)) (evK env b fun _ env=>k (.lst (.own e) (xs++ys)) env h) none) none) none
    |_=>none
  | .copy e d s=>match evo env d with
    | .arr o off len e' ag=>if e=e' then kO (srcElems h ag (evo env s)) fun ys=>kO (hget h o) fun ob=>
       match ob.wr with
       |true=>kB (okElems e ag ys) (kO (storeC ob.cells off ((ys.take (min ys.length len)).flatMap AV.cells)) fun cs=>hsetK h o {ob with cells:=cs} fun h=>k (.int .i64 (min ys.length len:Nat)) env h) none
       |false=>none
      else none
    |_=>none
  | .ext x i=>match evo env x with
    | .tup vs=>kO (vs[i]?) fun v=>fv v fun v=>k v env h
    |_=>none
  | .call f m args=>argsK env args fun as env=>callK R h f m as fun v h=>k v env h
  | .callv x m args=>match evo env x with
    | .fn f cap=>argsK env args fun as env=>callK R h f m (fnArgs cap as) fun v h=>k v env h
    |_=>none
  |op=>kO (opv R env h op) fun p=>match p with|(v,env,h)=>fv v fun v=>k v env h
theorem opK_eq {β:Type}(R:CallF)(env:Env)(h:Heap)(op:MOp)(k:AV→Env→Heap→Option β):opK R env h op k=(opv R env h op).bind fun p=>k p.1 p.2.1 p.2.2:=by
 cases op with
 |mv x=>simp only[opK,opv,evK_eq,zbs]
 |pick c a b=>
  simp only[opK,opv,fv_eq]
  cases evo env c with
  |bool t=>cases t<;>rfl
  |_=>rfl
 |new nm zero=>simp only[opK,opv];cases hget h nm<;>rfl
 |box nm x=>
  simp only[opK,opv,evK_eq]
  cases hget h nm with
  |none=>dsimp only;split<;>rfl
  |some _=>rfl
 |ld sz ag a=>
  simp only[opK,opv,fv_eq]
  cases evo env a with
  |ptr o off=>simp only[kO_bind,Option.bind_assoc];congr 1;funext ob;cases loadC ob.cells off sz ag<;>rfl
  |ept cs off=>simp only[kO_bind];cases loadC cs off sz ag<;>rfl
  |_=>rfl
 |ldx a=>
  simp only[opK,opv,fv_eq]
  cases evo env a with
  |ptr o off=>
   simp only[kO_bind,Option.bind_assoc];congr 1;funext ob
   cases ob.wr with
   |true=>simp only[if_true];cases ob.cells[off]? <;>simp[hsetK_eq]
   |false=>rfl
  |_=>rfl
 |st sz a v=>
  simp only[opK,opv,evK_eq]
  cases evo env a with
  |ptr o off=>
   simp only[kO_bind,Option.bind_assoc];congr 1;funext ob
   split
   ·cases storeC ob.cells off (evo env v).cells<;>simp[hsetK_eq]
   ·rfl
  |_=>rfl
 |nilc x=>simp only[opK,opv];cases evo env x<;>rfl
 |bin op x y=>simp only[opK,opv,binK_eq];cases binV op (evo env x) (evo env y)<;>rfl
 |toInt i x=>simp only[opK,opv,intK_eq,toK_eq];cases intV (evo env x)<;>rfl
 |s2b x=>
  simp only[opK,opv]
  cases evo env x with
  |str s=>by_cases hl:s.length≤lenMax<;>simp[hl,kB]
  |_=>rfl
 |s2bA nm x=>
  simp only[opK,opv]
  cases hget h nm with
  |none=>
   cases evo env x with
   |str s=>by_cases hl:s.length≤lenMax<;>simp[hl,kB]
   |_=>rfl
  |some o=>rfl
 |b2s x=>
  simp only[opK,opv]
  cases evo env x with
  |lst g xs=>simp only[kO_bind];cases xs.mapM avByte<;>rfl
  |arr o off len e ag=>
   split
   ·rename_i heq
    simp at heq
   ·rename_i heq
    injection heq with h1 h2 h3 h4 h5
    subst h1 h2 h3 h4 h5
    simp only[kO_bind,Option.bind_assoc]
    congr 1;funext ob
    by_cases hl:off+len≤ob.cells.length
    ·simp only[hl,decide_true,kB,if_true];cases((ob.cells.drop off).take len).mapM avByte<;>rfl
    ·simp[hl,kB]
   ·rename_i h1 h2
    split
    ·rename_i heq;simp at heq
    ·rename_i heq;exact absurd heq (h2 _ _ _)
    ·rfl
  |_=>rfl
 |makeL e cap=>
  simp only[opK,opv,intK_eq,Option.bind_assoc]
  congr 1;funext n
  by_cases hl:0≤n∧n≤lenMax<;>simp[hl,kB]
 |makeA nm e ag zero len=>
  simp only[opK,opv]
  cases hget h nm with
  |none=>
   simp only[intK_eq,Option.bind_assoc]
   congr 1;funext n
   by_cases hl:0≤n∧n≤lenMax<;>simp[hl,kB]
  |some o=>rfl
 |fa off x=>simp only[opK,opv];cases evo env x<;>rfl
 |fld off sz ag x=>
  simp only[opK,opv,fv_eq]
  cases evo env x with
  |agg cs=>simp only[kO_bind];cases loadC cs off sz ag<;>rfl
  |_=>rfl
 |slcA n e ag x lo hi=>
  simp only[opK,opv]
  cases evo env x with
  |ptr o off=>simp only[boundK_eq,Option.bind_assoc];congr 1;funext b;cases bound env lo 0 b<;>rfl
  |_=>rfl
 |iaA n e x i=>
  simp only[opK,opv,intK_eq,Option.bind_assoc]
  congr 1;funext i
  cases evo env x with
  |ptr o off=>simp only[withinK_eq];cases within i n<;>rfl
  |ept cs off=>simp only[withinK_eq];cases within i n<;>rfl
  |_=>rfl
 |ixS x i=>
  simp only[opK,opv,intK_eq,Option.bind_assoc]
  congr 1;funext i
  cases evo env x with
  |str s=>simp only[withinK_eq,kO_bind,Option.bind_assoc];congr 1;funext j;cases s[j]? <;>rfl
  |_=>rfl
 |ixA n e ag x i=>
  simp only[opK,opv,intK_eq,Option.bind_assoc,fv_eq]
  congr 1;funext i
  cases evo env x with
  |agg cs=>simp only[withinK_eq,kO_bind,Option.bind_assoc];congr 1;funext j;cases loadC cs (j*e) e ag<;>rfl
  |_=>rfl
 |eqB neg x y=>
  simp only[opK,opv]
  cases evo env x with
  |bool a=>
   cases evo env y with
   |bool b=>cases a<;>cases b<;>cases neg<;>rfl
   |_=>rfl
  |_=>rfl
 |eqA neg ks x y=>
  simp only[opK,opv]
  cases evo env x with
  |agg cs=>
   cases evo env y with
   |agg ds=>simp only[eqK_eq];cases eqCells ks cs ds<;>cases neg<;>rfl
   |_=>rfl
  |_=>rfl
 |lit e ag zero len parts=>
  simp only[opK,opv,kO_bind,fvs_eq]
  cases putElems e (List.replicate len (zeroElem ag zero)) (parts.map fun p=>(p.1,evo env p.2))with
  |none=>rfl
  |some xs=>simp only[zbs];cases okElems e ag (xs.map AV.dtE)<;>rfl
 |litA nm e ag zero len parts=>
  simp only[opK,opv]
  cases hget h nm with
  |some o=>rfl
  |none=>
   simp only[kO_bind,fvs_eq,fl_eq]
   cases putElems e (List.replicate len (zeroElem ag zero)) (parts.map fun p=>(p.1,evo env p.2))with
   |none=>rfl
   |some xs=>simp only[zbs];cases okElems e ag (xs.map AV.dtE)<;>rfl
 |len st x=>simp only[opK,opv];cases st<;>cases evo env x<;>rfl
 |lenA n=>rfl
 |mm mx x r=>
  have gen:(match evo env x with
   | .int i a=>intsK env r fun l=>k (.int i (l.foldl (fun x y=>if mx then(if y>x then y else x)else(if y<x then y else x)) a)) env h
   |_=>none)=(opv R env h (.mm mx x r)).bind fun p=>k p.1 p.2.1 p.2.2:=by
   simp only[opv]
   cases evo env x with
   |int i a=>simp only[intsK_eq];cases r.mapM fun y=>intV (evo env y)<;>rfl
   |_=>rfl
  match r with
  | []=>exact gen
  | [y]=>
    rw[←gen]
    simp only[opK]
    cases evo env x with
    |int i a=>
     simp only[intsK,intK_eq]
     cases intV (evo env y)with
     |none=>rfl
     |some b=>
      cases mx with
      |true=>
       have:(if b>a then b else a)=max a b:=by rw[Int.max_def];split<;>split<;>omega
       simp only[zbs,List.foldl_cons,List.foldl_nil,if_true,this]
      |false=>
       have:(if b<a then b else a)=min a b:=by rw[Int.min_def];split<;>split<;>omega
       simp only[zbs,List.foldl_cons,List.foldl_nil,Bool.false_eq_true,if_false,this]
    |_=>rfl
  |y::z::r=>exact gen
 |ext x i=>
  simp only[opK,opv,fv_eq]
  cases evo env x with
  |tup vs=>simp only[kO_bind];cases vs[i]? <;>rfl
  |_=>rfl
 |call f m args=>simp only[opK,opv,argsK_eq,callK_eq];cases callR R h f m (argsV env args)<;>rfl
 |callv x m args=>
  simp only[opK,opv]
  cases evo env x with
  |fn g cap=>simp only[argsK_eq,callK_eq];cases callR R h g m (fnArgs cap (argsV env args))<;>rfl
  |_=>rfl
 |slcS x lo hi=>
  simp only[opK,opv]
  cases evo env x with
  |str s=>
   simp only[boundK_eq,Option.bind_assoc]
   rw[cut_eq env lo hi s s.length rfl s.length fun b l=>k (.str l) env h]
   congr 1;funext b;cases bound env lo 0 b<;>rfl
  |_=>rfl
 |slc e x lo hi mx=>
  simp only[opK,opv]
  cases evo env x with
  |lst g xs=>
   cases hh:headE e xs with
   |true=>
    simp only[kB,hh,if_true,boundK_eq,Option.bind_assoc,evK_eq];congr 1;funext m
    rw[cut_eq env lo hi xs xs.length rfl m fun b l=>k (.lst (cutG hi mx g b m) l) (evoE env x) h]
    congr 1;funext b
    cases bound env lo 0 b with
    |none=>rfl
    |some a=>
     have:cutG hi mx g b m=if hi.isNone then g else if mx.isSome∧b=m then .full else .no:=by
      cases hi with
      |none=>rfl
      |some y=>cases mx<;>simp
     simp only[zbs,Option.map_some,this]
   |false=>simp only[kB,hh,Bool.false_eq_true,if_false,Option.bind_none]
  |arr o off len e' ag=>
   dsimp only
   split
   ·simp only[boundK_eq,Option.bind_assoc];congr 1;funext m;congr 1;funext b;cases bound env lo 0 b<;>rfl
   ·rfl
  |_=>rfl
 |ia e x i=>
  simp only[opK,opv,intK_eq,Option.bind_assoc]
  congr 1;funext i
  cases evo env x with
  |lst g xs=>
   simp only[withinK_eq,kO_bind,Option.bind_assoc]
   congr 1;funext j;congr 1;funext y
   split<;>rfl
  |arr o off len e' ag=>
   dsimp only
   split
   ·simp only[withinK_eq];cases within i len<;>rfl
   ·rfl
  |_=>rfl
 |app e ag b a=>
  simp only[opK,opv]
  cases evo env b with
  |lst g xs=>
   simp only[kO_bind,Option.bind_assoc,evK_eq]
   congr 1;funext ys
   cases mayApp e g xs<;>cases okElems e ag ys<;>simp[kB]
   by_cases hl:xs.length+ys.length≤lenMax<;>simp[hl]
  |_=>rfl
 |copy e d s=>
  simp only[opK,opv]
  cases evo env d with
  |arr o off len e' ag=>
   dsimp only
   split
   ·simp only[kO_bind,Option.bind_assoc]
    congr 1;funext ys;congr 1;funext ob
    cases ob.wr<;>cases okElems e ag ys<;>simp[kB,hsetK_eq]
    cases storeC ob.cells off ((ys.take (min ys.length len)).flatMap AV.cells)<;>rfl
   ·rfl
  |_=>rfl
 |_=>simp only[opK,opv,kO_bind,fv_eq]
@[simp] noncomputable def itemK {β:Type}(R:CallF)(i:MI)(env:Env)(h:Heap)(k:Env→Heap→Option β):Option β:=
  match i with
  |⟨d,g,op⟩=>
   match g with
   |none=>opK R env h op fun v env h=>match d with
    |some j=>k ((j,v)::env) h
    |none=>k env h
   |some (j,want)=>match get env j with
    | .bool b=>match want with
      |true=>kB b
       (opK R env h op fun v env h=>match d with
         |some j=>k ((j,v)::env) h
         |none=>k env h)
       (match d with
         |some j=>k ((j,.nov)::env) h
         |none=>k env h)
      |false=>kB b
       (match d with
         |some j=>k ((j,.nov)::env) h
         |none=>k env h)
       (opK R env h op fun v env h=>match d with
         |some j=>k ((j,v)::env) h
         |none=>k env h)
    | .nov=>match d with
      |some j=>k ((j,.nov)::env) h
      |none=>k env h
    |_=>none
theorem itemK_eq {β:Type}(R:CallF)(i:MI)(env:Env)(h:Heap)(k:Env→Heap→Option β):itemK R i env h k=(stepI R i ⟨env,h⟩).bind fun s=>k s.env s.heap:=by
 obtain⟨d,g,op⟩:=i
 have hput: ∀(v:AV) (env:Env) (h:Heap),(match d with|some j=>k ((j,v)::env) h|none=>k env h)=k (putD d v env) h:=by
  intro v env h;cases d<;>rfl
 have hop:(opK R env h op fun v env h=>match d with|some j=>k ((j,v)::env) h|none=>k env h)=((opv R env h op).map fun(v,env,h)=>(⟨putD d v env,h⟩:St)).bind fun s=>k s.env s.heap:=by
  rw[opK_eq]
  cases opv R env h op with
  |none=>rfl
  |some p=>exact hput _ _ _
 simp only[itemK,stepI]
 cases g with
 |none=>simp only[wanted];exact hop
 |some p=>
  obtain⟨j,want⟩:=p
  simp only[wanted]
  cases get env j with
  |bool b=>
   cases b<;>cases want
   ·exact hop
   ·exact hput _ _ _
   ·exact hput _ _ _
   ·exact hop
  |nov=>exact hput _ _ _
  |_=>rfl
@[simp] noncomputable def opsK {β:Type}(R:CallF):List MI→Env→Heap→(Env→Heap→Option β)→Option β
  | [],env,h,k=>k env h
  |i::r,env,h,k=>itemK R i env h fun env h=>opsK R r env h k
theorem opsK_eq {β:Type}(R:CallF)(l:List MI): ∀(env:Env) (h:Heap) (k:Env→Heap→Option β),opsK R l env h k=(runOps R l ⟨env,h⟩).bind fun s=>k s.env s.heap:=by
 induction l with
 |nil=>intro env h k;rfl
 |cons i r ih=>
  intro env h k
  simp only[opsK,runOps,itemK_eq,ih,Option.bind_assoc]
@[simp] noncomputable def rn {β:Type}(R:MRec):MCode→Env→Heap→(Ex→Env→Heap→Option β)→Option β
  | .skip,env,h,k=>k .norm env h
  | .reg ops ap,env,h,k=>opsK R.call ops env h fun env h=>match ap with
    | []=>k .norm env h
    |ap=>if ap.all (fun p=>distinct p.1.1 (evo env p.1.2) p.2.1 (evo env p.2.2))then k .norm env h else none
  | .seq a b,env,h,k=>rn R a env h fun e env h=>match e with
     | .norm=>rn R b env h k
     | .exit j=>k (.exit j) env h
     | .ret=>k .ret env h
  | .cond c a b,env,h,k=>match evo env c with
     | .bool t=>kB t (rn R a env h k) (rn R b env h k)
     |_=>none
  | .block id b,env,h,k=>rn R b env h fun e env h=>match e with
     | .exit j=>match Nat.beq j id with
       |true=>k .norm env h
       |false=>k (.exit j) env h
     | .norm=>k .norm env h
     | .ret=>k .ret env h
  | .loop ks ko kx b,env,h,k=>kO (R.loop (ks,ko,kx,b) ⟨env,h⟩) fun p=>match p with|(e,⟨env,h⟩)=>k e env h
  | .exit id,env,h,k=>k (.exit id) env h
  | .ret,env,h,k=>k .ret env h
theorem rn_eq {β:Type}(R:MRec)(c:MCode): ∀(env:Env) (h:Heap) (k:Ex→Env→Heap→Option β),rn R c env h k=(step R c ⟨env,h⟩).bind fun p=>k p.1 p.2.env p.2.heap:=by
 induction c with
 |skip=>intro env h k;rfl
 |reg ops ap=>
  intro env h k
  simp only[rn,step,opsK_eq,Option.bind_assoc]
  congr 1;funext s'
  cases ap with
  |nil=>rfl
  |cons p r=>dsimp only;split<;>rfl
 |seq a b iha ihb=>
  intro env h k
  simp only[rn,step,iha,Option.bind_assoc]
  congr 1;funext p
  obtain⟨e,s'⟩:=p
  cases e with
  |norm=>exact ihb _ _ _
  |exit j=>rfl
  |ret=>rfl
 |cond c a b iha ihb=>
  intro env h k
  simp only[rn,step]
  cases evo env c with
  |bool t=>cases t with
   |true=>exact iha _ _ _
   |false=>exact ihb _ _ _
  |_=>rfl
 |block id b ih=>
  intro env h k
  simp only[rn,step,ih]
  cases step R b ⟨env,h⟩with
  |none=>rfl
  |some p=>
   obtain⟨e,s'⟩:=p
   cases e with
   |exit j=>
    simp only[zbs,Option.map_some]
    by_cases hj:j=id
    ·subst hj;simp
    ·have hb:Nat.beq j id=false:=by
      cases hb:Nat.beq j id
      ·rfl
      ·exact absurd (Nat.eq_of_beq_eq_true hb) hj
     simp[hj,hb]
   |norm=>rfl
   |ret=>rfl
 |loop ks ko kx b ih=>intro env h k;simp only[rn,step,kO_bind]
 |exit id=>intro env h k;rfl
 |ret=>intro env h k;rfl
noncomputable def resV {β:Type}(s:St)(l:List MRes):(List AV→Option β)→Option β:=
 @List.rec MRes (fun _=>(List AV→Option β)→Option β) (fun k=>k []) (fun r _ ih k=>kO (resOf s r) fun v=>ih fun vs=>k (v::vs)) l
@[simp] theorem resV_cons {β:Type}(s:St)(r:MRes)(l:List MRes)(k:List AV→Option β):resV s (r::l) k=kO (resOf s r) fun v=>resV s l fun vs=>k (v::vs):=rfl
theorem resV_eq {β:Type}(s:St)(l:List MRes): ∀k:List AV→Option β,resV s l k=(l.mapM (resOf s)).bind k:=by
 induction l with
 |nil=>intro k;rfl
 |cons r l ih=>intro k;simp only[resV_cons,kO_bind,ih,List.mapM_cons,Option.bind_eq_bind,Option.bind_assoc,Option.pure_def,zbs]
@[simp] def treK {β:Type}(ns:List Nat)(h:Heap):List AV→(List AV→Option β)→Option β
  | [],k=>k []
  |v::l,k=>kO (treeN ns h v) fun v'=>treK ns h l fun vs=>k (v'::vs)
theorem treK_eq {β:Type}(ns:List Nat)(h:Heap)(l:List AV): ∀k:List AV→Option β,treK ns h l k=(l.mapM (treeN ns h)).bind k:=by
 induction l with
 |nil=>intro k;rfl
 |cons v l ih=>intro k;simp only[treK,kO_bind,ih,List.mapM_cons,Option.bind_eq_bind,Option.bind_assoc,Option.pure_def,zbs]
@[simp] def outK (n:Nat)(ns:List Nat)(h:Heap)(rs:List AV):Option (AV×List Obj):=
  kO (ns.mapM fun o=>(hget h o).map fun ob=>{ob with cells:=ob.cells.map (ren2 (idx ns))}) fun out=>match Nat.ble n 100 with
   |true=>some (one rs,out)
   |false=>none
@[simp] noncomputable def finK (F:MFunc)(n:Nat)(s:St):Option (AV×List Obj):=
  resV s F.res fun vs=>match F.handsRef with
   |false=>kO (reach s.heap 64 (List.range n++[]) []) fun ns=>treK ns s.heap vs fun rs=>outK n ns s.heap rs
   |true=>kO (reach s.heap 64 (List.range n++vs.flatMap refs) []) fun ns=>if vs.all AV.flat2 then outK n ns s.heap (vs.map (ren (idx ns)))else none
theorem finK_eq (F:MFunc)(n:Nat)(s:St):finK F n s=finish F n s:=by
 have fin: ∀(b:Bool) (x:AV×List Obj),(match b with|true=>some x|false=>none)=if b=true then pure x else none:=by
  intro b x;cases b<;>rfl
 cases hF:F.handsRef with
 |true=>
  simp only[finK,finish,outK,hF,resV_eq,kO_bind,Option.bind_eq_bind,if_true,fin]
  congr 1;funext vs;congr 1;funext ns
  by_cases hv:vs.all AV.flat2=true
  ·simp only[hv,if_true,zbs]
  ·simp only[hv,if_false,Bool.false_eq_true,Option.bind_none]
 |false=>
  simp only[finK,finish,outK,hF,resV_eq,treK_eq,kO_bind,Option.bind_eq_bind,Bool.false_eq_true,if_false,fin]
noncomputable def callE (R:MRec)(F:MFunc)(args:List AV)(hin:List Obj):Option (AV×List Obj):=
 rn R F.body (enter args hin).env (enter args hin).heap fun e env h=>match e with
  | .norm=>finK F hin.length ⟨env,h⟩
  | .ret=>finK F hin.length ⟨env,h⟩
  | .exit _=>none
theorem callE_eq (R:MRec)(F:MFunc)(args:List AV)(hin:List Obj)(hl:args.length=F.nargs):callB R F args hin=callE R F args hin:=by
 unfold callB callE
 rw[if_pos hl,rn_eq]
 congr 1;funext p
 obtain⟨e,s⟩:=p
 cases e with
 |norm=>exact(finK_eq _ _ _).symm
 |exit j=>rfl
 |ret=>exact(finK_eq _ _ _).symm
section
variable (M:Prog) (X:Nat→List AV→Option (AV×List Obj))
theorem ev {f:Nat}{F:MFunc}{args:List AV}{hin:List Obj}{r:Option (AV×List Obj)}(hf:M f=some F)(hl:args.length=F.nargs)(h:callE (lim M X) F args hin=r):(lim M X).call f args hin=r:=by
 rw[lim_call_eq M X hf,callE_eq _ _ _ _ hl,h]
end
end Go.Proofs.PF
