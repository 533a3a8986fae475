/-
  Functions outside the machine: calls of functions of data alone, seen from a walk of the kit's.
-/
import Derived.Test.YtaoijbibmcgdaaaGreatPFe
set_option linter.unusedVariables false
set_option linter.unusedSimpArgs false
namespace Go.Proofs.PF
open Go.RowKit
theorem call_data {P:Program}{M:Prog}{XE:Nat→List AV→Option (AV×List Obj)}(hM: ∀f G,M f=some G→okFunc P f G=true)(hX:ExtOK noG P M XE){f:Nat}{args:List AV}{res:AV}
 (h:(lim M XE).call f args []=some (res,[])) {w:World} {β:Nat→Cell} {vals:Array Value} (hsz:vals.size=args.length)
 (hv: ∀i (h1:i<vals.size) (h2:i<args.length),VRel w (fun _=>False) β vals[i] args[i]) (hn: ∀a∈args,a.notOwn=true∧refs a=[]):
 Calls P f vals w fun e w'=> ∃v,e= .returned v∧VRel w' (fun _=>False) β v res∧Below w.heap.size w w':=by
 obtain⟨-,-,H⟩:=lim_ok hM hX h
 let N0:Base noG:=⟨w.heap.size,fun k=>w.heap[k]?,trivial⟩
 have hXX:XX (fun _=>False) (fun _ _=>False)=fun _=>False:=by
  funext c;simp[XX]
 have g:GR N0 w (fun _=>False) β (fun _ _=>False) (fun k=>vals.getD k undef) (enter args []).env (enter args []).heap undef .undef:={
  inv:=⟨fun _ _ _ h=>h.elim,fun _ _ h=>h.elim,fun c hc=>by rw[hXX]at hc;exact hc.elim,fun c hc=>by rw[hXX]at hc;exact hc.elim,Nat.le_refl _,fun _ _=>rfl⟩
  slot:=fun k=>by
   simp only[enter,get_enter]
   rw[hXX]
   rcases Nat.lt_or_ge k args.length with hk|hk
   ·rw[List.getD_eq_getElem?_getD,zge hk,Array.getD_eq_getD_getElem?,Array.getElem?_eq_getElem (by omega)]
    exact⟨hv k (by omega) hk,.of (hn _ (List.getElem_mem hk)).1⟩
   ·rw[List.getD_eq_getElem?_getD,List.getElem?_eq_none hk]
    exact⟨.undef _,.of rfl⟩
  val:=⟨.undef _,.of rfl⟩
  obj:=fun nm ob hob=>by simp[enter,hget]at hob
  refE:=fun k o ho=>by
   simp only[enter,get_enter]at ho
   rcases Nat.lt_or_ge k args.length with hk|hk
   ·rw[List.getD_eq_getElem?_getD,zge hk]at ho
    simp only[Option.getD_some]at ho
    rw[(hn _ (List.getElem_mem hk)).2]at ho;cases ho
   ·rw[List.getD_eq_getElem?_getD,List.getElem?_eq_none hk]at ho
    simp[refs,refs3,refs2,refs1]at ho
  refV:=fun o ho=>by simp[refs,refs3,refs2,refs1]at ho
  refH:=fun nm ob hob=>by simp[enter,hget]at hob}
 refine(H N0 w _ β _ vals g hsz).mono ?_
 rintro e w' ⟨v,Ow',β',rfl,-,g',-,k,-⟩
 refine⟨v,rfl,?_,k.os,k.tape,k.output,k.size,fun j hj=>k.blk j hj⟩
 have h1:=g'.val.1.mono ((Kp.refl 0 w' _).shrink (X2:=fun _=>False) fun c hc=>hc.elim)
 refine h1.base fun o ho=> ?_
 have:=g'.refV o ho
 simp[hget]at this
theorem lst_get {w:World}{X:Cell→Prop}{β:Nat→Cell}{v:Value}{g:Gr}{xs:List AV}(h:VRel w X β v (.lst g xs))(i:Nat)(hi:i<xs.length):
 ∃b o cap,v= .slice (some ⟨b,o,none⟩) xs.length cap∧∀j (hj:j<xs[i].cells.length),∃u,cat w (b,o+(i*xs[i].cells.length+j))=some u∧VRel w X β u (xs[i].cells[j]):=by
 cases h with
 |lst0=>simp at hi
 |lst b o e cap g xs val hc hg hx hv h=>
  refine⟨b,o,cap,rfl,fun j hj=> ?_⟩
  have he:xs[i].cells.length=e:=(hx _ (List.getElem_mem hi)).2
  have hl:=lenF (xs:=xs) (e:=e) fun x hm=>(hx x hm).2
  have hlt:i*e+j<xs.length*e:=by
   have:(i+1)*e≤xs.length*e:=Nat.mul_le_mul_right _ hi
   rw[Nat.add_mul]at this
   omega
  have hlt2:i*e+j<(xs.flatMap AV.cells).length:=by omega
  have eq:(xs.flatMap AV.cells)[i*e+j]=xs[i].cells[j]:=by
   have:=(flatten_at (e:=e) (xs.map AV.cells) (by intro l hl;obtain⟨x,hx',rfl⟩:=List.mem_map.1 hl;exact(hx x hx').2)).2 i j (by simpa using hi) (by simpa using hj)
   rw[←List.flatMap_def]at this
   have h2:=zge hlt2
   rw[this]at h2
   injection h2 with h2
   rw[←h2]
   simp
  rw[he]
  refine⟨val (i*e+j),(hv _ hlt).1,?_⟩
  rw[←eq]
  exact h _ hlt2
theorem lst_len {w:World}{X:Cell→Prop}{β:Nat→Cell}{v:Value}{g:Gr}{xs:List AV}(h:VRel w X β v (.lst g xs)): ∃A cap,v= .slice A xs.length cap:=by
 cases h with
 |lst0 A cap=>exact⟨A,cap,rfl⟩
 |lst b o e cap g xs val hc hg hx hv h=>exact⟨_,cap,rfl⟩
end Go.Proofs.PF
