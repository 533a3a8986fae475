/-
  Plain texts of this claim. Conditions: none beyond each theorem's own.
-/
import Derived.Test.YtaoijbibmcgdaaaGreatX7
set_option linter.unusedVariables false
set_option linter.unusedSimpArgs false
namespace Go.Proofs.YtaoijbibmcgdaaaGreat.x0
open Go.Proofs Go.Proofs.PF Go.RowKit
def nodeR (args:List AV)(v:AV):Prop:= ∃m r l e,args=[Ground_machine.av m,GRound.av r,lav GDeliver.av l]∧round_machine_node m r l=some e∧v=iav e
noncomputable def nodeX (n:Nat)(f:Nat)(args:List AV):Option (AV×List PF.Obj):=match Nat.beq f n with
 |true=> @dite _ (∃v,nodeR args v) (Classical.propDecidable _) (fun h=>some (h.choose,[])) (fun _=>none)
 |false=>none
theorem nodeX_eq {n:Nat}{m:Ground_machine}{r:GRound}{l:List GDeliver}{e:Int}(h:round_machine_node m r l=some e):nodeX n n [Ground_machine.av m,GRound.av r,lav GDeliver.av l]=some (iav e,[]):=by
 have hx: ∃v,nodeR [Ground_machine.av m,GRound.av r,lav GDeliver.av l] v:=⟨_,m,r,l,e,rfl,h,rfl⟩
 unfold nodeX
 rw[Nat.beq_refl]
 simp only
 rw[dif_pos hx]
 obtain⟨m',r',l',e',ea,h',ev⟩:=hx.choose_spec
 have e1:=congrArg (fun l=>l[0]?) ea
 have e2:=congrArg (fun l=>l[1]?) ea
 have e3:=congrArg (fun l=>l[2]?) ea
 have f1:=mac_inj (Option.some.inj e1)
 have f2:=rnd_inj (Option.some.inj e2)
 have f3:=lav_inj (fun _ _=>del_inj) (Option.some.inj e3)
 clear e1 e2 e3 ea
 subst f1
 subst f2
 subst f3
 rw[h]at h'
 injection h' with h'
 subst h'
 rw[ev]
theorem mac_shape {w:World}{β:Nat→Cell}{v:Value}{m:Ground_machine}(h:VRel w nX β v (Ground_machine.av m)): ∃A cap B lenB capB,v= .agg (mcA m.Conf A m.Conf.Table.length cap B lenB capB):=by
 cases h with
 |agg cs _ hl hf hv=>
  have hs:cs.size=12:=hl
  have g0:=hv 0 (by omega);have g1:=hv 1 (by omega);have g2:=hv 2 (by omega);have g3:=hv 3 (by omega);have g4:=hv 4 (by omega);have g5:=hv 5 (by omega)
  have g6:=hv 6 (by omega);have g7:=hv 7 (by omega);have g8:=hv 8 (by omega);have g9:=hv 9 (by omega);have g10:=hv 10 (by omega);have g11:=hv 11 (by omega)
  simp only[List.getElem_cons_zero,List.getElem_cons_succ]at g0 g1 g2 g3 g4 g5 g6 g7 g8 g9 g10 g11
  obtain⟨A,cap,e10⟩:=lst_len g10
  obtain⟨B,capB,e11⟩:=lst_len g11
  rw[List.length_map]at e10
  refine⟨A,cap,B,(m.f_faulty.map iav).length,capB,congrArg Value.agg ?_⟩
  apply Array.ext
  ·rw[hs];rfl
  ·intro i h1 h2
   have hi:i<12:=h2
   match i,hi with
   |0,_=>revert g0;generalize cs[0]=z;intro g;cases g;rfl
   |1,_=>revert g1;generalize cs[1]=z;intro g;cases g;rfl
   |2,_=>revert g2;generalize cs[2]=z;intro g;cases g;rfl
   |3,_=>revert g3;generalize cs[3]=z;intro g;cases g;rfl
   |4,_=>revert g4;generalize cs[4]=z;intro g;cases g;rfl
   |5,_=>revert g5;generalize cs[5]=z;intro g;cases g;rfl
   |6,_=>revert g6;generalize cs[6]=z;intro g;cases g;rfl
   |7,_=>revert g7;generalize cs[7]=z;intro g;cases g;rfl
   |8,_=>revert g8;generalize cs[8]=z;intro g;cases g;rfl
   |9,_=>revert g9;generalize cs[9]=z;intro g;cases g;rfl
   |10,_=>exact e10
   |11,_=>exact e11
theorem rnd_shape {w:World}{β:Nat→Cell}{v:Value}{r:GRound}(h:VRel w nX β v (GRound.av r)): ∃me A len cap B len2 cap2,v= .agg (rdA r.Number me A len cap B len2 cap2):=by
 cases h with
 |agg cs _ hl hf hv=>
  have hs:cs.size=4:=hl
  have g0:=hv 0 (by omega);have g1:=hv 1 (by omega);have g2:=hv 2 (by omega);have g3:=hv 3 (by omega)
  simp only[List.getElem_cons_zero,List.getElem_cons_succ]at g0 g1 g2 g3
  obtain⟨A,cap,e2⟩:=lst_len g2
  obtain⟨B,capB,e3⟩:=lst_len g3
  obtain⟨me,e1⟩: ∃me,cs[1]= .string me:=by revert g1;generalize cs[1]=z;intro g;cases g;exact⟨_,rfl⟩
  refine⟨me,A,(r.Lines.map sav).length,cap,B,(r.Got.map (lav GDeliver.av)).length,capB,congrArg Value.agg ?_⟩
  apply Array.ext
  ·rw[hs];rfl
  ·intro i h1 h2
   have hi:i<4:=h2
   match i,hi with
   |0,_=>revert g0;generalize cs[0]=z;intro g;cases g;rfl
   |1,_=>exact e1
   |2,_=>exact e2
   |3,_=>exact e3
theorem nodeX_ok {M:Prog}(hfn: ∃fn,Tryz.prog.funcs[137]? =some fn∧(fn.name== "runtime.NumGoroutine")=false∧fn.body.isNone=false)(_:Unit):ExtOK noG Tryz.prog M (nodeX 137):=by
 intro f args v o _ hx
 unfold nodeX at hx
 split at hx
 case h_2=>cases hx
 rename_i hb
 have:=Nat.eq_of_beq_eq_true hb
 subst this
 split at hx
 case isFalse=>cases hx
 rename_i hex
 injection hx with hx
 injection hx with hx1 hx2
 subst hx2
 obtain⟨m,r,l,e,ea,hp,ev⟩:=hex.choose_spec
 rw[hx1]at ev
 subst ev
 subst ea
 refine call1_ext hfn rfl rfl fun _ w X β vals _ hX hsz hv=> ?_
 have sh: ∀{u:Value} {a:AV},VRel w X β u a→VRel w nX β u a:=fun h=>h.mono ((Kp.refl 0 w X).shrink fun _ h=>h.elim)
 have v0:=sh (hv 0 (by rw[hsz];simp) (by simp))
 have v1:=sh (hv 1 (by rw[hsz];simp) (by simp))
 have v2:=sh (hv 2 (by rw[hsz];simp) (by simp))
 simp only[List.getElem_cons_zero,List.getElem_cons_succ]at v0 v1 v2
 obtain⟨A,cap,B,lenB,capB,e0⟩:=mac_shape v0
 obtain⟨me,A1,len1,cap1,B1,len2,cap2,e1⟩:=rnd_shape v1
 obtain⟨A2,capl,e2⟩:=lst_len v2
 rw[List.length_map]at e2
 have ea:vals= #[.agg (mcA m.Conf A m.Conf.Table.length cap B lenB capB),.agg (rdA r.Number me A1 len1 cap1 B1 len2 cap2),.slice A2 l.length capl]:=by
  apply Array.ext
  ·rw[hsz];rfl
  ·intro i h1 h2
   have hi:i<3:=h2
   match i,hi with
   |0,_=>exact e0
   |1,_=>exact e1
   |2,_=>exact e2
 rw[e0]at v0
 rw[e1]at v1
 rw[e2]at v2
 subst ea
 refine(callsIn_wide.1 (node_in 3 (Nat.le_refl _) m r l e A B A1 B1 A2 cap capB lenB len1 cap1 len2 cap2 capl me v0 v1 v2 hp)).mono ?_
 rintro e' w' ⟨rfl,hB⟩
 exact⟨_,rfl,fun _ _=>.int _ _,⟨hB.os,hB.tape,hB.output,hB.size,fun k hk=>hB.block k hk⟩⟩
end Go.Proofs.YtaoijbibmcgdaaaGreat.x0
