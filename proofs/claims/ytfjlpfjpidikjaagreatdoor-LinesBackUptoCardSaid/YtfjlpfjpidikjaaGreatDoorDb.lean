/-
  The program's functions as plain functions (printed by a program of mine), each beside the machine's.
-/
import Derived.Test.YtfjlpfjpidikjaaGreatDoorDa
set_option linter.unusedVariables false
set_option linter.unusedSimpArgs false
set_option maxRecDepth 100000
set_option maxHeartbeats 4000000
namespace Go.Proofs.YtfjlpfjpidikjaaGreatDoor
open Go.Proofs.PF
theorem lr_ev_v2_sim (head : List UInt8) (n0 : Int) (o0 : Rdr) (o2 : GTick) (g0 : Gr) (g2 : Gr) (g3 : Gr) (g4 : Gr) (hg4 : Mg 1 g4) (g5 : Gr) (hg5 : Mg 6 g5) (g6 : Gr) (g7 : Gr) (g8 : Gr) (hg8 : Mg 4 g8) (g9 : Gr) (hg9 : Mg 2 g9) (g10 : Gr) (hg10 : Mg 4 g10) (g11 : Gr) (hg11 : Mg 2 g11) : Sim (lr_ev_v2 head n0 o0 o2) (Gv fun r q => ∃ g0, ∃ g1, ∃ g2, ∃ g3, ∃ g4, ∃ g5, ∃ g6, ∃ g7, ∃ g8, ∃ g9, ∃ g10, q = (.bool r.1, [⟨true, (Rc r.2.1 g0 g1 g2 g3 g4)⟩, ⟨true, [.lst g5 (List.map iav r.2.2.Units), .lst g6 (List.map iav r.2.2.Delays), .lst g7 (List.map GSend.av r.2.2.Sends), .lst g8 (List.map GBurst.av r.2.2.Bursts), .lst g9 (List.map GSend.av r.2.2.Strays), .lst g10 (List.map GWrite.av r.2.2.Writes)]⟩]) ∧ Mg 1 g3 ∧ Mg 6 g4 ∧ Mg 4 g7 ∧ Mg 2 g8 ∧ Mg 4 g9 ∧ Mg 2 g10) (LM.call n_lr_events [.ptr 0 0, .str head, iav n0, .fn n_lr_tick_2 [.ptr 1 0]] [⟨true, (Rc o0 g0 g2 g3 g4 g5)⟩, ⟨true, [.lst g6 (List.map iav o2.Units), .lst g7 (List.map iav o2.Delays), .lst g8 (List.map GSend.av o2.Sends), .lst g9 (List.map GBurst.av o2.Bursts), .lst g10 (List.map GSend.av o2.Strays), .lst g11 (List.map GWrite.av o2.Writes)]⟩]) := by
 unfold lr_ev_v2
 refine sim_evR M XE rfl rfl fun S hS hw hw8 R hR => ?_
 refine au ?_
 refine Sim.callL hR (lr_ev_v2_0_sim head n0 o0 o2 g0 g2 g3 g4 hg4 g5 hg5 g6 g7 g8 hg8 g9 hg9 g10 hg10 g11 hg11 _ rfl) ?_
 rintro r6 q hr
 rcases r6 with r7 | r8
 ·obtain ⟨g39, g40, g41, g42, g43, g44, g45, g46, g47, g48, g49, rfl, hg42, hg43, hg46, hg47, hg48, hg49⟩ := hr
  refine au ?_
  exact Sim.ret ⟨_, rfl, ⟨_, _, _, _, _, _, _, _, _, _, _, rfl, hg42, hg43, hg46, hg47, hg48, hg49⟩⟩
 ·obtain ⟨g50, g51, g52, g53, g54, g55, g56, g57, g58, g59, g60, rfl, hg53, hg54, hg57, hg58, hg59, hg60⟩ := hr
  refine au ?_
  exact Sim.ret ⟨_, rfl, ⟨_, _, _, _, _, _, _, _, _, _, _, rfl, hg53, hg54, hg57, hg58, hg59, hg60⟩⟩
noncomputable def lr_tick_1_v1 (o0 : GTick) : Option GTick :=
 some o0
theorem lr_tick_1_v1_sim (o0 : GTick) (g0 : Gr) (g2 : Gr) (g3 : Gr) (hg3 : Mg 4 g3) (g4 : Gr) (hg4 : Mg 2 g4) (g5 : Gr) (hg5 : Mg 4 g5) (g6 : Gr) (hg6 : Mg 2 g6) : Sim (lr_tick_1_v1 o0) (Gv fun r q => ∃ g0, ∃ g1, ∃ g2, ∃ g3, ∃ g4, ∃ g5, q = (.fn n_lr_tick_1_1 [.ptr 1 0], [⟨true, [.lst g0 (List.map iav r.Units), .lst g1 (List.map iav r.Delays), .lst g2 (List.map GSend.av r.Sends), .lst g3 (List.map GBurst.av r.Bursts), .lst g4 (List.map GSend.av r.Strays), .lst g5 (List.map GWrite.av r.Writes)]⟩, ⟨true, [.ptr 0 4]⟩]) ∧ Mg 4 g2 ∧ Mg 2 g3 ∧ Mg 4 g4 ∧ Mg 2 g5) (LM.call n_lr_tick_1 [.ptr 0 4] [⟨true, [.lst g0 (List.map iav o0.Units), .lst g2 (List.map iav o0.Delays), .lst g3 (List.map GSend.av o0.Sends), .lst g4 (List.map GBurst.av o0.Bursts), .lst g5 (List.map GSend.av o0.Strays), .lst g6 (List.map GWrite.av o0.Writes)]⟩]) := by
 unfold lr_tick_1_v1
 refine sim_evR M XE rfl rfl fun S hS hw hw8 R hR => ?_
 refine au ?_
 exact Sim.ret ⟨_, rfl, ⟨_, _, _, _, _, _, rfl, hg3, hg4, hg5, hg6⟩⟩
noncomputable def lr_tick_1_1_v1 (l0 : List Int) (b0 : List UInt8) (o0 : GTick) : Option GTick :=
 (idx? l0 0).bind fun z0 =>
 (idx? l0 1).bind fun z2 =>
 (idx? l0 2).bind fun z3 =>
 if List.length o0.Strays + List.length [(GSend.mk z0 z2 z3 b0)] ≤ lenMax then
  some (GTick.mk o0.Units o0.Delays o0.Sends o0.Bursts (o0.Strays ++ [(GSend.mk z0 z2 z3 b0)]) o0.Writes)
 else none
theorem lr_tick_1_1_v1_sim (l0 : List Int) (b0 : List UInt8) (o0 : GTick) (g0 : Gr) (g2 : Gr) (g3 : Gr) (hg3 : Mg 4 g3) (g4 : Gr) (hg4 : Mg 2 g4) (g5 : Gr) (hg5 : Mg 4 g5) (g6 : Gr) (hg6 : Mg 2 g6) : Sim (lr_tick_1_1_v1 l0 b0 o0) (Gv fun r q => ∃ g0, ∃ g1, ∃ g2, ∃ g3, ∃ g4, ∃ g5, q = (.tup [], [⟨true, [.ptr 1 4]⟩, ⟨true, [.lst g0 (List.map iav r.Units), .lst g1 (List.map iav r.Delays), .lst g2 (List.map GSend.av r.Sends), .lst g3 (List.map GBurst.av r.Bursts), .lst g4 (List.map GSend.av r.Strays), .lst g5 (List.map GWrite.av r.Writes)]⟩]) ∧ Mg 4 g2 ∧ Mg 2 g3 ∧ Mg 4 g4 ∧ Mg 2 g5) (LM.call n_lr_tick_1_1 [lav iav l0, .str b0, .ptr 0 0] [⟨true, [.ptr 1 4]⟩, ⟨true, [.lst g0 (List.map iav o0.Units), .lst g2 (List.map iav o0.Delays), .lst g3 (List.map GSend.av o0.Sends), .lst g4 (List.map GBurst.av o0.Bursts), .lst g5 (List.map GSend.av o0.Strays), .lst g6 (List.map GWrite.av o0.Writes)]⟩]) := by
 unfold lr_tick_1_1_v1
 refine sim_evR M XE rfl rfl fun S hS hw hw8 R hR => ?_
 refine au ?_
 refine Sim.kl hS rfl ?_
 refine au ?_
 refine Sim.ix (by simp) (fun z0 hz0 => ?_)
 refine au ?_
 refine Sim.go (idx_map _ hz0) ?_
 refine au ?_
 refine Sim.ix (by simp) (fun z2 hz2 => ?_)
 refine au ?_
 refine Sim.go (idx_map _ hz2) ?_
 refine au ?_
 refine Sim.ix (by simp) (fun z3 hz3 => ?_)
 refine au ?_
 refine Sim.go (idx_map _ hz3) ?_
 refine au ?_
 refine Sim.kl hS (ys := List.map GSend.av [(GSend.mk z0 z2 z3 b0)]) rfl ?_
 refine au ?_
 first | (refine Sim.goB (may_map (by intro _; rfl) hg5 _) ?_) | skip
 refine au ?_
 first | (refine Sim.goB (okE_map (by intro _; exact ⟨rfl, rfl, rfl⟩) _) ?_) | skip
 refine au ?_
 first | refine Sim.ite (by simp) (fun _ => ?_) (fun _ => Sim.no) | refine Sim.guard (fun _ => ?_)
 refine au ?_
 refine Sim.kl hS (ys := List.map GSend.av (o0.Strays ++ [(GSend.mk z0 z2 z3 b0)])) (by simp) ?_
 refine au ?_
 exact Sim.ret ⟨_, rfl, ⟨_, _, _, _, _, _, rfl, hg3, hg4, Mg.own, hg6⟩⟩
noncomputable def lr_ev_v3_0_step (head2 : List UInt8) (n2 : Int) (o3 : Rdr) (o4 : GTick) : Option ((Rdr × GTick) ⊕ ((Bool × Rdr × GTick) ⊕ (Rdr × GTick))) :=
 (lr_kind o3).bind fun r0 =>
 if r0.1 = head2 then
  (lr_words r0.2).bind fun r2 =>
  if (List.length r2.1 : Int) ≠ (wr (n2 + 1)) then
   some (.inr (.inl (false, r2.2, o4)))
  else
   if 0 ≤ n2 ∧ n2 ≤ ((List.length r2.1) : Nat) then
    (lines_ints (List.take (Int.toNat n2) r2.1)).bind fun r3 =>
    (idx? r2.1 n2).bind fun z0 =>
    (lines_word z0).bind fun r4 =>
    if (!r3.2) = true then
     some (.inr (.inl (false, r2.2, o4)))
    else
     if (!r4.2) = true then
      some (.inr (.inl (false, r2.2, o4)))
     else
      (lr_tick_1_1_v1 r3.1 r4.1 o4).bind fun r5 =>
      some (.inl ((Rdr.mk r2.2.f_lines (wr (r2.2.f_at + 1)) r2.2.f_s), r5))
   else none
 else
  some (.inr (.inr (r0.2, o4)))
noncomputable def lr_ev_v3_0 (head2 : List UInt8) (n2 : Int) (o3 : Rdr) (o4 : GTick) : Option ((Bool × Rdr × GTick) ⊕ (Rdr × GTick)) :=
 loopO (fun s : Rdr × GTick => lr_ev_v3_0_step head2 n2 s.1 s.2) (o3, o4)
@[reducible] def lr_ev_v3_0_st (head2 : List UInt8) (n2 : Int) (o3 : Rdr) (o4 : GTick) (g12 : Gr) (g13 : Gr) (g14 : Gr) (g15 : Gr) (g16 : Gr) (g17 : Gr) (g18 : Gr) (g19 : Gr) (g20 : Gr) (g21 : Gr) (g22 : Gr) : PF.St := ⟨[(0, .ptr 0 0), (1, .str head2), (2, iav n2), (3, .fn n_lr_tick_1_1 [.ptr 1 0])], [(0, ⟨true, (Rc o3 g12 g13 g14 g15 g16)⟩), (1, ⟨true, [.ptr 2 4]⟩), (2, ⟨true, [.lst g17 (List.map iav o4.Units), .lst g18 (List.map iav o4.Delays), .lst g19 (List.map GSend.av o4.Sends), .lst g20 (List.map GBurst.av o4.Bursts), .lst g21 (List.map GSend.av o4.Strays), .lst g22 (List.map GWrite.av o4.Writes)]⟩)]⟩
def lr_ev_v3_0_rel (head2 : List UInt8) (n2 : Int) (r : ((Bool × Rdr × GTick) ⊕ (Rdr × GTick))) (q : ES) : Prop := (fun r (q : ES) => Sum.elim (fun r => (fun r (q : ES) => ∃ g0', ∃ g1', ∃ g2', ∃ g3', ∃ g4', ∃ g5', ∃ g6', ∃ g7', ∃ g8', ∃ g9', ∃ g10', q = (Ex.ret, ⟨[(8, .bool r.1)], [(0, ⟨true, [.lst g0' (List.map sav r.2.1.f_lines), iav r.2.1.f_at, iav r.2.1.f_s.Conf.N, iav r.2.1.f_s.Conf.F, iav r.2.1.f_s.Conf.D, iav r.2.1.f_s.Conf.Period, iav r.2.1.f_s.Conf.Rate, iav r.2.1.f_s.Conf.Drift, iav r.2.1.f_s.Conf.Offset, iav r.2.1.f_s.Conf.Slot, iav r.2.1.f_s.Conf.Mod, iav r.2.1.f_s.Conf.Fresh, .lst g1' (List.map iav r.2.1.f_s.Conf.Table), .lst g2' (List.map iav r.2.1.f_s.Faulty), .lst g3' (List.map sav r.2.1.f_s.Images), .lst g4' (List.map GTick.av r.2.1.f_s.Ticks)]⟩), (1, ⟨true, [.ptr 2 4]⟩), (2, ⟨true, [.lst g5' (List.map iav r.2.2.Units), .lst g6' (List.map iav r.2.2.Delays), .lst g7' (List.map GSend.av r.2.2.Sends), .lst g8' (List.map GBurst.av r.2.2.Bursts), .lst g9' (List.map GSend.av r.2.2.Strays), .lst g10' (List.map GWrite.av r.2.2.Writes)]⟩)]⟩) ∧ Mg 1 g3' ∧ Mg 6 g4' ∧ Mg 4 g7' ∧ Mg 2 g8' ∧ Mg 4 g9' ∧ Mg 2 g10') r q) (fun r => (fun r (q : ES) => ∃ g0', ∃ g1', ∃ g2', ∃ g3', ∃ g4', ∃ g5', ∃ g6', ∃ g7', ∃ g8', ∃ g9', ∃ g10', q = ((.exit 0), ⟨[(8, .undef)], [(0, ⟨true, [.lst g0' (List.map sav r.1.f_lines), iav r.1.f_at, iav r.1.f_s.Conf.N, iav r.1.f_s.Conf.F, iav r.1.f_s.Conf.D, iav r.1.f_s.Conf.Period, iav r.1.f_s.Conf.Rate, iav r.1.f_s.Conf.Drift, iav r.1.f_s.Conf.Offset, iav r.1.f_s.Conf.Slot, iav r.1.f_s.Conf.Mod, iav r.1.f_s.Conf.Fresh, .lst g1' (List.map iav r.1.f_s.Conf.Table), .lst g2' (List.map iav r.1.f_s.Faulty), .lst g3' (List.map sav r.1.f_s.Images), .lst g4' (List.map GTick.av r.1.f_s.Ticks)]⟩), (1, ⟨true, [.ptr 2 4]⟩), (2, ⟨true, [.lst g5' (List.map iav r.2.Units), .lst g6' (List.map iav r.2.Delays), .lst g7' (List.map GSend.av r.2.Sends), .lst g8' (List.map GBurst.av r.2.Bursts), .lst g9' (List.map GSend.av r.2.Strays), .lst g10' (List.map GWrite.av r.2.Writes)]⟩)]⟩) ∧ Mg 1 g3' ∧ Mg 6 g4' ∧ Mg 4 g7' ∧ Mg 2 g8' ∧ Mg 4 g9' ∧ Mg 2 g10') r q) r) r q
def lr_ev_v3_0_inv (head2 : List UInt8) (n2 : Int) (v : Rdr × GTick) (e : PF.St) : Prop := ∃ g12, ∃ g13, ∃ g14, ∃ g15, ∃ g16, ∃ g17, ∃ g18, ∃ g19, ∃ g20, ∃ g21, ∃ g22, e = lr_ev_v3_0_st head2 n2 v.1 v.2 g12 g13 g14 g15 g16 g17 g18 g19 g20 g21 g22 ∧ Mg 1 g15 ∧ Mg 6 g16 ∧ Mg 4 g19 ∧ Mg 2 g20 ∧ Mg 4 g21 ∧ Mg 2 g22
theorem lr_ev_v3_0_sim (head2 : List UInt8) (n2 : Int) (o3 : Rdr) (o4 : GTick) (g12 : Gr) (g13 : Gr) (g14 : Gr) (g15 : Gr) (hg15 : Mg 1 g15) (g16 : Gr) (hg16 : Mg 6 g16) (g17 : Gr) (g18 : Gr) (g19 : Gr) (hg19 : Mg 4 g19) (g20 : Gr) (hg20 : Mg 2 g20) (g21 : Gr) (hg21 : Mg 4 g21) (g22 : Gr) (hg22 : Mg 2 g22) (s : PF.St) (hk : keep [0, 1, 2, 3] [] s = some (lr_ev_v3_0_st head2 n2 o3 o4 g12 g13 g14 g15 g16 g17 g18 g19 g20 g21 g22)) : Sim (lr_ev_v3_0 head2 n2 o3 o4) (Gv (lr_ev_v3_0_rel head2 n2)) (LM.loop ([0, 1, 2, 3], [], [8], B_lr_ev_0) s) := by
 refine sim_loop M XE (lr_ev_v3_0_inv head2 n2) (lr_ev_v3_0_rel head2 n2) ?_ _ _ _ hk ⟨g12, g13, g14, g15, g16, g17, g18, g19, g20, g21, g22, rfl, hg15, hg16, hg19, hg20, hg21, hg22⟩
 clear hk hg15 hg16 hg19 hg20 hg21 hg22
 rintro S hS hw hw8 R hR ⟨o3, o4⟩ env hp ⟨g12, g13, g14, g15, g16, g17, g18, g19, g20, g21, g22, he, hg15, hg16, hg19, hg20, hg21, hg22⟩
 change (⟨env, hp⟩ : PF.St) = lr_ev_v3_0_st head2 n2 o3 o4 g12 g13 g14 g15 g16 g17 g18 g19 g20 g21 g22 at he
 cases he
 show Sim (lr_ev_v3_0_step head2 n2 o3 o4) _ _
 unfold lr_ev_v3_0_step
 simp only [hw]
 refine au ?_
 refine Sim.callR hR (lr_kind_sim _ g12 g13 g14 g15 hg15 g16 hg16) ?_
 rintro r0 q ⟨g23, g24, g25, g26, g27, rfl, hg26, hg27⟩
 refine au (.ite Iff.rfl (fun hc => ?_) fun hc => ?_)
 ·refine au ?_
  refine Sim.callR hR (lr_words_sim _ g23 g24 g25 g26 hg26 g27 hg27) ?_
  rintro r2 q ⟨g28, g29, g30, g31, g32, rfl, hg31, hg32⟩
  refine au ?_
  refine Sim.ki hS (m := (List.length r2.1 : Int)) (by simp) ?_
  refine au (.ite Iff.rfl (fun hc2 => ?_) fun hc2 => ?_)
  ·refine au ?_
   exact Sim.ret ⟨_, rfl, ⟨_, _, _, _, _, _, _, _, _, _, _, rfl, hg31, hg32, hg19, hg20, hg21, hg22⟩⟩
  ·refine au ?_
   first | (refine Sim.goB (headE_map (by intro _; rfl) _) ?_) | skip
   refine au ?_
   refine Sim.kn hS (m := (List.length r2.1)) (by simp) ?_
   refine au ?_
   first | refine Sim.ite Iff.rfl (fun _ => ?_) (fun _ => Sim.no) | refine Sim.guard (fun _ => ?_)
   refine au ?_
   refine Sim.kl hS (ys := List.map sav (List.take (Int.toNat n2) r2.1)) (by simp only [PF.cut, List.map_drop, List.map_take]) ?_
   refine au (cE hR (lines_ints_sim _) fun r3 => ?_)
   refine au ?_
   refine Sim.ix (by simp) (fun z0 hz0 => ?_)
   refine au ?_
   refine Sim.go (idx_map _ hz0) ?_
   refine au (cE hR (lines_word_sim _) fun r4 => ?_)
   refine au (.iteB (fun hc3 => ?_) fun hc3 => ?_)
   ·refine au ?_
    exact Sim.ret ⟨_, rfl, ⟨_, _, _, _, _, _, _, _, _, _, _, rfl, hg31, hg32, hg19, hg20, hg21, hg22⟩⟩
   ·refine au (.iteB (fun hc4 => ?_) fun hc4 => ?_)
    ·refine au ?_
     exact Sim.ret ⟨_, rfl, ⟨_, _, _, _, _, _, _, _, _, _, _, rfl, hg31, hg32, hg19, hg20, hg21, hg22⟩⟩
    ·refine au ?_
     refine Sim.callR hR (lr_tick_1_1_v1_sim _ _ _ g17 g18 g19 hg19 g20 hg20 g21 hg21 g22 hg22) ?_
     rintro r5 q ⟨g33, g34, g35, g36, g37, g38, rfl, hg35, hg36, hg37, hg38⟩
     refine au ?_
     exact Sim.ret ⟨_, _, rfl, rfl, ⟨_, _, _, _, _, _, _, _, _, _, _, rfl, hg31, hg32, hg35, hg36, hg37, hg38⟩⟩
 ·refine au ?_
  exact Sim.ret ⟨_, rfl, ⟨_, _, _, _, _, _, _, _, _, _, _, rfl, hg26, hg27, hg19, hg20, hg21, hg22⟩⟩
noncomputable def lr_ev_v3 (head : List UInt8) (n0 : Int) (o0 : Rdr) (o2 : GTick) : Option (Bool × Rdr × GTick) :=
 (lr_ev_v3_0 head n0 o0 o2).bind fun r6 =>
 Sum.elim
  (fun r7 =>
    some (r7.1, r7.2.1, r7.2.2))
  (fun r8 =>
    some (true, r8.1, r8.2))
  r6
theorem lr_ev_v3_sim (head : List UInt8) (n0 : Int) (o0 : Rdr) (o2 : GTick) (g0 : Gr) (g2 : Gr) (g3 : Gr) (g4 : Gr) (hg4 : Mg 1 g4) (g5 : Gr) (hg5 : Mg 6 g5) (g6 : Gr) (g7 : Gr) (g8 : Gr) (hg8 : Mg 4 g8) (g9 : Gr) (hg9 : Mg 2 g9) (g10 : Gr) (hg10 : Mg 4 g10) (g11 : Gr) (hg11 : Mg 2 g11) : Sim (lr_ev_v3 head n0 o0 o2) (Gv fun r q => ∃ g0, ∃ g1, ∃ g2, ∃ g3, ∃ g4, ∃ g5, ∃ g6, ∃ g7, ∃ g8, ∃ g9, ∃ g10, q = (.bool r.1, [⟨true, (Rc r.2.1 g0 g1 g2 g3 g4)⟩, ⟨true, [.ptr 2 4]⟩, ⟨true, [.lst g5 (List.map iav r.2.2.Units), .lst g6 (List.map iav r.2.2.Delays), .lst g7 (List.map GSend.av r.2.2.Sends), .lst g8 (List.map GBurst.av r.2.2.Bursts), .lst g9 (List.map GSend.av r.2.2.Strays), .lst g10 (List.map GWrite.av r.2.2.Writes)]⟩]) ∧ Mg 1 g3 ∧ Mg 6 g4 ∧ Mg 4 g7 ∧ Mg 2 g8 ∧ Mg 4 g9 ∧ Mg 2 g10) (LM.call n_lr_events [.ptr 0 0, .str head, iav n0, .fn n_lr_tick_1_1 [.ptr 1 0]] [⟨true, (Rc o0 g0 g2 g3 g4 g5)⟩, ⟨true, [.ptr 2 4]⟩, ⟨true, [.lst g6 (List.map iav o2.Units), .lst g7 (List.map iav o2.Delays), .lst g8 (List.map GSend.av o2.Sends), .lst g9 (List.map GBurst.av o2.Bursts), .lst g10 (List.map GSend.av o2.Strays), .lst g11 (List.map GWrite.av o2.Writes)]⟩]) := by
 unfold lr_ev_v3
 refine sim_evR M XE rfl rfl fun S hS hw hw8 R hR => ?_
 refine au ?_
 refine Sim.callL hR (lr_ev_v3_0_sim head n0 o0 o2 g0 g2 g3 g4 hg4 g5 hg5 g6 g7 g8 hg8 g9 hg9 g10 hg10 g11 hg11 _ rfl) ?_
 rintro r6 q hr
 rcases r6 with r7 | r8
 ·obtain ⟨g39, g40, g41, g42, g43, g44, g45, g46, g47, g48, g49, rfl, hg42, hg43, hg46, hg47, hg48, hg49⟩ := hr
  refine au ?_
  exact Sim.ret ⟨_, rfl, ⟨_, _, _, _, _, _, _, _, _, _, _, rfl, hg42, hg43, hg46, hg47, hg48, hg49⟩⟩
 ·obtain ⟨g50, g51, g52, g53, g54, g55, g56, g57, g58, g59, g60, rfl, hg53, hg54, hg57, hg58, hg59, hg60⟩ := hr
  refine au ?_
  exact Sim.ret ⟨_, rfl, ⟨_, _, _, _, _, _, _, _, _, _, _, rfl, hg53, hg54, hg57, hg58, hg59, hg60⟩⟩
noncomputable def lr_tick_3 (l0 : List Int) (b0 : List UInt8) (o0 : GTick) : Option GTick :=
 (idx? l0 0).bind fun z0 =>
 if List.length o0.Writes + List.length [(GWrite.mk z0 b0)] ≤ lenMax then
  some (GTick.mk o0.Units o0.Delays o0.Sends o0.Bursts o0.Strays (o0.Writes ++ [(GWrite.mk z0 b0)]))
 else none
theorem lr_tick_3_sim (l0 : List Int) (b0 : List UInt8) (o0 : GTick) (g0 : Gr) (g2 : Gr) (g3 : Gr) (hg3 : Mg 4 g3) (g4 : Gr) (hg4 : Mg 2 g4) (g5 : Gr) (hg5 : Mg 4 g5) (g6 : Gr) (hg6 : Mg 2 g6) : Sim (lr_tick_3 l0 b0 o0) (Gv fun r q => ∃ g0, ∃ g1, ∃ g2, ∃ g3, ∃ g4, ∃ g5, q = (.tup [], [⟨true, [.lst g0 (List.map iav r.Units), .lst g1 (List.map iav r.Delays), .lst g2 (List.map GSend.av r.Sends), .lst g3 (List.map GBurst.av r.Bursts), .lst g4 (List.map GSend.av r.Strays), .lst g5 (List.map GWrite.av r.Writes)]⟩]) ∧ Mg 4 g2 ∧ Mg 2 g3 ∧ Mg 4 g4 ∧ Mg 2 g5) (LM.call n_lr_tick_3 [lav iav l0, .str b0, .ptr 0 0] [⟨true, [.lst g0 (List.map iav o0.Units), .lst g2 (List.map iav o0.Delays), .lst g3 (List.map GSend.av o0.Sends), .lst g4 (List.map GBurst.av o0.Bursts), .lst g5 (List.map GSend.av o0.Strays), .lst g6 (List.map GWrite.av o0.Writes)]⟩]) := by
 unfold lr_tick_3
 refine sim_evR M XE rfl rfl fun S hS hw hw8 R hR => ?_
 refine au ?_
 refine Sim.kl hS rfl ?_
 refine au ?_
 refine Sim.ix (by simp) (fun z0 hz0 => ?_)
 refine au ?_
 refine Sim.go (idx_map _ hz0) ?_
 refine au ?_
 refine Sim.kl hS (ys := List.map GWrite.av [(GWrite.mk z0 b0)]) rfl ?_
 refine au ?_
 first | (refine Sim.goB (may_map (by intro _; rfl) hg6 _) ?_) | skip
 refine au ?_
 first | (refine Sim.goB (okE_map (by intro _; exact ⟨rfl, rfl, rfl⟩) _) ?_) | skip
 refine au ?_
 first | refine Sim.ite (by simp) (fun _ => ?_) (fun _ => Sim.no) | refine Sim.guard (fun _ => ?_)
 refine au ?_
 refine Sim.kl hS (ys := List.map GWrite.av (o0.Writes ++ [(GWrite.mk z0 b0)])) (by simp) ?_
 refine au ?_
 exact Sim.ret ⟨_, rfl, ⟨_, _, _, _, _, _, rfl, hg3, hg4, hg5, Mg.own⟩⟩
noncomputable def lr_ev_v4_0_step (head2 : List UInt8) (n2 : Int) (o3 : Rdr) (o4 : GTick) : Option ((Rdr × GTick) ⊕ ((Bool × Rdr × GTick) ⊕ (Rdr × GTick))) :=
 (lr_kind o3).bind fun r0 =>
 if r0.1 = head2 then
  (lr_words r0.2).bind fun r2 =>
  if (List.length r2.1 : Int) ≠ (wr (n2 + 1)) then
   some (.inr (.inl (false, r2.2, o4)))
  else
   if 0 ≤ n2 ∧ n2 ≤ ((List.length r2.1) : Nat) then
    (lines_ints (List.take (Int.toNat n2) r2.1)).bind fun r3 =>
    (idx? r2.1 n2).bind fun z0 =>
    (lines_word z0).bind fun r4 =>
    if (!r3.2) = true then
     some (.inr (.inl (false, r2.2, o4)))
    else
     if (!r4.2) = true then
      some (.inr (.inl (false, r2.2, o4)))
     else
      (lr_tick_3 r3.1 r4.1 o4).bind fun r5 =>
      some (.inl ((Rdr.mk r2.2.f_lines (wr (r2.2.f_at + 1)) r2.2.f_s), r5))
   else none
 else
  some (.inr (.inr (r0.2, o4)))
noncomputable def lr_ev_v4_0 (head2 : List UInt8) (n2 : Int) (o3 : Rdr) (o4 : GTick) : Option ((Bool × Rdr × GTick) ⊕ (Rdr × GTick)) :=
 loopO (fun s : Rdr × GTick => lr_ev_v4_0_step head2 n2 s.1 s.2) (o3, o4)
@[reducible] def lr_ev_v4_0_st (head2 : List UInt8) (n2 : Int) (o3 : Rdr) (o4 : GTick) (g12 : Gr) (g13 : Gr) (g14 : Gr) (g15 : Gr) (g16 : Gr) (g17 : Gr) (g18 : Gr) (g19 : Gr) (g20 : Gr) (g21 : Gr) (g22 : Gr) : PF.St := ⟨[(0, .ptr 0 0), (1, .str head2), (2, iav n2), (3, .fn n_lr_tick_3 [.ptr 1 0])], [(0, ⟨true, (Rc o3 g12 g13 g14 g15 g16)⟩), (1, ⟨true, [.lst g17 (List.map iav o4.Units), .lst g18 (List.map iav o4.Delays), .lst g19 (List.map GSend.av o4.Sends), .lst g20 (List.map GBurst.av o4.Bursts), .lst g21 (List.map GSend.av o4.Strays), .lst g22 (List.map GWrite.av o4.Writes)]⟩)]⟩
def lr_ev_v4_0_rel (head2 : List UInt8) (n2 : Int) (r : ((Bool × Rdr × GTick) ⊕ (Rdr × GTick))) (q : ES) : Prop := (fun r (q : ES) => Sum.elim (fun r => (fun r (q : ES) => ∃ g0', ∃ g1', ∃ g2', ∃ g3', ∃ g4', ∃ g5', ∃ g6', ∃ g7', ∃ g8', ∃ g9', ∃ g10', q = (Ex.ret, ⟨[(8, .bool r.1)], [(0, ⟨true, [.lst g0' (List.map sav r.2.1.f_lines), iav r.2.1.f_at, iav r.2.1.f_s.Conf.N, iav r.2.1.f_s.Conf.F, iav r.2.1.f_s.Conf.D, iav r.2.1.f_s.Conf.Period, iav r.2.1.f_s.Conf.Rate, iav r.2.1.f_s.Conf.Drift, iav r.2.1.f_s.Conf.Offset, iav r.2.1.f_s.Conf.Slot, iav r.2.1.f_s.Conf.Mod, iav r.2.1.f_s.Conf.Fresh, .lst g1' (List.map iav r.2.1.f_s.Conf.Table), .lst g2' (List.map iav r.2.1.f_s.Faulty), .lst g3' (List.map sav r.2.1.f_s.Images), .lst g4' (List.map GTick.av r.2.1.f_s.Ticks)]⟩), (1, ⟨true, [.lst g5' (List.map iav r.2.2.Units), .lst g6' (List.map iav r.2.2.Delays), .lst g7' (List.map GSend.av r.2.2.Sends), .lst g8' (List.map GBurst.av r.2.2.Bursts), .lst g9' (List.map GSend.av r.2.2.Strays), .lst g10' (List.map GWrite.av r.2.2.Writes)]⟩)]⟩) ∧ Mg 1 g3' ∧ Mg 6 g4' ∧ Mg 4 g7' ∧ Mg 2 g8' ∧ Mg 4 g9' ∧ Mg 2 g10') r q) (fun r => (fun r (q : ES) => ∃ g0', ∃ g1', ∃ g2', ∃ g3', ∃ g4', ∃ g5', ∃ g6', ∃ g7', ∃ g8', ∃ g9', ∃ g10', q = ((.exit 0), ⟨[(8, .undef)], [(0, ⟨true, [.lst g0' (List.map sav r.1.f_lines), iav r.1.f_at, iav r.1.f_s.Conf.N, iav r.1.f_s.Conf.F, iav r.1.f_s.Conf.D, iav r.1.f_s.Conf.Period, iav r.1.f_s.Conf.Rate, iav r.1.f_s.Conf.Drift, iav r.1.f_s.Conf.Offset, iav r.1.f_s.Conf.Slot, iav r.1.f_s.Conf.Mod, iav r.1.f_s.Conf.Fresh, .lst g1' (List.map iav r.1.f_s.Conf.Table), .lst g2' (List.map iav r.1.f_s.Faulty), .lst g3' (List.map sav r.1.f_s.Images), .lst g4' (List.map GTick.av r.1.f_s.Ticks)]⟩), (1, ⟨true, [.lst g5' (List.map iav r.2.Units), .lst g6' (List.map iav r.2.Delays), .lst g7' (List.map GSend.av r.2.Sends), .lst g8' (List.map GBurst.av r.2.Bursts), .lst g9' (List.map GSend.av r.2.Strays), .lst g10' (List.map GWrite.av r.2.Writes)]⟩)]⟩) ∧ Mg 1 g3' ∧ Mg 6 g4' ∧ Mg 4 g7' ∧ Mg 2 g8' ∧ Mg 4 g9' ∧ Mg 2 g10') r q) r) r q
def lr_ev_v4_0_inv (head2 : List UInt8) (n2 : Int) (v : Rdr × GTick) (e : PF.St) : Prop := ∃ g12, ∃ g13, ∃ g14, ∃ g15, ∃ g16, ∃ g17, ∃ g18, ∃ g19, ∃ g20, ∃ g21, ∃ g22, e = lr_ev_v4_0_st head2 n2 v.1 v.2 g12 g13 g14 g15 g16 g17 g18 g19 g20 g21 g22 ∧ Mg 1 g15 ∧ Mg 6 g16 ∧ Mg 4 g19 ∧ Mg 2 g20 ∧ Mg 4 g21 ∧ Mg 2 g22
theorem lr_ev_v4_0_sim (head2 : List UInt8) (n2 : Int) (o3 : Rdr) (o4 : GTick) (g12 : Gr) (g13 : Gr) (g14 : Gr) (g15 : Gr) (hg15 : Mg 1 g15) (g16 : Gr) (hg16 : Mg 6 g16) (g17 : Gr) (g18 : Gr) (g19 : Gr) (hg19 : Mg 4 g19) (g20 : Gr) (hg20 : Mg 2 g20) (g21 : Gr) (hg21 : Mg 4 g21) (g22 : Gr) (hg22 : Mg 2 g22) (s : PF.St) (hk : keep [0, 1, 2, 3] [] s = some (lr_ev_v4_0_st head2 n2 o3 o4 g12 g13 g14 g15 g16 g17 g18 g19 g20 g21 g22)) : Sim (lr_ev_v4_0 head2 n2 o3 o4) (Gv (lr_ev_v4_0_rel head2 n2)) (LM.loop ([0, 1, 2, 3], [], [8], B_lr_ev_0) s) := by
 refine sim_loop M XE (lr_ev_v4_0_inv head2 n2) (lr_ev_v4_0_rel head2 n2) ?_ _ _ _ hk ⟨g12, g13, g14, g15, g16, g17, g18, g19, g20, g21, g22, rfl, hg15, hg16, hg19, hg20, hg21, hg22⟩
 clear hk hg15 hg16 hg19 hg20 hg21 hg22
 rintro S hS hw hw8 R hR ⟨o3, o4⟩ env hp ⟨g12, g13, g14, g15, g16, g17, g18, g19, g20, g21, g22, he, hg15, hg16, hg19, hg20, hg21, hg22⟩
 change (⟨env, hp⟩ : PF.St) = lr_ev_v4_0_st head2 n2 o3 o4 g12 g13 g14 g15 g16 g17 g18 g19 g20 g21 g22 at he
 cases he
 show Sim (lr_ev_v4_0_step head2 n2 o3 o4) _ _
 unfold lr_ev_v4_0_step
 simp only [hw]
 refine au ?_
 refine Sim.callR hR (lr_kind_sim _ g12 g13 g14 g15 hg15 g16 hg16) ?_
 rintro r0 q ⟨g23, g24, g25, g26, g27, rfl, hg26, hg27⟩
 refine au (.ite Iff.rfl (fun hc => ?_) fun hc => ?_)
 ·refine au ?_
  refine Sim.callR hR (lr_words_sim _ g23 g24 g25 g26 hg26 g27 hg27) ?_
  rintro r2 q ⟨g28, g29, g30, g31, g32, rfl, hg31, hg32⟩
  refine au ?_
  refine Sim.ki hS (m := (List.length r2.1 : Int)) (by simp) ?_
  refine au (.ite Iff.rfl (fun hc2 => ?_) fun hc2 => ?_)
  ·refine au ?_
   exact Sim.ret ⟨_, rfl, ⟨_, _, _, _, _, _, _, _, _, _, _, rfl, hg31, hg32, hg19, hg20, hg21, hg22⟩⟩
  ·refine au ?_
   first | (refine Sim.goB (headE_map (by intro _; rfl) _) ?_) | skip
   refine au ?_
   refine Sim.kn hS (m := (List.length r2.1)) (by simp) ?_
   refine au ?_
   first | refine Sim.ite Iff.rfl (fun _ => ?_) (fun _ => Sim.no) | refine Sim.guard (fun _ => ?_)
   refine au ?_
   refine Sim.kl hS (ys := List.map sav (List.take (Int.toNat n2) r2.1)) (by simp only [PF.cut, List.map_drop, List.map_take]) ?_
   refine au (cE hR (lines_ints_sim _) fun r3 => ?_)
   refine au ?_
   refine Sim.ix (by simp) (fun z0 hz0 => ?_)
   refine au ?_
   refine Sim.go (idx_map _ hz0) ?_
   refine au (cE hR (lines_word_sim _) fun r4 => ?_)
   refine au (.iteB (fun hc3 => ?_) fun hc3 => ?_)
   ·refine au ?_
    exact Sim.ret ⟨_, rfl, ⟨_, _, _, _, _, _, _, _, _, _, _, rfl, hg31, hg32, hg19, hg20, hg21, hg22⟩⟩
   ·refine au (.iteB (fun hc4 => ?_) fun hc4 => ?_)
    ·refine au ?_
     exact Sim.ret ⟨_, rfl, ⟨_, _, _, _, _, _, _, _, _, _, _, rfl, hg31, hg32, hg19, hg20, hg21, hg22⟩⟩
    ·refine au ?_
     refine Sim.callR hR (lr_tick_3_sim _ _ _ g17 g18 g19 hg19 g20 hg20 g21 hg21 g22 hg22) ?_
     rintro r5 q ⟨g33, g34, g35, g36, g37, g38, rfl, hg35, hg36, hg37, hg38⟩
     refine au ?_
     exact Sim.ret ⟨_, _, rfl, rfl, ⟨_, _, _, _, _, _, _, _, _, _, _, rfl, hg31, hg32, hg35, hg36, hg37, hg38⟩⟩
 ·refine au ?_
  exact Sim.ret ⟨_, rfl, ⟨_, _, _, _, _, _, _, _, _, _, _, rfl, hg26, hg27, hg19, hg20, hg21, hg22⟩⟩
noncomputable def lr_ev_v4 (head : List UInt8) (n0 : Int) (o0 : Rdr) (o2 : GTick) : Option (Bool × Rdr × GTick) :=
 (lr_ev_v4_0 head n0 o0 o2).bind fun r6 =>
 Sum.elim
  (fun r7 =>
    some (r7.1, r7.2.1, r7.2.2))
  (fun r8 =>
    some (true, r8.1, r8.2))
  r6
theorem lr_ev_v4_sim (head : List UInt8) (n0 : Int) (o0 : Rdr) (o2 : GTick) (g0 : Gr) (g2 : Gr) (g3 : Gr) (g4 : Gr) (hg4 : Mg 1 g4) (g5 : Gr) (hg5 : Mg 6 g5) (g6 : Gr) (g7 : Gr) (g8 : Gr) (hg8 : Mg 4 g8) (g9 : Gr) (hg9 : Mg 2 g9) (g10 : Gr) (hg10 : Mg 4 g10) (g11 : Gr) (hg11 : Mg 2 g11) : Sim (lr_ev_v4 head n0 o0 o2) (Gv fun r q => ∃ g0, ∃ g1, ∃ g2, ∃ g3, ∃ g4, ∃ g5, ∃ g6, ∃ g7, ∃ g8, ∃ g9, ∃ g10, q = (.bool r.1, [⟨true, (Rc r.2.1 g0 g1 g2 g3 g4)⟩, ⟨true, [.lst g5 (List.map iav r.2.2.Units), .lst g6 (List.map iav r.2.2.Delays), .lst g7 (List.map GSend.av r.2.2.Sends), .lst g8 (List.map GBurst.av r.2.2.Bursts), .lst g9 (List.map GSend.av r.2.2.Strays), .lst g10 (List.map GWrite.av r.2.2.Writes)]⟩]) ∧ Mg 1 g3 ∧ Mg 6 g4 ∧ Mg 4 g7 ∧ Mg 2 g8 ∧ Mg 4 g9 ∧ Mg 2 g10) (LM.call n_lr_events [.ptr 0 0, .str head, iav n0, .fn n_lr_tick_3 [.ptr 1 0]] [⟨true, (Rc o0 g0 g2 g3 g4 g5)⟩, ⟨true, [.lst g6 (List.map iav o2.Units), .lst g7 (List.map iav o2.Delays), .lst g8 (List.map GSend.av o2.Sends), .lst g9 (List.map GBurst.av o2.Bursts), .lst g10 (List.map GSend.av o2.Strays), .lst g11 (List.map GWrite.av o2.Writes)]⟩]) := by
 unfold lr_ev_v4
 refine sim_evR M XE rfl rfl fun S hS hw hw8 R hR => ?_
 refine au ?_
 refine Sim.callL hR (lr_ev_v4_0_sim head n0 o0 o2 g0 g2 g3 g4 hg4 g5 hg5 g6 g7 g8 hg8 g9 hg9 g10 hg10 g11 hg11 _ rfl) ?_
 rintro r6 q hr
 rcases r6 with r7 | r8
 ·obtain ⟨g39, g40, g41, g42, g43, g44, g45, g46, g47, g48, g49, rfl, hg42, hg43, hg46, hg47, hg48, hg49⟩ := hr
  refine au ?_
  exact Sim.ret ⟨_, rfl, ⟨_, _, _, _, _, _, _, _, _, _, _, rfl, hg42, hg43, hg46, hg47, hg48, hg49⟩⟩
 ·obtain ⟨g50, g51, g52, g53, g54, g55, g56, g57, g58, g59, g60, rfl, hg53, hg54, hg57, hg58, hg59, hg60⟩ := hr
  refine au ?_
  exact Sim.ret ⟨_, rfl, ⟨_, _, _, _, _, _, _, _, _, _, _, rfl, hg53, hg54, hg57, hg58, hg59, hg60⟩⟩
noncomputable def lr_tick (o0 : Rdr) : Option (Bool × Rdr) :=
 (idx? o0.f_lines o0.f_at).bind fun z0 =>
 if z0 ≠ ([116, 105, 99, 107] : List UInt8) then
  some (false, o0)
 else
  (lr_kind (Rdr.mk o0.f_lines (wr (o0.f_at + 1)) o0.f_s)).bind fun r0 =>
  if r0.1 = ([117, 110, 105, 116, 115] : List UInt8) then
   (lr_list_v3 ([117, 110, 105, 116, 115] : List UInt8) r0.2 (GTick.mk ([] : List Int) ([] : List Int) ([] : List GSend) ([] : List GBurst) ([] : List GSend) ([] : List GWrite))).bind fun r2 =>
   if r2.1 = true then
    (lr_list_v4 ([100, 101, 108, 97, 121, 115] : List UInt8) r2.2.1 r2.2.2).bind fun r3 =>
    if r3.1 = true then
     (lr_tick_1 r3.2.2).bind fun r4 =>
     (lr_ev_v1 ([115, 101, 110, 100] : List UInt8) 3 r3.2.1 r4).bind fun r5 =>
     if r5.1 = true then
      (lr_ev_v2 ([98, 117, 114, 115, 116] : List UInt8) 1 r5.2.1 r5.2.2).bind fun r6 =>
      if r6.1 = true then
       (lr_tick_1_v1 r6.2.2).bind fun r7 =>
       (lr_ev_v3 ([115, 116, 114, 97, 121] : List UInt8) 3 r6.2.1 r7).bind fun r8 =>
       if r8.1 = true then
        (lr_ev_v4 ([119, 114, 105, 116, 101] : List UInt8) 1 r8.2.1 r8.2.2).bind fun r9 =>
        if List.length r9.2.1.f_s.Ticks + List.length [r9.2.2] ≤ lenMax then
         some (r9.1, (Rdr.mk r9.2.1.f_lines r9.2.1.f_at (GScript.mk r9.2.1.f_s.Conf r9.2.1.f_s.Faulty r9.2.1.f_s.Images (r9.2.1.f_s.Ticks ++ [r9.2.2]))))
        else none
       else
        if List.length r8.2.1.f_s.Ticks + List.length [r8.2.2] ≤ lenMax then
         some (false, (Rdr.mk r8.2.1.f_lines r8.2.1.f_at (GScript.mk r8.2.1.f_s.Conf r8.2.1.f_s.Faulty r8.2.1.f_s.Images (r8.2.1.f_s.Ticks ++ [r8.2.2]))))
        else none
      else
       if List.length r6.2.1.f_s.Ticks + List.length [r6.2.2] ≤ lenMax then
        some (false, (Rdr.mk r6.2.1.f_lines r6.2.1.f_at (GScript.mk r6.2.1.f_s.Conf r6.2.1.f_s.Faulty r6.2.1.f_s.Images (r6.2.1.f_s.Ticks ++ [r6.2.2]))))
       else none
     else
      if List.length r5.2.1.f_s.Ticks + List.length [r5.2.2] ≤ lenMax then
       some (false, (Rdr.mk r5.2.1.f_lines r5.2.1.f_at (GScript.mk r5.2.1.f_s.Conf r5.2.1.f_s.Faulty r5.2.1.f_s.Images (r5.2.1.f_s.Ticks ++ [r5.2.2]))))
      else none
    else
     if List.length r3.2.1.f_s.Ticks + List.length [r3.2.2] ≤ lenMax then
      some (false, (Rdr.mk r3.2.1.f_lines r3.2.1.f_at (GScript.mk r3.2.1.f_s.Conf r3.2.1.f_s.Faulty r3.2.1.f_s.Images (r3.2.1.f_s.Ticks ++ [r3.2.2]))))
     else none
   else
    if List.length r2.2.1.f_s.Ticks + List.length [r2.2.2] ≤ lenMax then
     some (false, (Rdr.mk r2.2.1.f_lines r2.2.1.f_at (GScript.mk r2.2.1.f_s.Conf r2.2.1.f_s.Faulty r2.2.1.f_s.Images (r2.2.1.f_s.Ticks ++ [r2.2.2]))))
    else none
  else
   if r0.1 = ([100, 101, 108, 97, 121, 115] : List UInt8) then
    (lr_list_v4 ([100, 101, 108, 97, 121, 115] : List UInt8) r0.2 (GTick.mk ([] : List Int) ([] : List Int) ([] : List GSend) ([] : List GBurst) ([] : List GSend) ([] : List GWrite))).bind fun r10 =>
    if r10.1 = true then
     (lr_tick_1 r10.2.2).bind fun r11 =>
     (lr_ev_v1 ([115, 101, 110, 100] : List UInt8) 3 r10.2.1 r11).bind fun r12 =>
     if r12.1 = true then
      (lr_ev_v2 ([98, 117, 114, 115, 116] : List UInt8) 1 r12.2.1 r12.2.2).bind fun r13 =>
      if r13.1 = true then
       (lr_tick_1_v1 r13.2.2).bind fun r14 =>
       (lr_ev_v3 ([115, 116, 114, 97, 121] : List UInt8) 3 r13.2.1 r14).bind fun r15 =>
       if r15.1 = true then
        (lr_ev_v4 ([119, 114, 105, 116, 101] : List UInt8) 1 r15.2.1 r15.2.2).bind fun r16 =>
        if List.length r16.2.1.f_s.Ticks + List.length [r16.2.2] ≤ lenMax then
         some (r16.1, (Rdr.mk r16.2.1.f_lines r16.2.1.f_at (GScript.mk r16.2.1.f_s.Conf r16.2.1.f_s.Faulty r16.2.1.f_s.Images (r16.2.1.f_s.Ticks ++ [r16.2.2]))))
        else none
       else
        if List.length r15.2.1.f_s.Ticks + List.length [r15.2.2] ≤ lenMax then
         some (false, (Rdr.mk r15.2.1.f_lines r15.2.1.f_at (GScript.mk r15.2.1.f_s.Conf r15.2.1.f_s.Faulty r15.2.1.f_s.Images (r15.2.1.f_s.Ticks ++ [r15.2.2]))))
        else none
      else
       if List.length r13.2.1.f_s.Ticks + List.length [r13.2.2] ≤ lenMax then
        some (false, (Rdr.mk r13.2.1.f_lines r13.2.1.f_at (GScript.mk r13.2.1.f_s.Conf r13.2.1.f_s.Faulty r13.2.1.f_s.Images (r13.2.1.f_s.Ticks ++ [r13.2.2]))))
       else none
     else
      if List.length r12.2.1.f_s.Ticks + List.length [r12.2.2] ≤ lenMax then
       some (false, (Rdr.mk r12.2.1.f_lines r12.2.1.f_at (GScript.mk r12.2.1.f_s.Conf r12.2.1.f_s.Faulty r12.2.1.f_s.Images (r12.2.1.f_s.Ticks ++ [r12.2.2]))))
      else none
    else
     if List.length r10.2.1.f_s.Ticks + List.length [r10.2.2] ≤ lenMax then
      some (false, (Rdr.mk r10.2.1.f_lines r10.2.1.f_at (GScript.mk r10.2.1.f_s.Conf r10.2.1.f_s.Faulty r10.2.1.f_s.Images (r10.2.1.f_s.Ticks ++ [r10.2.2]))))
     else none
   else
    if r0.1 = ([115, 101, 110, 100] : List UInt8) then
     (lr_tick_1 (GTick.mk ([] : List Int) ([] : List Int) ([] : List GSend) ([] : List GBurst) ([] : List GSend) ([] : List GWrite))).bind fun r17 =>
     (lr_ev_v1 ([115, 101, 110, 100] : List UInt8) 3 r0.2 r17).bind fun r18 =>
     if r18.1 = true then
      (lr_ev_v2 ([98, 117, 114, 115, 116] : List UInt8) 1 r18.2.1 r18.2.2).bind fun r19 =>
      if r19.1 = true then
       (lr_tick_1_v1 r19.2.2).bind fun r20 =>
       (lr_ev_v3 ([115, 116, 114, 97, 121] : List UInt8) 3 r19.2.1 r20).bind fun r21 =>
       if r21.1 = true then
        (lr_ev_v4 ([119, 114, 105, 116, 101] : List UInt8) 1 r21.2.1 r21.2.2).bind fun r22 =>
        if List.length r22.2.1.f_s.Ticks + List.length [r22.2.2] ≤ lenMax then
         some (r22.1, (Rdr.mk r22.2.1.f_lines r22.2.1.f_at (GScript.mk r22.2.1.f_s.Conf r22.2.1.f_s.Faulty r22.2.1.f_s.Images (r22.2.1.f_s.Ticks ++ [r22.2.2]))))
        else none
       else
        if List.length r21.2.1.f_s.Ticks + List.length [r21.2.2] ≤ lenMax then
         some (false, (Rdr.mk r21.2.1.f_lines r21.2.1.f_at (GScript.mk r21.2.1.f_s.Conf r21.2.1.f_s.Faulty r21.2.1.f_s.Images (r21.2.1.f_s.Ticks ++ [r21.2.2]))))
        else none
      else
       if List.length r19.2.1.f_s.Ticks + List.length [r19.2.2] ≤ lenMax then
        some (false, (Rdr.mk r19.2.1.f_lines r19.2.1.f_at (GScript.mk r19.2.1.f_s.Conf r19.2.1.f_s.Faulty r19.2.1.f_s.Images (r19.2.1.f_s.Ticks ++ [r19.2.2]))))
       else none
     else
      if List.length r18.2.1.f_s.Ticks + List.length [r18.2.2] ≤ lenMax then
       some (false, (Rdr.mk r18.2.1.f_lines r18.2.1.f_at (GScript.mk r18.2.1.f_s.Conf r18.2.1.f_s.Faulty r18.2.1.f_s.Images (r18.2.1.f_s.Ticks ++ [r18.2.2]))))
      else none
    else
     if r0.1 = ([98, 117, 114, 115, 116] : List UInt8) then
      (lr_ev_v2 ([98, 117, 114, 115, 116] : List UInt8) 1 r0.2 (GTick.mk ([] : List Int) ([] : List Int) ([] : List GSend) ([] : List GBurst) ([] : List GSend) ([] : List GWrite))).bind fun r23 =>
      if r23.1 = true then
       (lr_tick_1_v1 r23.2.2).bind fun r24 =>
       (lr_ev_v3 ([115, 116, 114, 97, 121] : List UInt8) 3 r23.2.1 r24).bind fun r25 =>
       if r25.1 = true then
        (lr_ev_v4 ([119, 114, 105, 116, 101] : List UInt8) 1 r25.2.1 r25.2.2).bind fun r26 =>
        if List.length r26.2.1.f_s.Ticks + List.length [r26.2.2] ≤ lenMax then
         some (r26.1, (Rdr.mk r26.2.1.f_lines r26.2.1.f_at (GScript.mk r26.2.1.f_s.Conf r26.2.1.f_s.Faulty r26.2.1.f_s.Images (r26.2.1.f_s.Ticks ++ [r26.2.2]))))
        else none
       else
        if List.length r25.2.1.f_s.Ticks + List.length [r25.2.2] ≤ lenMax then
         some (false, (Rdr.mk r25.2.1.f_lines r25.2.1.f_at (GScript.mk r25.2.1.f_s.Conf r25.2.1.f_s.Faulty r25.2.1.f_s.Images (r25.2.1.f_s.Ticks ++ [r25.2.2]))))
        else none
      else
       if List.length r23.2.1.f_s.Ticks + List.length [r23.2.2] ≤ lenMax then
        some (false, (Rdr.mk r23.2.1.f_lines r23.2.1.f_at (GScript.mk r23.2.1.f_s.Conf r23.2.1.f_s.Faulty r23.2.1.f_s.Images (r23.2.1.f_s.Ticks ++ [r23.2.2]))))
       else none
     else
      if r0.1 = ([115, 116, 114, 97, 121] : List UInt8) then
       (lr_tick_1_v1 (GTick.mk ([] : List Int) ([] : List Int) ([] : List GSend) ([] : List GBurst) ([] : List GSend) ([] : List GWrite))).bind fun r27 =>
       (lr_ev_v3 ([115, 116, 114, 97, 121] : List UInt8) 3 r0.2 r27).bind fun r28 =>
       if r28.1 = true then
        (lr_ev_v4 ([119, 114, 105, 116, 101] : List UInt8) 1 r28.2.1 r28.2.2).bind fun r29 =>
        if List.length r29.2.1.f_s.Ticks + List.length [r29.2.2] ≤ lenMax then
         some (r29.1, (Rdr.mk r29.2.1.f_lines r29.2.1.f_at (GScript.mk r29.2.1.f_s.Conf r29.2.1.f_s.Faulty r29.2.1.f_s.Images (r29.2.1.f_s.Ticks ++ [r29.2.2]))))
        else none
       else
        if List.length r28.2.1.f_s.Ticks + List.length [r28.2.2] ≤ lenMax then
         some (false, (Rdr.mk r28.2.1.f_lines r28.2.1.f_at (GScript.mk r28.2.1.f_s.Conf r28.2.1.f_s.Faulty r28.2.1.f_s.Images (r28.2.1.f_s.Ticks ++ [r28.2.2]))))
        else none
      else
       if r0.1 = ([119, 114, 105, 116, 101] : List UInt8) then
        (lr_ev_v4 ([119, 114, 105, 116, 101] : List UInt8) 1 r0.2 (GTick.mk ([] : List Int) ([] : List Int) ([] : List GSend) ([] : List GBurst) ([] : List GSend) ([] : List GWrite))).bind fun r30 =>
        if List.length r30.2.1.f_s.Ticks + List.length [r30.2.2] ≤ lenMax then
         some (r30.1, (Rdr.mk r30.2.1.f_lines r30.2.1.f_at (GScript.mk r30.2.1.f_s.Conf r30.2.1.f_s.Faulty r30.2.1.f_s.Images (r30.2.1.f_s.Ticks ++ [r30.2.2]))))
        else none
       else
        if List.length r0.2.f_s.Ticks + List.length [(GTick.mk ([] : List Int) ([] : List Int) ([] : List GSend) ([] : List GBurst) ([] : List GSend) ([] : List GWrite))] ≤ lenMax then
         some (true, (Rdr.mk r0.2.f_lines r0.2.f_at (GScript.mk r0.2.f_s.Conf r0.2.f_s.Faulty r0.2.f_s.Images (r0.2.f_s.Ticks ++ [(GTick.mk ([] : List Int) ([] : List Int) ([] : List GSend) ([] : List GBurst) ([] : List GSend) ([] : List GWrite))]))))
        else none
theorem lr_tick_sim (o0 : Rdr) (g0 : Gr) (g2 : Gr) (g3 : Gr) (g4 : Gr) (hg4 : Mg 1 g4) (g5 : Gr) (hg5 : Mg 6 g5) : Sim (lr_tick o0) (Gv fun r q => ∃ g0, ∃ g1, ∃ g2, ∃ g3, ∃ g4, q = (.bool r.1, [⟨true, (Rc r.2 g0 g1 g2 g3 g4)⟩]) ∧ Mg 1 g3 ∧ Mg 6 g4) (LM.call n_lr_tick [.ptr 0 0] [⟨true, (Rc o0 g0 g2 g3 g4 g5)⟩]) := by
 unfold lr_tick
 refine sim_evR M XE rfl rfl fun S hS hw hw8 R hR => ?_
 simp only [hw]
 refine au ?_
 refine Sim.ix (by simp) (fun z0 hz0 => ?_)
 refine au ?_
 refine Sim.go (idx_map _ hz0) ?_
 refine au (.ite Iff.rfl (fun hc => ?_) fun hc => ?_)
 ·refine au ?_
  exact Sim.ret ⟨_, rfl, ⟨_, _, _, _, _, rfl, hg4, hg5⟩⟩
 ·refine au ?_
  refine Sim.callR hR (lr_kind_sim _ g0 g2 g3 g4 hg4 g5 hg5) ?_
  rintro r0 q ⟨g6, g7, g8, g9, g10, rfl, hg9, hg10⟩
  refine au (.ite Iff.rfl (fun hc2 => ?_) fun hc2 => ?_)
  ·refine au ?_
   refine Sim.callR hR (lr_list_v3_sim _ _ _ g6 g7 g8 g9 hg9 g10 hg10 .full .full .full Mg.full .full Mg.full .full Mg.full .full Mg.full) ?_
   rintro r2 q ⟨g11, g12, g13, g14, g15, g16, g17, g18, g19, g20, g21, rfl, hg14, hg15, hg18, hg19, hg20, hg21⟩
   refine au (.iteB (fun hc3 => ?_) fun hc3 => ?_)
   ·refine au ?_
    refine Sim.callR hR (lr_list_v4_sim _ _ _ g11 g12 g13 g14 hg14 g15 hg15 g16 g17 g18 hg18 g19 hg19 g20 hg20 g21 hg21) ?_
    rintro r3 q ⟨g22, g23, g24, g25, g26, g27, g28, g29, g30, g31, g32, rfl, hg25, hg26, hg29, hg30, hg31, hg32⟩
    refine au (.iteB (fun hc4 => ?_) fun hc4 => ?_)
    ·refine au ?_
     refine Sim.callR hR (lr_tick_1_sim _ g27 g28 g29 hg29 g30 hg30 g31 hg31 g32 hg32) ?_
     rintro r4 q ⟨g33, g34, g35, g36, g37, g38, rfl, hg35, hg36, hg37, hg38⟩
     refine au ?_
     refine Sim.callR hR (lr_ev_v1_sim _ _ _ _ g22 g23 g24 g25 hg25 g26 hg26 g33 g34 g35 hg35 g36 hg36 g37 hg37 g38 hg38) ?_
     rintro r5 q ⟨g39, g40, g41, g42, g43, g44, g45, g46, g47, g48, g49, rfl, hg42, hg43, hg46, hg47, hg48, hg49⟩
     refine au (.iteB (fun hc5 => ?_) fun hc5 => ?_)
     ·refine au ?_
      refine Sim.callR hR (lr_ev_v2_sim _ _ _ _ g39 g40 g41 g42 hg42 g43 hg43 g44 g45 g46 hg46 g47 hg47 g48 hg48 g49 hg49) ?_
      rintro r6 q ⟨g50, g51, g52, g53, g54, g55, g56, g57, g58, g59, g60, rfl, hg53, hg54, hg57, hg58, hg59, hg60⟩
      refine au (.iteB (fun hc6 => ?_) fun hc6 => ?_)
      ·refine au ?_
       refine Sim.callR hR (lr_tick_1_v1_sim _ g55 g56 g57 hg57 g58 hg58 g59 hg59 g60 hg60) ?_
       rintro r7 q ⟨g61, g62, g63, g64, g65, g66, rfl, hg63, hg64, hg65, hg66⟩
       refine au ?_
       refine Sim.callR hR (lr_ev_v3_sim _ _ _ _ g50 g51 g52 g53 hg53 g54 hg54 g61 g62 g63 hg63 g64 hg64 g65 hg65 g66 hg66) ?_
       rintro r8 q ⟨g67, g68, g69, g70, g71, g72, g73, g74, g75, g76, g77, rfl, hg70, hg71, hg74, hg75, hg76, hg77⟩
       refine au (.iteB (fun hc7 => ?_) fun hc7 => ?_)
       ·refine au ?_
        refine Sim.callR hR (lr_ev_v4_sim _ _ _ _ g67 g68 g69 g70 hg70 g71 hg71 g72 g73 g74 hg74 g75 hg75 g76 hg76 g77 hg77) ?_
        rintro r9 q ⟨g78, g79, g80, g81, g82, g83, g84, g85, g86, g87, g88, rfl, hg81, hg82, hg85, hg86, hg87, hg88⟩
        refine au ?_
        refine Sim.kl hS rfl ?_
        refine au ?_
        refine Sim.kl hS (ys := List.map GTick.av [r9.2.2]) rfl ?_
        refine au ?_
        first | (refine Sim.goB (may_map (by intro _; rfl) hg82 _) ?_) | skip
        refine au ?_
        first | (refine Sim.goB (okE_map (by intro _; exact ⟨rfl, rfl, rfl⟩) _) ?_) | skip
        refine au ?_
        first | refine Sim.ite (by simp) (fun _ => ?_) (fun _ => Sim.no) | refine Sim.guard (fun _ => ?_)
        refine au ?_
        refine Sim.kl hS (ys := List.map GTick.av (r9.2.1.f_s.Ticks ++ [r9.2.2])) (by simp) ?_
        refine au ?_
        exact Sim.ret ⟨_, rfl, ⟨_, _, _, _, _, rfl, hg81, Mg.own⟩⟩
       ·refine au ?_
        refine Sim.kl hS rfl ?_
        refine au ?_
        refine Sim.kl hS (ys := List.map GTick.av [r8.2.2]) rfl ?_
        refine au ?_
        first | (refine Sim.goB (may_map (by intro _; rfl) hg71 _) ?_) | skip
        refine au ?_
        first | (refine Sim.goB (okE_map (by intro _; exact ⟨rfl, rfl, rfl⟩) _) ?_) | skip
        refine au ?_
        first | refine Sim.ite (by simp) (fun _ => ?_) (fun _ => Sim.no) | refine Sim.guard (fun _ => ?_)
        refine au ?_
        refine Sim.kl hS (ys := List.map GTick.av (r8.2.1.f_s.Ticks ++ [r8.2.2])) (by simp) ?_
        refine au ?_
        exact Sim.ret ⟨_, rfl, ⟨_, _, _, _, _, rfl, hg70, Mg.own⟩⟩
      ·refine au ?_
       refine Sim.kl hS rfl ?_
       refine au ?_
       refine Sim.kl hS (ys := List.map GTick.av [r6.2.2]) rfl ?_
       refine au ?_
       first | (refine Sim.goB (may_map (by intro _; rfl) hg54 _) ?_) | skip
       refine au ?_
       first | (refine Sim.goB (okE_map (by intro _; exact ⟨rfl, rfl, rfl⟩) _) ?_) | skip
       refine au ?_
       first | refine Sim.ite (by simp) (fun _ => ?_) (fun _ => Sim.no) | refine Sim.guard (fun _ => ?_)
       refine au ?_
       refine Sim.kl hS (ys := List.map GTick.av (r6.2.1.f_s.Ticks ++ [r6.2.2])) (by simp) ?_
       refine au ?_
       exact Sim.ret ⟨_, rfl, ⟨_, _, _, _, _, rfl, hg53, Mg.own⟩⟩
     ·refine au ?_
      refine Sim.kl hS rfl ?_
      refine au ?_
      refine Sim.kl hS (ys := List.map GTick.av [r5.2.2]) rfl ?_
      refine au ?_
      first | (refine Sim.goB (may_map (by intro _; rfl) hg43 _) ?_) | skip
      refine au ?_
      first | (refine Sim.goB (okE_map (by intro _; exact ⟨rfl, rfl, rfl⟩) _) ?_) | skip
      refine au ?_
      first | refine Sim.ite (by simp) (fun _ => ?_) (fun _ => Sim.no) | refine Sim.guard (fun _ => ?_)
      refine au ?_
      refine Sim.kl hS (ys := List.map GTick.av (r5.2.1.f_s.Ticks ++ [r5.2.2])) (by simp) ?_
      refine au ?_
      exact Sim.ret ⟨_, rfl, ⟨_, _, _, _, _, rfl, hg42, Mg.own⟩⟩
    ·refine au ?_
     refine Sim.kl hS rfl ?_
     refine au ?_
     refine Sim.kl hS (ys := List.map GTick.av [r3.2.2]) rfl ?_
     refine au ?_
     first | (refine Sim.goB (may_map (by intro _; rfl) hg26 _) ?_) | skip
     refine au ?_
     first | (refine Sim.goB (okE_map (by intro _; exact ⟨rfl, rfl, rfl⟩) _) ?_) | skip
     refine au ?_
     first | refine Sim.ite (by simp) (fun _ => ?_) (fun _ => Sim.no) | refine Sim.guard (fun _ => ?_)
     refine au ?_
     refine Sim.kl hS (ys := List.map GTick.av (r3.2.1.f_s.Ticks ++ [r3.2.2])) (by simp) ?_
     refine au ?_
     exact Sim.ret ⟨_, rfl, ⟨_, _, _, _, _, rfl, hg25, Mg.own⟩⟩
   ·refine au ?_
    refine Sim.kl hS rfl ?_
    refine au ?_
    refine Sim.kl hS (ys := List.map GTick.av [r2.2.2]) rfl ?_
    refine au ?_
    first | (refine Sim.goB (may_map (by intro _; rfl) hg15 _) ?_) | skip
    refine au ?_
    first | (refine Sim.goB (okE_map (by intro _; exact ⟨rfl, rfl, rfl⟩) _) ?_) | skip
    refine au ?_
    first | refine Sim.ite (by simp) (fun _ => ?_) (fun _ => Sim.no) | refine Sim.guard (fun _ => ?_)
    refine au ?_
    refine Sim.kl hS (ys := List.map GTick.av (r2.2.1.f_s.Ticks ++ [r2.2.2])) (by simp) ?_
    refine au ?_
    exact Sim.ret ⟨_, rfl, ⟨_, _, _, _, _, rfl, hg14, Mg.own⟩⟩
  ·refine au (.ite Iff.rfl (fun hc8 => ?_) fun hc8 => ?_)
   ·refine au ?_
    refine Sim.callR hR (lr_list_v4_sim _ _ _ g6 g7 g8 g9 hg9 g10 hg10 .full .full .full Mg.full .full Mg.full .full Mg.full .full Mg.full) ?_
    rintro r10 q ⟨g89, g90, g91, g92, g93, g94, g95, g96, g97, g98, g99, rfl, hg92, hg93, hg96, hg97, hg98, hg99⟩
    refine au (.iteB (fun hc9 => ?_) fun hc9 => ?_)
    ·refine au ?_
     refine Sim.callR hR (lr_tick_1_sim _ g94 g95 g96 hg96 g97 hg97 g98 hg98 g99 hg99) ?_
     rintro r11 q ⟨g100, g101, g102, g103, g104, g105, rfl, hg102, hg103, hg104, hg105⟩
     refine au ?_
     refine Sim.callR hR (lr_ev_v1_sim _ _ _ _ g89 g90 g91 g92 hg92 g93 hg93 g100 g101 g102 hg102 g103 hg103 g104 hg104 g105 hg105) ?_
     rintro r12 q ⟨g106, g107, g108, g109, g110, g111, g112, g113, g114, g115, g116, rfl, hg109, hg110, hg113, hg114, hg115, hg116⟩
     refine au (.iteB (fun hc10 => ?_) fun hc10 => ?_)
     ·refine au ?_
      refine Sim.callR hR (lr_ev_v2_sim _ _ _ _ g106 g107 g108 g109 hg109 g110 hg110 g111 g112 g113 hg113 g114 hg114 g115 hg115 g116 hg116) ?_
      rintro r13 q ⟨g117, g118, g119, g120, g121, g122, g123, g124, g125, g126, g127, rfl, hg120, hg121, hg124, hg125, hg126, hg127⟩
      refine au (.iteB (fun hc11 => ?_) fun hc11 => ?_)
      ·refine au ?_
       refine Sim.callR hR (lr_tick_1_v1_sim _ g122 g123 g124 hg124 g125 hg125 g126 hg126 g127 hg127) ?_
       rintro r14 q ⟨g128, g129, g130, g131, g132, g133, rfl, hg130, hg131, hg132, hg133⟩
       refine au ?_
       refine Sim.callR hR (lr_ev_v3_sim _ _ _ _ g117 g118 g119 g120 hg120 g121 hg121 g128 g129 g130 hg130 g131 hg131 g132 hg132 g133 hg133) ?_
       rintro r15 q ⟨g134, g135, g136, g137, g138, g139, g140, g141, g142, g143, g144, rfl, hg137, hg138, hg141, hg142, hg143, hg144⟩
       refine au (.iteB (fun hc12 => ?_) fun hc12 => ?_)
       ·refine au ?_
        refine Sim.callR hR (lr_ev_v4_sim _ _ _ _ g134 g135 g136 g137 hg137 g138 hg138 g139 g140 g141 hg141 g142 hg142 g143 hg143 g144 hg144) ?_
        rintro r16 q ⟨g145, g146, g147, g148, g149, g150, g151, g152, g153, g154, g155, rfl, hg148, hg149, hg152, hg153, hg154, hg155⟩
        refine au ?_
        refine Sim.kl hS rfl ?_
        refine au ?_
        refine Sim.kl hS (ys := List.map GTick.av [r16.2.2]) rfl ?_
        refine au ?_
        first | (refine Sim.goB (may_map (by intro _; rfl) hg149 _) ?_) | skip
        refine au ?_
        first | (refine Sim.goB (okE_map (by intro _; exact ⟨rfl, rfl, rfl⟩) _) ?_) | skip
        refine au ?_
        first | refine Sim.ite (by simp) (fun _ => ?_) (fun _ => Sim.no) | refine Sim.guard (fun _ => ?_)
        refine au ?_
        refine Sim.kl hS (ys := List.map GTick.av (r16.2.1.f_s.Ticks ++ [r16.2.2])) (by simp) ?_
        refine au ?_
        exact Sim.ret ⟨_, rfl, ⟨_, _, _, _, _, rfl, hg148, Mg.own⟩⟩
       ·refine au ?_
        refine Sim.kl hS rfl ?_
        refine au ?_
        refine Sim.kl hS (ys := List.map GTick.av [r15.2.2]) rfl ?_
        refine au ?_
        first | (refine Sim.goB (may_map (by intro _; rfl) hg138 _) ?_) | skip
        refine au ?_
        first | (refine Sim.goB (okE_map (by intro _; exact ⟨rfl, rfl, rfl⟩) _) ?_) | skip
        refine au ?_
        first | refine Sim.ite (by simp) (fun _ => ?_) (fun _ => Sim.no) | refine Sim.guard (fun _ => ?_)
        refine au ?_
        refine Sim.kl hS (ys := List.map GTick.av (r15.2.1.f_s.Ticks ++ [r15.2.2])) (by simp) ?_
        refine au ?_
        exact Sim.ret ⟨_, rfl, ⟨_, _, _, _, _, rfl, hg137, Mg.own⟩⟩
      ·refine au ?_
       refine Sim.kl hS rfl ?_
       refine au ?_
       refine Sim.kl hS (ys := List.map GTick.av [r13.2.2]) rfl ?_
       refine au ?_
       first | (refine Sim.goB (may_map (by intro _; rfl) hg121 _) ?_) | skip
       refine au ?_
       first | (refine Sim.goB (okE_map (by intro _; exact ⟨rfl, rfl, rfl⟩) _) ?_) | skip
       refine au ?_
       first | refine Sim.ite (by simp) (fun _ => ?_) (fun _ => Sim.no) | refine Sim.guard (fun _ => ?_)
       refine au ?_
       refine Sim.kl hS (ys := List.map GTick.av (r13.2.1.f_s.Ticks ++ [r13.2.2])) (by simp) ?_
       refine au ?_
       exact Sim.ret ⟨_, rfl, ⟨_, _, _, _, _, rfl, hg120, Mg.own⟩⟩
     ·refine au ?_
      refine Sim.kl hS rfl ?_
      refine au ?_
      refine Sim.kl hS (ys := List.map GTick.av [r12.2.2]) rfl ?_
      refine au ?_
      first | (refine Sim.goB (may_map (by intro _; rfl) hg110 _) ?_) | skip
      refine au ?_
      first | (refine Sim.goB (okE_map (by intro _; exact ⟨rfl, rfl, rfl⟩) _) ?_) | skip
      refine au ?_
      first | refine Sim.ite (by simp) (fun _ => ?_) (fun _ => Sim.no) | refine Sim.guard (fun _ => ?_)
      refine au ?_
      refine Sim.kl hS (ys := List.map GTick.av (r12.2.1.f_s.Ticks ++ [r12.2.2])) (by simp) ?_
      refine au ?_
      exact Sim.ret ⟨_, rfl, ⟨_, _, _, _, _, rfl, hg109, Mg.own⟩⟩
    ·refine au ?_
     refine Sim.kl hS rfl ?_
     refine au ?_
     refine Sim.kl hS (ys := List.map GTick.av [r10.2.2]) rfl ?_
     refine au ?_
     first | (refine Sim.goB (may_map (by intro _; rfl) hg93 _) ?_) | skip
     refine au ?_
     first | (refine Sim.goB (okE_map (by intro _; exact ⟨rfl, rfl, rfl⟩) _) ?_) | skip
     refine au ?_
     first | refine Sim.ite (by simp) (fun _ => ?_) (fun _ => Sim.no) | refine Sim.guard (fun _ => ?_)
     refine au ?_
     refine Sim.kl hS (ys := List.map GTick.av (r10.2.1.f_s.Ticks ++ [r10.2.2])) (by simp) ?_
     refine au ?_
     exact Sim.ret ⟨_, rfl, ⟨_, _, _, _, _, rfl, hg92, Mg.own⟩⟩
   ·refine au (.ite Iff.rfl (fun hc13 => ?_) fun hc13 => ?_)
    ·refine au ?_
     refine Sim.callR hR (lr_tick_1_sim _ .full .full .full Mg.full .full Mg.full .full Mg.full .full Mg.full) ?_
     rintro r17 q ⟨g156, g157, g158, g159, g160, g161, rfl, hg158, hg159, hg160, hg161⟩
     refine au ?_
     refine Sim.callR hR (lr_ev_v1_sim _ _ _ _ g6 g7 g8 g9 hg9 g10 hg10 g156 g157 g158 hg158 g159 hg159 g160 hg160 g161 hg161) ?_
     rintro r18 q ⟨g162, g163, g164, g165, g166, g167, g168, g169, g170, g171, g172, rfl, hg165, hg166, hg169, hg170, hg171, hg172⟩
     refine au (.iteB (fun hc14 => ?_) fun hc14 => ?_)
     ·refine au ?_
      refine Sim.callR hR (lr_ev_v2_sim _ _ _ _ g162 g163 g164 g165 hg165 g166 hg166 g167 g168 g169 hg169 g170 hg170 g171 hg171 g172 hg172) ?_
      rintro r19 q ⟨g173, g174, g175, g176, g177, g178, g179, g180, g181, g182, g183, rfl, hg176, hg177, hg180, hg181, hg182, hg183⟩
      refine au (.iteB (fun hc15 => ?_) fun hc15 => ?_)
      ·refine au ?_
       refine Sim.callR hR (lr_tick_1_v1_sim _ g178 g179 g180 hg180 g181 hg181 g182 hg182 g183 hg183) ?_
       rintro r20 q ⟨g184, g185, g186, g187, g188, g189, rfl, hg186, hg187, hg188, hg189⟩
       refine au ?_
       refine Sim.callR hR (lr_ev_v3_sim _ _ _ _ g173 g174 g175 g176 hg176 g177 hg177 g184 g185 g186 hg186 g187 hg187 g188 hg188 g189 hg189) ?_
       rintro r21 q ⟨g190, g191, g192, g193, g194, g195, g196, g197, g198, g199, g200, rfl, hg193, hg194, hg197, hg198, hg199, hg200⟩
       refine au (.iteB (fun hc16 => ?_) fun hc16 => ?_)
       ·refine au ?_
        refine Sim.callR hR (lr_ev_v4_sim _ _ _ _ g190 g191 g192 g193 hg193 g194 hg194 g195 g196 g197 hg197 g198 hg198 g199 hg199 g200 hg200) ?_
        rintro r22 q ⟨g201, g202, g203, g204, g205, g206, g207, g208, g209, g210, g211, rfl, hg204, hg205, hg208, hg209, hg210, hg211⟩
        refine au ?_
        refine Sim.kl hS rfl ?_
        refine au ?_
        refine Sim.kl hS (ys := List.map GTick.av [r22.2.2]) rfl ?_
        refine au ?_
        first | (refine Sim.goB (may_map (by intro _; rfl) hg205 _) ?_) | skip
        refine au ?_
        first | (refine Sim.goB (okE_map (by intro _; exact ⟨rfl, rfl, rfl⟩) _) ?_) | skip
        refine au ?_
        first | refine Sim.ite (by simp) (fun _ => ?_) (fun _ => Sim.no) | refine Sim.guard (fun _ => ?_)
        refine au ?_
        refine Sim.kl hS (ys := List.map GTick.av (r22.2.1.f_s.Ticks ++ [r22.2.2])) (by simp) ?_
        refine au ?_
        exact Sim.ret ⟨_, rfl, ⟨_, _, _, _, _, rfl, hg204, Mg.own⟩⟩
       ·refine au ?_
        refine Sim.kl hS rfl ?_
        refine au ?_
        refine Sim.kl hS (ys := List.map GTick.av [r21.2.2]) rfl ?_
        refine au ?_
        first | (refine Sim.goB (may_map (by intro _; rfl) hg194 _) ?_) | skip
        refine au ?_
        first | (refine Sim.goB (okE_map (by intro _; exact ⟨rfl, rfl, rfl⟩) _) ?_) | skip
        refine au ?_
        first | refine Sim.ite (by simp) (fun _ => ?_) (fun _ => Sim.no) | refine Sim.guard (fun _ => ?_)
        refine au ?_
        refine Sim.kl hS (ys := List.map GTick.av (r21.2.1.f_s.Ticks ++ [r21.2.2])) (by simp) ?_
        refine au ?_
        exact Sim.ret ⟨_, rfl, ⟨_, _, _, _, _, rfl, hg193, Mg.own⟩⟩
      ·refine au ?_
       refine Sim.kl hS rfl ?_
       refine au ?_
       refine Sim.kl hS (ys := List.map GTick.av [r19.2.2]) rfl ?_
       refine au ?_
       first | (refine Sim.goB (may_map (by intro _; rfl) hg177 _) ?_) | skip
       refine au ?_
       first | (refine Sim.goB (okE_map (by intro _; exact ⟨rfl, rfl, rfl⟩) _) ?_) | skip
       refine au ?_
       first | refine Sim.ite (by simp) (fun _ => ?_) (fun _ => Sim.no) | refine Sim.guard (fun _ => ?_)
       refine au ?_
       refine Sim.kl hS (ys := List.map GTick.av (r19.2.1.f_s.Ticks ++ [r19.2.2])) (by simp) ?_
       refine au ?_
       exact Sim.ret ⟨_, rfl, ⟨_, _, _, _, _, rfl, hg176, Mg.own⟩⟩
     ·refine au ?_
      refine Sim.kl hS rfl ?_
      refine au ?_
      refine Sim.kl hS (ys := List.map GTick.av [r18.2.2]) rfl ?_
      refine au ?_
      first | (refine Sim.goB (may_map (by intro _; rfl) hg166 _) ?_) | skip
      refine au ?_
      first | (refine Sim.goB (okE_map (by intro _; exact ⟨rfl, rfl, rfl⟩) _) ?_) | skip
      refine au ?_
      first | refine Sim.ite (by simp) (fun _ => ?_) (fun _ => Sim.no) | refine Sim.guard (fun _ => ?_)
      refine au ?_
      refine Sim.kl hS (ys := List.map GTick.av (r18.2.1.f_s.Ticks ++ [r18.2.2])) (by simp) ?_
      refine au ?_
      exact Sim.ret ⟨_, rfl, ⟨_, _, _, _, _, rfl, hg165, Mg.own⟩⟩
    ·refine au (.ite Iff.rfl (fun hc17 => ?_) fun hc17 => ?_)
     ·refine au ?_
      refine Sim.callR hR (lr_ev_v2_sim _ _ _ _ g6 g7 g8 g9 hg9 g10 hg10 .full .full .full Mg.full .full Mg.full .full Mg.full .full Mg.full) ?_
      rintro r23 q ⟨g212, g213, g214, g215, g216, g217, g218, g219, g220, g221, g222, rfl, hg215, hg216, hg219, hg220, hg221, hg222⟩
      refine au (.iteB (fun hc18 => ?_) fun hc18 => ?_)
      ·refine au ?_
       refine Sim.callR hR (lr_tick_1_v1_sim _ g217 g218 g219 hg219 g220 hg220 g221 hg221 g222 hg222) ?_
       rintro r24 q ⟨g223, g224, g225, g226, g227, g228, rfl, hg225, hg226, hg227, hg228⟩
       refine au ?_
       refine Sim.callR hR (lr_ev_v3_sim _ _ _ _ g212 g213 g214 g215 hg215 g216 hg216 g223 g224 g225 hg225 g226 hg226 g227 hg227 g228 hg228) ?_
       rintro r25 q ⟨g229, g230, g231, g232, g233, g234, g235, g236, g237, g238, g239, rfl, hg232, hg233, hg236, hg237, hg238, hg239⟩
       refine au (.iteB (fun hc19 => ?_) fun hc19 => ?_)
       ·refine au ?_
        refine Sim.callR hR (lr_ev_v4_sim _ _ _ _ g229 g230 g231 g232 hg232 g233 hg233 g234 g235 g236 hg236 g237 hg237 g238 hg238 g239 hg239) ?_
        rintro r26 q ⟨g240, g241, g242, g243, g244, g245, g246, g247, g248, g249, g250, rfl, hg243, hg244, hg247, hg248, hg249, hg250⟩
        refine au ?_
        refine Sim.kl hS rfl ?_
        refine au ?_
        refine Sim.kl hS (ys := List.map GTick.av [r26.2.2]) rfl ?_
        refine au ?_
        first | (refine Sim.goB (may_map (by intro _; rfl) hg244 _) ?_) | skip
        refine au ?_
        first | (refine Sim.goB (okE_map (by intro _; exact ⟨rfl, rfl, rfl⟩) _) ?_) | skip
        refine au ?_
        first | refine Sim.ite (by simp) (fun _ => ?_) (fun _ => Sim.no) | refine Sim.guard (fun _ => ?_)
        refine au ?_
        refine Sim.kl hS (ys := List.map GTick.av (r26.2.1.f_s.Ticks ++ [r26.2.2])) (by simp) ?_
        refine au ?_
        exact Sim.ret ⟨_, rfl, ⟨_, _, _, _, _, rfl, hg243, Mg.own⟩⟩
       ·refine au ?_
        refine Sim.kl hS rfl ?_
        refine au ?_
        refine Sim.kl hS (ys := List.map GTick.av [r25.2.2]) rfl ?_
        refine au ?_
        first | (refine Sim.goB (may_map (by intro _; rfl) hg233 _) ?_) | skip
        refine au ?_
        first | (refine Sim.goB (okE_map (by intro _; exact ⟨rfl, rfl, rfl⟩) _) ?_) | skip
        refine au ?_
        first | refine Sim.ite (by simp) (fun _ => ?_) (fun _ => Sim.no) | refine Sim.guard (fun _ => ?_)
        refine au ?_
        refine Sim.kl hS (ys := List.map GTick.av (r25.2.1.f_s.Ticks ++ [r25.2.2])) (by simp) ?_
        refine au ?_
        exact Sim.ret ⟨_, rfl, ⟨_, _, _, _, _, rfl, hg232, Mg.own⟩⟩
      ·refine au ?_
       refine Sim.kl hS rfl ?_
       refine au ?_
       refine Sim.kl hS (ys := List.map GTick.av [r23.2.2]) rfl ?_
       refine au ?_
       first | (refine Sim.goB (may_map (by intro _; rfl) hg216 _) ?_) | skip
       refine au ?_
       first | (refine Sim.goB (okE_map (by intro _; exact ⟨rfl, rfl, rfl⟩) _) ?_) | skip
       refine au ?_
       first | refine Sim.ite (by simp) (fun _ => ?_) (fun _ => Sim.no) | refine Sim.guard (fun _ => ?_)
       refine au ?_
       refine Sim.kl hS (ys := List.map GTick.av (r23.2.1.f_s.Ticks ++ [r23.2.2])) (by simp) ?_
       refine au ?_
       exact Sim.ret ⟨_, rfl, ⟨_, _, _, _, _, rfl, hg215, Mg.own⟩⟩
     ·refine au (.ite Iff.rfl (fun hc20 => ?_) fun hc20 => ?_)
      ·refine au ?_
       refine Sim.callR hR (lr_tick_1_v1_sim _ .full .full .full Mg.full .full Mg.full .full Mg.full .full Mg.full) ?_
       rintro r27 q ⟨g251, g252, g253, g254, g255, g256, rfl, hg253, hg254, hg255, hg256⟩
       refine au ?_
       refine Sim.callR hR (lr_ev_v3_sim _ _ _ _ g6 g7 g8 g9 hg9 g10 hg10 g251 g252 g253 hg253 g254 hg254 g255 hg255 g256 hg256) ?_
       rintro r28 q ⟨g257, g258, g259, g260, g261, g262, g263, g264, g265, g266, g267, rfl, hg260, hg261, hg264, hg265, hg266, hg267⟩
       refine au (.iteB (fun hc21 => ?_) fun hc21 => ?_)
       ·refine au ?_
        refine Sim.callR hR (lr_ev_v4_sim _ _ _ _ g257 g258 g259 g260 hg260 g261 hg261 g262 g263 g264 hg264 g265 hg265 g266 hg266 g267 hg267) ?_
        rintro r29 q ⟨g268, g269, g270, g271, g272, g273, g274, g275, g276, g277, g278, rfl, hg271, hg272, hg275, hg276, hg277, hg278⟩
        refine au ?_
        refine Sim.kl hS rfl ?_
        refine au ?_
        refine Sim.kl hS (ys := List.map GTick.av [r29.2.2]) rfl ?_
        refine au ?_
        first | (refine Sim.goB (may_map (by intro _; rfl) hg272 _) ?_) | skip
        refine au ?_
        first | (refine Sim.goB (okE_map (by intro _; exact ⟨rfl, rfl, rfl⟩) _) ?_) | skip
        refine au ?_
        first | refine Sim.ite (by simp) (fun _ => ?_) (fun _ => Sim.no) | refine Sim.guard (fun _ => ?_)
        refine au ?_
        refine Sim.kl hS (ys := List.map GTick.av (r29.2.1.f_s.Ticks ++ [r29.2.2])) (by simp) ?_
        refine au ?_
        exact Sim.ret ⟨_, rfl, ⟨_, _, _, _, _, rfl, hg271, Mg.own⟩⟩
       ·refine au ?_
        refine Sim.kl hS rfl ?_
        refine au ?_
        refine Sim.kl hS (ys := List.map GTick.av [r28.2.2]) rfl ?_
        refine au ?_
        first | (refine Sim.goB (may_map (by intro _; rfl) hg261 _) ?_) | skip
        refine au ?_
        first | (refine Sim.goB (okE_map (by intro _; exact ⟨rfl, rfl, rfl⟩) _) ?_) | skip
        refine au ?_
        first | refine Sim.ite (by simp) (fun _ => ?_) (fun _ => Sim.no) | refine Sim.guard (fun _ => ?_)
        refine au ?_
        refine Sim.kl hS (ys := List.map GTick.av (r28.2.1.f_s.Ticks ++ [r28.2.2])) (by simp) ?_
        refine au ?_
        exact Sim.ret ⟨_, rfl, ⟨_, _, _, _, _, rfl, hg260, Mg.own⟩⟩
      ·refine au (.ite Iff.rfl (fun hc22 => ?_) fun hc22 => ?_)
       ·refine au ?_
        refine Sim.callR hR (lr_ev_v4_sim _ _ _ _ g6 g7 g8 g9 hg9 g10 hg10 .full .full .full Mg.full .full Mg.full .full Mg.full .full Mg.full) ?_
        rintro r30 q ⟨g279, g280, g281, g282, g283, g284, g285, g286, g287, g288, g289, rfl, hg282, hg283, hg286, hg287, hg288, hg289⟩
        refine au ?_
        refine Sim.kl hS rfl ?_
        refine au ?_
        refine Sim.kl hS (ys := List.map GTick.av [r30.2.2]) rfl ?_
        refine au ?_
        first | (refine Sim.goB (may_map (by intro _; rfl) hg283 _) ?_) | skip
        refine au ?_
        first | (refine Sim.goB (okE_map (by intro _; exact ⟨rfl, rfl, rfl⟩) _) ?_) | skip
        refine au ?_
        first | refine Sim.ite (by simp) (fun _ => ?_) (fun _ => Sim.no) | refine Sim.guard (fun _ => ?_)
        refine au ?_
        refine Sim.kl hS (ys := List.map GTick.av (r30.2.1.f_s.Ticks ++ [r30.2.2])) (by simp) ?_
        refine au ?_
        exact Sim.ret ⟨_, rfl, ⟨_, _, _, _, _, rfl, hg282, Mg.own⟩⟩
       ·refine au ?_
        refine Sim.kl hS rfl ?_
        refine au ?_
        refine Sim.kl hS (ys := List.map GTick.av [(GTick.mk ([] : List Int) ([] : List Int) ([] : List GSend) ([] : List GBurst) ([] : List GSend) ([] : List GWrite))]) rfl ?_
        refine au ?_
        first | (refine Sim.goB (may_map (by intro _; rfl) hg10 _) ?_) | skip
        refine au ?_
        first | (refine Sim.goB (okE_map (by intro _; exact ⟨rfl, rfl, rfl⟩) _) ?_) | skip
        refine au ?_
        first | refine Sim.ite (by simp) (fun _ => ?_) (fun _ => Sim.no) | refine Sim.guard (fun _ => ?_)
        refine au ?_
        refine Sim.kl hS (ys := List.map GTick.av (r0.2.f_s.Ticks ++ [(GTick.mk ([] : List Int) ([] : List Int) ([] : List GSend) ([] : List GBurst) ([] : List GSend) ([] : List GWrite))])) (by simp) ?_
        refine au ?_
        exact Sim.ret ⟨_, rfl, ⟨_, _, _, _, _, rfl, hg9, Mg.own⟩⟩
noncomputable def lr_script_0_step (o2 : Rdr) : Option ((Rdr) ⊕ (Bool × Rdr)) :=
 (lr_kind o2).bind fun r4 =>
 if r4.1 = ([116, 105, 99, 107] : List UInt8) then
  (lr_tick r4.2).bind fun r5 =>
  if (!r5.1) = true then
   some (.inr (false, r5.2))
  else
   some (.inl r5.2)
 else
  (lr_kind r4.2).bind fun r6 =>
  if r6.1 ≠ ([101, 110, 100] : List UInt8) then
   some (.inr (false, r6.2))
  else
   (idx? r6.2.f_lines r6.2.f_at).bind fun z0 =>
   if z0 ≠ ([101, 110, 100] : List UInt8) then
    some (.inr (false, r6.2))
   else
    some (.inr ((decide ((wr (r6.2.f_at + 1)) = (List.length r6.2.f_lines : Int))), (Rdr.mk r6.2.f_lines (wr (r6.2.f_at + 1)) r6.2.f_s)))
noncomputable def lr_script_0 (o2 : Rdr) : Option (Bool × Rdr) :=
 loopO (fun s : Rdr => lr_script_0_step s) o2
@[reducible] def lr_script_0_st (o2 : Rdr) (g21 : Gr) (g22 : Gr) (g23 : Gr) (g24 : Gr) (g25 : Gr) : PF.St := ⟨[(0, .ptr 0 0)], [(0, ⟨true, (Rc o2 g21 g22 g23 g24 g25)⟩)]⟩
def lr_script_0_rel (r : (Bool × Rdr)) (q : ES) : Prop := (fun r (q : ES) => ∃ g0', ∃ g1', ∃ g2', ∃ g3', ∃ g4', q = (Ex.ret, ⟨[(2, .bool r.1)], [(0, ⟨true, [.lst g0' (List.map sav r.2.f_lines), iav r.2.f_at, iav r.2.f_s.Conf.N, iav r.2.f_s.Conf.F, iav r.2.f_s.Conf.D, iav r.2.f_s.Conf.Period, iav r.2.f_s.Conf.Rate, iav r.2.f_s.Conf.Drift, iav r.2.f_s.Conf.Offset, iav r.2.f_s.Conf.Slot, iav r.2.f_s.Conf.Mod, iav r.2.f_s.Conf.Fresh, .lst g1' (List.map iav r.2.f_s.Conf.Table), .lst g2' (List.map iav r.2.f_s.Faulty), .lst g3' (List.map sav r.2.f_s.Images), .lst g4' (List.map GTick.av r.2.f_s.Ticks)]⟩)]⟩) ∧ Mg 1 g3' ∧ Mg 6 g4') r q
def lr_script_0_inv (v : Rdr) (e : PF.St) : Prop := ∃ g21, ∃ g22, ∃ g23, ∃ g24, ∃ g25, e = lr_script_0_st v g21 g22 g23 g24 g25 ∧ Mg 1 g24 ∧ Mg 6 g25
theorem lr_script_0_sim (o2 : Rdr) (g21 : Gr) (g22 : Gr) (g23 : Gr) (g24 : Gr) (hg24 : Mg 1 g24) (g25 : Gr) (hg25 : Mg 6 g25) (s : PF.St) (hk : keep [0] [] s = some (lr_script_0_st o2 g21 g22 g23 g24 g25)) : Sim (lr_script_0 o2) (Gv (lr_script_0_rel)) (LM.loop ([0], [], [2], B_lr_script_0) s) := by
 refine sim_loop M XE (lr_script_0_inv) (lr_script_0_rel) ?_ _ _ _ hk ⟨g21, g22, g23, g24, g25, rfl, hg24, hg25⟩
 clear hk hg24 hg25
 rintro S hS hw hw8 R hR o2 env hp ⟨g21, g22, g23, g24, g25, he, hg24, hg25⟩
 change (⟨env, hp⟩ : PF.St) = lr_script_0_st o2 g21 g22 g23 g24 g25 at he
 cases he
 show Sim (lr_script_0_step o2) _ _
 unfold lr_script_0_step
 simp only [hw]
 refine au ?_
 refine Sim.callR hR (lr_kind_sim _ g21 g22 g23 g24 hg24 g25 hg25) ?_
 rintro r4 q ⟨g26, g27, g28, g29, g30, rfl, hg29, hg30⟩
 refine au (.ite Iff.rfl (fun hc4 => ?_) fun hc4 => ?_)
 ·refine au ?_
  refine Sim.callR hR (lr_tick_sim _ g26 g27 g28 g29 hg29 g30 hg30) ?_
  rintro r5 q ⟨g31, g32, g33, g34, g35, rfl, hg34, hg35⟩
  refine au (.iteB (fun hc5 => ?_) fun hc5 => ?_)
  ·refine au ?_
   exact Sim.ret ⟨_, rfl, ⟨_, _, _, _, _, rfl, hg34, hg35⟩⟩
  ·refine au ?_
   exact Sim.ret ⟨_, _, rfl, rfl, ⟨_, _, _, _, _, rfl, hg34, hg35⟩⟩
 ·refine au ?_
  refine Sim.callR hR (lr_kind_sim _ g26 g27 g28 g29 hg29 g30 hg30) ?_
  rintro r6 q ⟨g36, g37, g38, g39, g40, rfl, hg39, hg40⟩
  refine au (.ite Iff.rfl (fun hc6 => ?_) fun hc6 => ?_)
  ·refine au ?_
   exact Sim.ret ⟨_, rfl, ⟨_, _, _, _, _, rfl, hg39, hg40⟩⟩
  ·refine au ?_
   refine Sim.ix (by simp) (fun z0 hz0 => ?_)
   refine au ?_
   refine Sim.go (idx_map _ hz0) ?_
   refine au (.ite Iff.rfl (fun hc7 => ?_) fun hc7 => ?_)
   ·refine au ?_
    exact Sim.ret ⟨_, rfl, ⟨_, _, _, _, _, rfl, hg39, hg40⟩⟩
   ·refine au ?_
    refine Sim.ki hS (m := (List.length r6.2.f_lines : Int)) (by simp) ?_
    refine au ?_
    exact Sim.ret ⟨_, rfl, ⟨_, _, _, _, _, rfl, hg39, hg40⟩⟩
noncomputable def lr_script (o0 : Rdr) : Option (Bool × Rdr) :=
 (lr_head o0).bind fun r0 =>
 if (!r0.1) = true then
  some (false, r0.2)
 else
  (lr_kind r0.2).bind fun r2 =>
  if r2.1 = ([116, 105, 99, 107] : List UInt8) then
   (lr_tick r2.2).bind fun r3 =>
   if (!r3.1) = true then
    some (false, r3.2)
   else
    (lr_script_0 r3.2).bind fun r7 =>
    some (r7.1, r7.2)
  else
   (lr_kind r2.2).bind fun r8 =>
   if r8.1 ≠ ([101, 110, 100] : List UInt8) then
    some (false, r8.2)
   else
    (idx? r8.2.f_lines r8.2.f_at).bind fun z2 =>
    if z2 ≠ ([101, 110, 100] : List UInt8) then
     some (false, r8.2)
    else
     some ((decide ((wr (r8.2.f_at + 1)) = (List.length r8.2.f_lines : Int))), (Rdr.mk r8.2.f_lines (wr (r8.2.f_at + 1)) r8.2.f_s))
theorem lr_script_sim (o0 : Rdr) (g0 : Gr) (g2 : Gr) (g3 : Gr) (g4 : Gr) (hg4 : Mg 1 g4) (g5 : Gr) (hg5 : Mg 6 g5) : Sim (lr_script o0) (Gv fun r q => ∃ g0, ∃ g1, ∃ g2, ∃ g3, ∃ g4, q = (.bool r.1, [⟨true, (Rc r.2 g0 g1 g2 g3 g4)⟩]) ∧ Mg 1 g3 ∧ Mg 6 g4) (LM.call n_lr_script [.ptr 0 0] [⟨true, (Rc o0 g0 g2 g3 g4 g5)⟩]) := by
 unfold lr_script
 refine sim_evR M XE rfl rfl fun S hS hw hw8 R hR => ?_
 simp only [hw]
 refine au ?_
 refine Sim.callR hR (lr_head_sim _ g0 g2 g3 g4 hg4 g5 hg5) ?_
 rintro r0 q ⟨g6, g7, g8, g9, g10, rfl, hg9, hg10⟩
 refine au (.iteB (fun hc => ?_) fun hc => ?_)
 ·refine au ?_
  exact Sim.ret ⟨_, rfl, ⟨_, _, _, _, _, rfl, hg9, hg10⟩⟩
 ·refine au ?_
  refine Sim.callR hR (lr_kind_sim _ g6 g7 g8 g9 hg9 g10 hg10) ?_
  rintro r2 q ⟨g11, g12, g13, g14, g15, rfl, hg14, hg15⟩
  refine au (.ite Iff.rfl (fun hc2 => ?_) fun hc2 => ?_)
  ·refine au ?_
   refine Sim.callR hR (lr_tick_sim _ g11 g12 g13 g14 hg14 g15 hg15) ?_
   rintro r3 q ⟨g16, g17, g18, g19, g20, rfl, hg19, hg20⟩
   refine au (.iteB (fun hc3 => ?_) fun hc3 => ?_)
   ·refine au ?_
    exact Sim.ret ⟨_, rfl, ⟨_, _, _, _, _, rfl, hg19, hg20⟩⟩
   ·refine au ?_
    refine Sim.callL hR (lr_script_0_sim r3.2 g16 g17 g18 g19 hg19 g20 hg20 _ rfl) ?_
    rintro r7 q ⟨g41, g42, g43, g44, g45, rfl, hg44, hg45⟩
    refine au ?_
    exact Sim.ret ⟨_, rfl, ⟨_, _, _, _, _, rfl, hg44, hg45⟩⟩
  ·refine au ?_
   refine Sim.callR hR (lr_kind_sim _ g11 g12 g13 g14 hg14 g15 hg15) ?_
   rintro r8 q ⟨g46, g47, g48, g49, g50, rfl, hg49, hg50⟩
   refine au (.ite Iff.rfl (fun hc8 => ?_) fun hc8 => ?_)
   ·refine au ?_
    exact Sim.ret ⟨_, rfl, ⟨_, _, _, _, _, rfl, hg49, hg50⟩⟩
   ·refine au ?_
    refine Sim.ix (by simp) (fun z2 hz2 => ?_)
    refine au ?_
    refine Sim.go (idx_map _ hz2) ?_
    refine au (.ite Iff.rfl (fun hc9 => ?_) fun hc9 => ?_)
    ·refine au ?_
     exact Sim.ret ⟨_, rfl, ⟨_, _, _, _, _, rfl, hg49, hg50⟩⟩
    ·refine au ?_
     refine Sim.ki hS (m := (List.length r8.2.f_lines : Int)) (by simp) ?_
     refine au ?_
     exact Sim.ret ⟨_, rfl, ⟨_, _, _, _, _, rfl, hg49, hg50⟩⟩
noncomputable def lines_Read (text : List UInt8) : Option (GScript × Int × Int) :=
 (strings_Split text ([10] : List UInt8)).bind fun r0 =>
 (idx? r0 (wr ((List.length r0 : Int) - 1))).bind fun z0 =>
 if 0 ≤ (wr ((List.length r0 : Int) - 1)) ∧ (wr ((List.length r0 : Int) - 1)) ≤ ((List.length r0) : Nat) then
  (lr_script (Rdr.mk (List.take (Int.toNat (wr ((List.length r0 : Int) - 1))) r0) 0 (GScript.mk (GConf.mk 0 0 0 0 0 0 0 0 0 0 ([] : List Int)) ([] : List Int) ([] : List (List UInt8)) ([] : List GTick)))).bind fun r2 =>
  if (!r2.1) = true then
   some ((GScript.mk (GConf.mk 0 0 0 0 0 0 0 0 0 0 ([] : List Int)) ([] : List Int) ([] : List (List UInt8)) ([] : List GTick)), (wr (r2.2.f_at + 1)), 3)
  else
   if z0 ≠ ([] : List UInt8) then
    some ((GScript.mk (GConf.mk 0 0 0 0 0 0 0 0 0 0 ([] : List Int)) ([] : List Int) ([] : List (List UInt8)) ([] : List GTick)), (wr (r2.2.f_at + 1)), 3)
   else
    (script_Right r2.2.f_s).bind fun r3 =>
    if r3 ≠ 0 then
     some ((GScript.mk (GConf.mk 0 0 0 0 0 0 0 0 0 0 ([] : List Int)) ([] : List Int) ([] : List (List UInt8)) ([] : List GTick)), 0, r3)
    else
     some (r2.2.f_s, 0, 0)
 else none
theorem lines_Read_sim (text : List UInt8) : Sim (lines_Read text) (Gv fun r q => q = (.tup [GScript.av r.1, iav r.2.1, iav r.2.2], [])) (LM.call n_lines_Read [.str text] []) := by
 unfold lines_Read
 refine sim_evR M XE rfl rfl fun S hS hw hw8 R hR => ?_
 simp only [hw]
 refine au (cE hR (strings_Split_sim _ _) fun r0 => ?_)
 refine au ?_
 refine Sim.ki hS (m := (List.length r0 : Int)) (by simp) ?_
 refine au ?_
 refine Sim.ix (by simp) (fun z0 hz0 => ?_)
 refine au ?_
 refine Sim.go (idx_map _ hz0) ?_
 refine au ?_
 refine Sim.ki hS (m := (List.length r0 : Int)) (by simp) ?_
 refine au ?_
 first | (refine Sim.goB (headE_map (by intro _; rfl) _) ?_) | skip
 refine au ?_
 refine Sim.kn hS (m := (List.length r0)) (by simp) ?_
 refine au ?_
 first | refine Sim.ite Iff.rfl (fun _ => ?_) (fun _ => Sim.no) | refine Sim.guard (fun _ => ?_)
 refine au ?_
 refine Sim.kl hS (ys := List.map sav (List.take (Int.toNat (S.wr ((List.length r0 : Int) - 1))) r0)) (by simp only [PF.cut, List.map_drop, List.map_take]) ?_
 refine au ?_
 refine Sim.callR hR (lr_script_sim _ .no .full .full .full Mg.full .full Mg.full) ?_
 rintro r2 q ⟨g0, g2, g3, g4, g5, rfl, hg4, hg5⟩
 refine au (.iteB (fun hc => ?_) fun hc => ?_)
 ·exact au (.ret ⟨_, rfl, rfl⟩)
 ·refine au (.ite Iff.rfl (fun hc2 => ?_) fun hc2 => ?_)
  ·exact au (.ret ⟨_, rfl, rfl⟩)
  ·refine au (cE hR (script_Right_sim _) fun r3 => ?_)
   refine au (.ite Iff.rfl (fun hc3 => ?_) fun hc3 => ?_)
   ·exact au (.ret ⟨_, rfl, rfl⟩)
   ·exact au (.ret ⟨_, rfl, rfl⟩)
noncomputable def r33_ints_0_step (a2 : List Int) (b2 : List Int) (i0 : Int) : Option ((Int) ⊕ ((Bool) ⊕ (Unit))) :=
 if i0 < (List.length a2 : Int) then
  (idx? a2 i0).bind fun z0 =>
  (idx? b2 i0).bind fun z2 =>
  if z0 ≠ z2 then
   some (.inr (.inl false))
  else
   some (.inl (wr (i0 + 1)))
 else
  some (.inr (.inr ()))
noncomputable def r33_ints_0 (a2 : List Int) (b2 : List Int) (i0 : Int) : Option ((Bool) ⊕ (Unit)) :=
 loopO (fun s : Int => r33_ints_0_step a2 b2 s) i0
@[reducible] def r33_ints_0_st (a2 : List Int) (b2 : List Int) (i0 : Int) : PF.St := ⟨[(0, lav iav a2), (1, lav iav b2), (5, iav i0)], []⟩
def r33_ints_0_rel (a2 : List Int) (b2 : List Int) (r : ((Bool) ⊕ (Unit))) (q : ES) : Prop := (fun r (q : ES) => Sum.elim (fun r => (fun r (q : ES) => q = (Ex.ret, ⟨[(4, .bool r)], []⟩)) r q) (fun r => (fun r (q : ES) => q = ((.exit 0), ⟨[(4, .undef)], []⟩)) r q) r) r q
def r33_ints_0_inv (a2 : List Int) (b2 : List Int) (v : Int) (e : PF.St) : Prop := e = r33_ints_0_st a2 b2 v
theorem r33_ints_0_sim (a2 : List Int) (b2 : List Int) (i0 : Int) (s : PF.St) (hk : keep [0, 1, 5] [] s = some (r33_ints_0_st a2 b2 i0)) : Sim (r33_ints_0 a2 b2 i0) (Gv (r33_ints_0_rel a2 b2)) (LM.loop ([0, 1, 5], [], [4], B_r33_ints_0) s) := by
 refine sim_loop M XE (r33_ints_0_inv a2 b2) (r33_ints_0_rel a2 b2) ?_ _ _ _ hk rfl
 clear hk
 rintro S hS hw hw8 R hR i0 env hp he
 change (⟨env, hp⟩ : PF.St) = r33_ints_0_st a2 b2 i0 at he
 cases he
 show Sim (r33_ints_0_step a2 b2 i0) _ _
 unfold r33_ints_0_step
 simp only [hw]
 refine au ?_
 refine Sim.ki hS (m := (List.length a2 : Int)) (by simp) ?_
 refine au (.ite Iff.rfl (fun hc2 => ?_) fun hc2 => ?_)
 ·refine au ?_
  refine Sim.ix (by simp) (fun z0 hz0 => ?_)
  refine au ?_
  refine Sim.go (idx_map _ hz0) ?_
  refine au ?_
  refine Sim.ix (by simp) (fun z2 hz2 => ?_)
  refine au ?_
  refine Sim.go (idx_map _ hz2) ?_
  refine au (.ite Iff.rfl (fun hc3 => ?_) fun hc3 => ?_)
  ·exact au (.ret ⟨_, rfl, rfl⟩)
  ·refine au ?_
   exact Sim.ret ⟨_, _, rfl, rfl, rfl⟩
 ·exact au (.ret ⟨_, rfl, rfl⟩)
noncomputable def r33_ints (a0 : List Int) (b0 : List Int) : Option Bool :=
 if (List.length a0 : Int) ≠ (List.length b0 : Int) then
  some false
 else
  (r33_ints_0 a0 b0 0).bind fun r0 =>
  Sum.elim
   (fun r2 =>
     some r2)
   (fun r3 =>
     some true)
   r0
theorem r33_ints_sim (a0 : List Int) (b0 : List Int) : Sim (r33_ints a0 b0) (Gv fun r q => q = (.bool r, [])) (LM.call n_r33_ints [lav iav a0, lav iav b0] []) := by
 unfold r33_ints
 refine sim_evR M XE rfl rfl fun S hS hw hw8 R hR => ?_
 refine au ?_
 refine Sim.ki hS (m := (List.length a0 : Int)) (by simp) ?_
 refine au ?_
 refine Sim.ki hS (m := (List.length b0 : Int)) (by simp) ?_
 refine au (.ite Iff.rfl (fun hc => ?_) fun hc => ?_)
 ·exact au (.ret ⟨_, rfl, rfl⟩)
 ·refine au ?_
  refine Sim.callL hR (r33_ints_0_sim a0 b0 0 _ rfl) ?_
  rintro r0 q hr
  rcases r0 with r2 | r3
  ·cases hr
   exact au (.ret ⟨_, rfl, rfl⟩)
  ·cases hr
   exact au (.ret ⟨_, rfl, rfl⟩)
noncomputable def r33_sends_0_step (a2 : List GSend) (b2 : List GSend) (i0 : Int) : Option ((Int) ⊕ ((Bool) ⊕ (Unit))) :=
 if i0 < (List.length a2 : Int) then
  (idx? a2 i0).bind fun z0 =>
  (idx? b2 i0).bind fun z2 =>
  if (!(decide (z0.From = z2.From) && (decide (z0.To = z2.To) && (decide (z0.Delay = z2.Delay) && (decide (z0.Bytes = z2.Bytes) && true))))) = true then
   some (.inr (.inl false))
  else
   some (.inl (wr (i0 + 1)))
 else
  some (.inr (.inr ()))
noncomputable def r33_sends_0 (a2 : List GSend) (b2 : List GSend) (i0 : Int) : Option ((Bool) ⊕ (Unit)) :=
 loopO (fun s : Int => r33_sends_0_step a2 b2 s) i0
@[reducible] def r33_sends_0_st (a2 : List GSend) (b2 : List GSend) (i0 : Int) : PF.St := ⟨[(0, lav GSend.av a2), (1, lav GSend.av b2), (5, iav i0)], []⟩
def r33_sends_0_rel (a2 : List GSend) (b2 : List GSend) (r : ((Bool) ⊕ (Unit))) (q : ES) : Prop := (fun r (q : ES) => Sum.elim (fun r => (fun r (q : ES) => q = (Ex.ret, ⟨[(4, .bool r)], []⟩)) r q) (fun r => (fun r (q : ES) => q = ((.exit 0), ⟨[(4, .undef)], []⟩)) r q) r) r q
def r33_sends_0_inv (a2 : List GSend) (b2 : List GSend) (v : Int) (e : PF.St) : Prop := e = r33_sends_0_st a2 b2 v
theorem r33_sends_0_sim (a2 : List GSend) (b2 : List GSend) (i0 : Int) (s : PF.St) (hk : keep [0, 1, 5] [] s = some (r33_sends_0_st a2 b2 i0)) : Sim (r33_sends_0 a2 b2 i0) (Gv (r33_sends_0_rel a2 b2)) (LM.loop ([0, 1, 5], [], [4], B_r33_sends_0) s) := by
 refine sim_loop M XE (r33_sends_0_inv a2 b2) (r33_sends_0_rel a2 b2) ?_ _ _ _ hk rfl
 clear hk
 rintro S hS hw hw8 R hR i0 env hp he
 change (⟨env, hp⟩ : PF.St) = r33_sends_0_st a2 b2 i0 at he
 cases he
 show Sim (r33_sends_0_step a2 b2 i0) _ _
 unfold r33_sends_0_step
 simp only [hw]
 refine au ?_
 refine Sim.ki hS (m := (List.length a2 : Int)) (by simp) ?_
 refine au (.ite Iff.rfl (fun hc2 => ?_) fun hc2 => ?_)
 ·refine au ?_
  refine Sim.ix (by simp) (fun z0 hz0 => ?_)
  refine au ?_
  refine Sim.go (idx_map _ hz0) ?_
  refine au ?_
  refine Sim.ix (by simp) (fun z2 hz2 => ?_)
  refine au ?_
  refine Sim.go (idx_map _ hz2) ?_
  refine au (.iteB (fun hc3 => ?_) fun hc3 => ?_)
  ·exact au (.ret ⟨_, rfl, rfl⟩)
  ·refine au ?_
   exact Sim.ret ⟨_, _, rfl, rfl, rfl⟩
 ·exact au (.ret ⟨_, rfl, rfl⟩)
noncomputable def r33_sends (a0 : List GSend) (b0 : List GSend) : Option Bool :=
 if (List.length a0 : Int) ≠ (List.length b0 : Int) then
  some false
 else
  (r33_sends_0 a0 b0 0).bind fun r0 =>
  Sum.elim
   (fun r2 =>
     some r2)
   (fun r3 =>
     some true)
   r0
theorem r33_sends_sim (a0 : List GSend) (b0 : List GSend) : Sim (r33_sends a0 b0) (Gv fun r q => q = (.bool r, [])) (LM.call n_r33_sends [lav GSend.av a0, lav GSend.av b0] []) := by
 unfold r33_sends
 refine sim_evR M XE rfl rfl fun S hS hw hw8 R hR => ?_
 refine au ?_
 refine Sim.ki hS (m := (List.length a0 : Int)) (by simp) ?_
 refine au ?_
 refine Sim.ki hS (m := (List.length b0 : Int)) (by simp) ?_
 refine au (.ite Iff.rfl (fun hc => ?_) fun hc => ?_)
 ·exact au (.ret ⟨_, rfl, rfl⟩)
 ·refine au ?_
  refine Sim.callL hR (r33_sends_0_sim a0 b0 0 _ rfl) ?_
  rintro r0 q hr
  rcases r0 with r2 | r3
  ·cases hr
   exact au (.ret ⟨_, rfl, rfl⟩)
  ·cases hr
   exact au (.ret ⟨_, rfl, rfl⟩)
noncomputable def r33_same_0_step (s0 : GTick) (t0 : GTick) (t2 : Int) : Option ((Int) ⊕ ((Bool) ⊕ (Unit))) :=
 if t2 < (List.length s0.Bursts : Int) then
  (idx? s0.Bursts t2).bind fun z0 =>
  (idx? t0.Bursts t2).bind fun z2 =>
  if (!(decide (z0.Node = z2.Node) && (decide (z0.Image = z2.Image) && true))) = true then
   some (.inr (.inl false))
  else
   some (.inl (wr (t2 + 1)))
 else
  some (.inr (.inr ()))
noncomputable def r33_same_0 (s0 : GTick) (t0 : GTick) (t2 : Int) : Option ((Bool) ⊕ (Unit)) :=
 loopO (fun s : Int => r33_same_0_step s0 t0 s) t2
@[reducible] def r33_same_0_st (s0 : GTick) (t0 : GTick) (t2 : Int) : PF.St := ⟨[(2, .ept (GTick.cells s0) 0), (3, .ept (GTick.cells t0) 0), (5, iav t2)], []⟩
def r33_same_0_rel (s0 : GTick) (t0 : GTick) (r : ((Bool) ⊕ (Unit))) (q : ES) : Prop := (fun r (q : ES) => Sum.elim (fun r => (fun r (q : ES) => q = (Ex.ret, ⟨[(2, .ept (GTick.cells s0) 0), (3, .ept (GTick.cells t0) 0), (4, .bool r)], []⟩)) r q) (fun r => (fun r (q : ES) => q = ((.exit 0), ⟨[(2, .ept (GTick.cells s0) 0), (3, .ept (GTick.cells t0) 0), (4, .undef)], []⟩)) r q) r) r q
def r33_same_0_inv (s0 : GTick) (t0 : GTick) (v : Int) (e : PF.St) : Prop := e = r33_same_0_st s0 t0 v
theorem r33_same_0_sim (s0 : GTick) (t0 : GTick) (t2 : Int) (s : PF.St) (hk : keep [2, 3, 5] [] s = some (r33_same_0_st s0 t0 t2)) : Sim (r33_same_0 s0 t0 t2) (Gv (r33_same_0_rel s0 t0)) (LM.loop ([2, 3, 5], [], [2, 3, 4], B_r33_same_0) s) := by
 refine sim_loop M XE (r33_same_0_inv s0 t0) (r33_same_0_rel s0 t0) ?_ _ _ _ hk rfl
 clear hk
 rintro S hS hw hw8 R hR t2 env hp he
 change (⟨env, hp⟩ : PF.St) = r33_same_0_st s0 t0 t2 at he
 cases he
 show Sim (r33_same_0_step s0 t0 t2) _ _
 unfold r33_same_0_step
 simp only [hw]
 refine au ?_
 refine Sim.ki hS (m := (List.length s0.Bursts : Int)) (by simp) ?_
 refine au (.ite Iff.rfl (fun hc7 => ?_) fun hc7 => ?_)
 ·refine au ?_
  refine Sim.ix (by simp) (fun z0 hz0 => ?_)
  refine au ?_
  refine Sim.go (idx_map _ hz0) ?_
  refine au ?_
  refine Sim.ix (by simp) (fun z2 hz2 => ?_)
  refine au ?_
  refine Sim.go (idx_map _ hz2) ?_
  refine au (.iteB (fun hc8 => ?_) fun hc8 => ?_)
  ·exact au (.ret ⟨_, rfl, rfl⟩)
  ·refine au ?_
   exact Sim.ret ⟨_, _, rfl, rfl, rfl⟩
 ·exact au (.ret ⟨_, rfl, rfl⟩)
noncomputable def r33_same_1_step (s2 : GTick) (t3 : GTick) (o0 : Int) : Option ((Int) ⊕ ((Bool) ⊕ (Unit))) :=
 if o0 < (List.length s2.Writes : Int) then
  (idx? s2.Writes o0).bind fun z3 =>
  (idx? t3.Writes o0).bind fun z4 =>
  if (!(decide (z3.Node = z4.Node) && (decide (z3.Text = z4.Text) && true))) = true then
   some (.inr (.inl false))
  else
   some (.inl (wr (o0 + 1)))
 else
  some (.inr (.inr ()))
noncomputable def r33_same_1 (s2 : GTick) (t3 : GTick) (o0 : Int) : Option ((Bool) ⊕ (Unit)) :=
 loopO (fun s : Int => r33_same_1_step s2 t3 s) o0
@[reducible] def r33_same_1_st (s2 : GTick) (t3 : GTick) (o0 : Int) : PF.St := ⟨[(2, .ept (GTick.cells s2) 0), (3, .ept (GTick.cells t3) 0), (6, iav o0)], []⟩
def r33_same_1_rel (s2 : GTick) (t3 : GTick) (r : ((Bool) ⊕ (Unit))) (q : ES) : Prop := (fun r (q : ES) => Sum.elim (fun r => (fun r (q : ES) => q = (Ex.ret, ⟨[(4, .bool r)], []⟩)) r q) (fun r => (fun r (q : ES) => q = ((.exit 2), ⟨[(4, .undef)], []⟩)) r q) r) r q
def r33_same_1_inv (s2 : GTick) (t3 : GTick) (v : Int) (e : PF.St) : Prop := e = r33_same_1_st s2 t3 v
theorem r33_same_1_sim (s2 : GTick) (t3 : GTick) (o0 : Int) (s : PF.St) (hk : keep [2, 3, 6] [] s = some (r33_same_1_st s2 t3 o0)) : Sim (r33_same_1 s2 t3 o0) (Gv (r33_same_1_rel s2 t3)) (LM.loop ([2, 3, 6], [], [4], B_r33_same_1) s) := by
 refine sim_loop M XE (r33_same_1_inv s2 t3) (r33_same_1_rel s2 t3) ?_ _ _ _ hk rfl
 clear hk
 rintro S hS hw hw8 R hR o0 env hp he
 change (⟨env, hp⟩ : PF.St) = r33_same_1_st s2 t3 o0 at he
 cases he
 show Sim (r33_same_1_step s2 t3 o0) _ _
 unfold r33_same_1_step
 simp only [hw]
 refine au ?_
 refine Sim.ki hS (m := (List.length s2.Writes : Int)) (by simp) ?_
 refine au (.ite Iff.rfl (fun hc9 => ?_) fun hc9 => ?_)
 ·refine au ?_
  refine Sim.ix (by simp) (fun z3 hz3 => ?_)
  refine au ?_
  refine Sim.go (idx_map _ hz3) ?_
  refine au ?_
  refine Sim.ix (by simp) (fun z4 hz4 => ?_)
  refine au ?_
  refine Sim.go (idx_map _ hz4) ?_
  refine au (.iteB (fun hc10 => ?_) fun hc10 => ?_)
  ·exact au (.ret ⟨_, rfl, rfl⟩)
  ·refine au ?_
   exact Sim.ret ⟨_, _, rfl, rfl, rfl⟩
 ·exact au (.ret ⟨_, rfl, rfl⟩)
noncomputable def r33_same (L0 : GTick) (i0 : GTick) : Option Bool :=
 (r33_ints L0.Units i0.Units).bind fun r0 =>
 if (!r0) = true then
  some false
 else
  (r33_ints L0.Delays i0.Delays).bind fun r2 =>
  if (!r2) = true then
   some false
  else
   (r33_sends L0.Sends i0.Sends).bind fun r3 =>
   if (!r3) = true then
    some false
   else
    (r33_sends L0.Strays i0.Strays).bind fun r4 =>
    if (!r4) = true then
     some false
    else
     if (List.length L0.Bursts : Int) ≠ (List.length i0.Bursts : Int) then
      some false
     else
      if (List.length L0.Writes : Int) ≠ (List.length i0.Writes : Int) then
       some false
      else
       (r33_same_0 L0 i0 0).bind fun r5 =>
       Sum.elim
        (fun r6 =>
          some r6)
        (fun r7 =>
          (r33_same_1 L0 i0 0).bind fun r8 =>
          Sum.elim
           (fun r9 =>
             some r9)
           (fun r10 =>
             some true)
           r8)
        r5
theorem r33_same_sim (L0 : GTick) (i0 : GTick) : Sim (r33_same L0 i0) (Gv fun r q => q = (.bool r, [])) (LM.call n_r33_same [GTick.av L0, GTick.av i0] []) := by
 unfold r33_same
 refine sim_evR M XE rfl rfl fun S hS hw hw8 R hR => ?_
 refine au (cE hR (r33_ints_sim _ _) fun r0 => ?_)
 refine au (.iteB (fun hc => ?_) fun hc => ?_)
 ·exact au (.ret ⟨_, rfl, rfl⟩)
 ·refine au (cE hR (r33_ints_sim _ _) fun r2 => ?_)
  refine au (.iteB (fun hc2 => ?_) fun hc2 => ?_)
  ·exact au (.ret ⟨_, rfl, rfl⟩)
  ·refine au (cE hR (r33_sends_sim _ _) fun r3 => ?_)
   refine au (.iteB (fun hc3 => ?_) fun hc3 => ?_)
   ·exact au (.ret ⟨_, rfl, rfl⟩)
   ·refine au (cE hR (r33_sends_sim _ _) fun r4 => ?_)
    refine au (.iteB (fun hc4 => ?_) fun hc4 => ?_)
    ·exact au (.ret ⟨_, rfl, rfl⟩)
    ·refine au ?_
     refine Sim.ki hS (m := (List.length L0.Bursts : Int)) (by simp) ?_
     refine au ?_
     refine Sim.ki hS (m := (List.length i0.Bursts : Int)) (by simp) ?_
     refine au (.ite Iff.rfl (fun hc5 => ?_) fun hc5 => ?_)
     ·exact au (.ret ⟨_, rfl, rfl⟩)
     ·refine au ?_
      refine Sim.ki hS (m := (List.length L0.Writes : Int)) (by simp) ?_
      refine au ?_
      refine Sim.ki hS (m := (List.length i0.Writes : Int)) (by simp) ?_
      refine au (.ite Iff.rfl (fun hc6 => ?_) fun hc6 => ?_)
      ·exact au (.ret ⟨_, rfl, rfl⟩)
      ·refine au ?_
       refine Sim.callL hR (r33_same_0_sim L0 i0 0 _ rfl) ?_
       rintro r5 q hr
       rcases r5 with r6 | r7
       ·cases hr
        exact au (.ret ⟨_, rfl, rfl⟩)
       ·cases hr
        refine au ?_
        refine Sim.callL hR (r33_same_1_sim L0 i0 0 _ rfl) ?_
        rintro r8 q hr
        rcases r8 with r9 | r10
        ·cases hr
         exact au (.ret ⟨_, rfl, rfl⟩)
        ·cases hr
         exact au (.ret ⟨_, rfl, rfl⟩)
noncomputable def r33_Same_0_step (s0 : GScript) (t0 : GScript) (o0 : GConf) (t2 : GConf) (A0 : Int) : Option ((Int) ⊕ ((Bool) ⊕ (Unit))) :=
 if A0 < (List.length s0.Images : Int) then
  (idx? s0.Images A0).bind fun z0 =>
  (idx? t0.Images A0).bind fun z2 =>
  if z0 ≠ z2 then
   some (.inr (.inl false))
  else
   some (.inl (wr (A0 + 1)))
 else
  some (.inr (.inr ()))
noncomputable def r33_Same_0 (s0 : GScript) (t0 : GScript) (o0 : GConf) (t2 : GConf) (A0 : Int) : Option ((Bool) ⊕ (Unit)) :=
 loopO (fun s : Int => r33_Same_0_step s0 t0 o0 t2 s) A0
@[reducible] def r33_Same_0_st (s0 : GScript) (t0 : GScript) (o0 : GConf) (t2 : GConf) (A0 : Int) : PF.St := ⟨[(2, .ept (GScript.cells s0) 0), (3, .ept (GScript.cells t0) 0), (7, iav A0)], [(106, ⟨true, GConf.cells o0⟩), (105, ⟨true, GConf.cells t2⟩)]⟩
def r33_Same_0_rel (s0 : GScript) (t0 : GScript) (o0 : GConf) (t2 : GConf) (r : ((Bool) ⊕ (Unit))) (q : ES) : Prop := (fun r (q : ES) => Sum.elim (fun r => (fun r (q : ES) => q = (Ex.ret, ⟨[(2, .ept (GScript.cells s0) 0), (3, .ept (GScript.cells t0) 0), (4, .bool r)], [(106, ⟨true, GConf.cells o0⟩), (105, ⟨true, GConf.cells t2⟩)]⟩)) r q) (fun r => (fun r (q : ES) => q = ((.exit 0), ⟨[(2, .ept (GScript.cells s0) 0), (3, .ept (GScript.cells t0) 0), (4, .undef)], [(106, ⟨true, GConf.cells o0⟩), (105, ⟨true, GConf.cells t2⟩)]⟩)) r q) r) r q
def r33_Same_0_inv (s0 : GScript) (t0 : GScript) (o0 : GConf) (t2 : GConf) (v : Int) (e : PF.St) : Prop := e = r33_Same_0_st s0 t0 o0 t2 v
theorem r33_Same_0_sim (s0 : GScript) (t0 : GScript) (o0 : GConf) (t2 : GConf) (A0 : Int) (s : PF.St) (hk : keep [2, 3, 7] [105, 106] s = some (r33_Same_0_st s0 t0 o0 t2 A0)) : Sim (r33_Same_0 s0 t0 o0 t2 A0) (Gv (r33_Same_0_rel s0 t0 o0 t2)) (LM.loop ([2, 3, 7], [105, 106], [2, 3, 4], B_r33_Same_0) s) := by
 refine sim_loop M XE (r33_Same_0_inv s0 t0 o0 t2) (r33_Same_0_rel s0 t0 o0 t2) ?_ _ _ _ hk rfl
 clear hk
 rintro S hS hw hw8 R hR A0 env hp he
 change (⟨env, hp⟩ : PF.St) = r33_Same_0_st s0 t0 o0 t2 A0 at he
 cases he
 show Sim (r33_Same_0_step s0 t0 o0 t2 A0) _ _
 unfold r33_Same_0_step
 simp only [hw]
 refine au ?_
 refine Sim.ki hS (m := (List.length s0.Images : Int)) (by simp) ?_
 refine au (.ite Iff.rfl (fun hc6 => ?_) fun hc6 => ?_)
 ·refine au ?_
  refine Sim.ix (by simp) (fun z0 hz0 => ?_)
  refine au ?_
  refine Sim.go (idx_map _ hz0) ?_
  refine au ?_
  refine Sim.ix (by simp) (fun z2 hz2 => ?_)
  refine au ?_
  refine Sim.go (idx_map _ hz2) ?_
  refine au (.ite Iff.rfl (fun hc7 => ?_) fun hc7 => ?_)
  ·exact au (.ret ⟨_, rfl, rfl⟩)
  ·refine au ?_
   exact Sim.ret ⟨_, _, rfl, rfl, rfl⟩
 ·exact au (.ret ⟨_, rfl, rfl⟩)
noncomputable def r33_Same_1_step (s2 : GScript) (t3 : GScript) (o2 : GConf) (t4 : GConf) (r7 : Int) : Option ((Int) ⊕ ((Bool) ⊕ (Unit))) :=
 if r7 < (List.length s2.Ticks : Int) then
  (idx? s2.Ticks r7).bind fun z3 =>
  (idx? t3.Ticks r7).bind fun z4 =>
  (r33_same z3 z4).bind fun r8 =>
  if (!r8) = true then
   some (.inr (.inl false))
  else
   some (.inl (wr (r7 + 1)))
 else
  some (.inr (.inr ()))
noncomputable def r33_Same_1 (s2 : GScript) (t3 : GScript) (o2 : GConf) (t4 : GConf) (r7 : Int) : Option ((Bool) ⊕ (Unit)) :=
 loopO (fun s : Int => r33_Same_1_step s2 t3 o2 t4 s) r7
@[reducible] def r33_Same_1_st (s2 : GScript) (t3 : GScript) (o2 : GConf) (t4 : GConf) (r7 : Int) : PF.St := ⟨[(2, .ept (GScript.cells s2) 0), (3, .ept (GScript.cells t3) 0), (8, iav r7)], [(106, ⟨true, GConf.cells o2⟩), (105, ⟨true, GConf.cells t4⟩)]⟩
def r33_Same_1_rel (s2 : GScript) (t3 : GScript) (o2 : GConf) (t4 : GConf) (r : ((Bool) ⊕ (Unit))) (q : ES) : Prop := (fun r (q : ES) => Sum.elim (fun r => (fun r (q : ES) => q = (Ex.ret, ⟨[(4, .bool r)], [(106, ⟨true, GConf.cells o2⟩), (105, ⟨true, GConf.cells t4⟩)]⟩)) r q) (fun r => (fun r (q : ES) => q = ((.exit 2), ⟨[(4, .undef)], [(106, ⟨true, GConf.cells o2⟩), (105, ⟨true, GConf.cells t4⟩)]⟩)) r q) r) r q
def r33_Same_1_inv (s2 : GScript) (t3 : GScript) (o2 : GConf) (t4 : GConf) (v : Int) (e : PF.St) : Prop := e = r33_Same_1_st s2 t3 o2 t4 v
theorem r33_Same_1_sim (s2 : GScript) (t3 : GScript) (o2 : GConf) (t4 : GConf) (r7 : Int) (s : PF.St) (hk : keep [2, 3, 8] [105, 106] s = some (r33_Same_1_st s2 t3 o2 t4 r7)) : Sim (r33_Same_1 s2 t3 o2 t4 r7) (Gv (r33_Same_1_rel s2 t3 o2 t4)) (LM.loop ([2, 3, 8], [105, 106], [4], B_r33_Same_1) s) := by
 refine sim_loop M XE (r33_Same_1_inv s2 t3 o2 t4) (r33_Same_1_rel s2 t3 o2 t4) ?_ _ _ _ hk rfl
 clear hk
 rintro S hS hw hw8 R hR r7 env hp he
 change (⟨env, hp⟩ : PF.St) = r33_Same_1_st s2 t3 o2 t4 r7 at he
 cases he
 show Sim (r33_Same_1_step s2 t3 o2 t4 r7) _ _
 unfold r33_Same_1_step
 simp only [hw]
 refine au ?_
 refine Sim.ki hS (m := (List.length s2.Ticks : Int)) (by simp) ?_
 refine au (.ite Iff.rfl (fun hc8 => ?_) fun hc8 => ?_)
 ·refine au ?_
  refine Sim.ix (by simp) (fun z3 hz3 => ?_)
  refine au ?_
  refine Sim.go (idx_map _ hz3) ?_
  refine au ?_
  refine Sim.ix (by simp) (fun z4 hz4 => ?_)
  refine au ?_
  refine Sim.go (idx_map _ hz4) ?_
  refine au (cE hR (r33_same_sim _ _) fun r8 => ?_)
  refine au (.iteB (fun hc9 => ?_) fun hc9 => ?_)
  ·exact au (.ret ⟨_, rfl, rfl⟩)
  ·refine au ?_
   exact Sim.ret ⟨_, _, rfl, rfl, rfl⟩
 ·exact au (.ret ⟨_, rfl, rfl⟩)
noncomputable def r33_Same (L0 : GScript) (i0 : GScript) : Option Bool :=
 (r33_ints [L0.Conf.N, L0.Conf.F, L0.Conf.D, L0.Conf.Period, L0.Conf.Rate, L0.Conf.Drift, L0.Conf.Offset, L0.Conf.Slot, L0.Conf.Mod, L0.Conf.Fresh] [i0.Conf.N, i0.Conf.F, i0.Conf.D, i0.Conf.Period, i0.Conf.Rate, i0.Conf.Drift, i0.Conf.Offset, i0.Conf.Slot, i0.Conf.Mod, i0.Conf.Fresh]).bind fun r0 =>
 if (!r0) = true then
  some false
 else
  (r33_ints L0.Conf.Table i0.Conf.Table).bind fun r2 =>
  if (!r2) = true then
   some false
  else
   (r33_ints L0.Faulty i0.Faulty).bind fun r3 =>
   if (!r3) = true then
    some false
   else
    if (List.length L0.Images : Int) ≠ (List.length i0.Images : Int) then
     some false
    else
     if (List.length L0.Ticks : Int) ≠ (List.length i0.Ticks : Int) then
      some false
     else
      (r33_Same_0 L0 i0 i0.Conf L0.Conf 0).bind fun r4 =>
      Sum.elim
       (fun r5 =>
         some r5)
       (fun r6 =>
         (r33_Same_1 L0 i0 i0.Conf L0.Conf 0).bind fun r9 =>
         Sum.elim
          (fun r10 =>
            some r10)
          (fun r11 =>
            some true)
          r9)
       r4
theorem r33_Same_sim (L0 : GScript) (i0 : GScript) : Sim (r33_Same L0 i0) (Gv fun r q => q = (.bool r, [])) (LM.call n_r33_Same [GScript.av L0, GScript.av i0] []) := by
 unfold r33_Same
 refine sim_evR M XE rfl rfl fun S hS hw hw8 R hR => ?_
 refine au ?_
 refine Sim.kl hS (ys := List.map iav [L0.Conf.N, L0.Conf.F, L0.Conf.D, L0.Conf.Period, L0.Conf.Rate, L0.Conf.Drift, L0.Conf.Offset, L0.Conf.Slot, L0.Conf.Mod, L0.Conf.Fresh]) rfl ?_
 refine au ?_
 refine Sim.kl hS (ys := List.map iav [i0.Conf.N, i0.Conf.F, i0.Conf.D, i0.Conf.Period, i0.Conf.Rate, i0.Conf.Drift, i0.Conf.Offset, i0.Conf.Slot, i0.Conf.Mod, i0.Conf.Fresh]) rfl ?_
 refine au (cE hR (r33_ints_sim _ _) fun r0 => ?_)
 refine au (.iteB (fun hc => ?_) fun hc => ?_)
 ·exact au (.ret ⟨_, rfl, rfl⟩)
 ·refine au (cE hR (r33_ints_sim _ _) fun r2 => ?_)
  refine au (.iteB (fun hc2 => ?_) fun hc2 => ?_)
  ·exact au (.ret ⟨_, rfl, rfl⟩)
  ·refine au (cE hR (r33_ints_sim _ _) fun r3 => ?_)
   refine au (.iteB (fun hc3 => ?_) fun hc3 => ?_)
   ·exact au (.ret ⟨_, rfl, rfl⟩)
   ·refine au ?_
    refine Sim.ki hS (m := (List.length L0.Images : Int)) (by simp) ?_
    refine au ?_
    refine Sim.ki hS (m := (List.length i0.Images : Int)) (by simp) ?_
    refine au (.ite Iff.rfl (fun hc4 => ?_) fun hc4 => ?_)
    ·exact au (.ret ⟨_, rfl, rfl⟩)
    ·refine au ?_
     refine Sim.ki hS (m := (List.length L0.Ticks : Int)) (by simp) ?_
     refine au ?_
     refine Sim.ki hS (m := (List.length i0.Ticks : Int)) (by simp) ?_
     refine au (.ite Iff.rfl (fun hc5 => ?_) fun hc5 => ?_)
     ·exact au (.ret ⟨_, rfl, rfl⟩)
     ·refine au ?_
      refine Sim.callL hR (r33_Same_0_sim L0 i0 i0.Conf L0.Conf 0 _ rfl) ?_
      rintro r4 q hr
      rcases r4 with r5 | r6
      ·cases hr
       exact au (.ret ⟨_, rfl, rfl⟩)
      ·cases hr
       refine au ?_
       refine Sim.callL hR (r33_Same_1_sim L0 i0 i0.Conf L0.Conf 0 _ rfl) ?_
       rintro r9 q hr
       rcases r9 with r10 | r11
       ·cases hr
        exact au (.ret ⟨_, rfl, rfl⟩)
       ·cases hr
        exact au (.ret ⟨_, rfl, rfl⟩)
noncomputable def r03_within (n0 : Int) (low : Int) (high : Int) : Option Bool :=
 if low ≤ n0 then
  some (decide (n0 ≤ high))
 else
  some false
theorem r03_within_sim (n0 : Int) (low : Int) (high : Int) : Sim (r03_within n0 low high) (Gv fun r q => q = (.bool r, [])) (LM.call n_r03_within [iav n0, iav low, iav high] []) := by
 unfold r03_within
 refine sim_evR M XE rfl rfl fun S hS hw hw8 R hR => ?_
 refine au (.ite Iff.rfl (fun hc => ?_) fun hc => ?_)
 ·exact au (.ret ⟨_, rfl, rfl⟩)
 ·exact au (.ret ⟨_, rfl, rfl⟩)
noncomputable def r03_owned_0_step (c2 : GConf) (i0 : Int) : Option ((Int) ⊕ ((Bool) ⊕ (Unit))) :=
 if i0 < (List.length c2.Table : Int) then
  (idx? c2.Table i0).bind fun z0 =>
  (r03_within z0 0 (wr (c2.N - 1))).bind fun r0 =>
  if (!r0) = true then
   some (.inr (.inl false))
  else
   some (.inl (wr (i0 + 1)))
 else
  some (.inr (.inr ()))
noncomputable def r03_owned_0 (c2 : GConf) (i0 : Int) : Option ((Bool) ⊕ (Unit)) :=
 loopO (fun s : Int => r03_owned_0_step c2 s) i0
@[reducible] def r03_owned_0_st (c2 : GConf) (i0 : Int) : PF.St := ⟨[(1, .ept (GConf.cells c2) 0), (3, iav i0)], []⟩
def r03_owned_0_rel (c2 : GConf) (r : ((Bool) ⊕ (Unit))) (q : ES) : Prop := (fun r (q : ES) => Sum.elim (fun r => (fun r (q : ES) => q = (Ex.ret, ⟨[(1, .ept (GConf.cells c2) 0), (2, .bool r)], []⟩)) r q) (fun r => (fun r (q : ES) => q = ((.exit 0), ⟨[(1, .ept (GConf.cells c2) 0), (2, .undef)], []⟩)) r q) r) r q
def r03_owned_0_inv (c2 : GConf) (v : Int) (e : PF.St) : Prop := e = r03_owned_0_st c2 v
theorem r03_owned_0_sim (c2 : GConf) (i0 : Int) (s : PF.St) (hk : keep [1, 3] [] s = some (r03_owned_0_st c2 i0)) : Sim (r03_owned_0 c2 i0) (Gv (r03_owned_0_rel c2)) (LM.loop ([1, 3], [], [1, 2], B_r03_owned_0) s) := by
 refine sim_loop M XE (r03_owned_0_inv c2) (r03_owned_0_rel c2) ?_ _ _ _ hk rfl
 clear hk
 rintro S hS hw hw8 R hR i0 env hp he
 change (⟨env, hp⟩ : PF.St) = r03_owned_0_st c2 i0 at he
 cases he
 show Sim (r03_owned_0_step c2 i0) _ _
 unfold r03_owned_0_step
 simp only [hw]
 refine au ?_
 refine Sim.ki hS (m := (List.length c2.Table : Int)) (by simp) ?_
 refine au (.ite Iff.rfl (fun hc => ?_) fun hc => ?_)
 ·refine au ?_
  refine Sim.ix (by simp) (fun z0 hz0 => ?_)
  refine au ?_
  refine Sim.go (idx_map _ hz0) ?_
  refine au (cE hR (r03_within_sim _ _ _) fun r0 => ?_)
  refine au (.iteB (fun hc2 => ?_) fun hc2 => ?_)
  ·exact au (.ret ⟨_, rfl, rfl⟩)
  ·refine au ?_
   exact Sim.ret ⟨_, _, rfl, rfl, rfl⟩
 ·exact au (.ret ⟨_, rfl, rfl⟩)
noncomputable def r03_owned_1_step (c4 : GConf) (n2 : Int) (has : Bool) (i2 : Int) : Option ((Bool × Int) ⊕ Bool) :=
 if i2 < (List.length c4.Table : Int) then
  if has = true then
   some (.inl (true, (wr (i2 + 1))))
  else
   (idx? c4.Table i2).bind fun z2 =>
   some (.inl ((decide (z2 = n2)), (wr (i2 + 1))))
 else
  some (.inr has)
noncomputable def r03_owned_1 (c4 : GConf) (n2 : Int) (has : Bool) (i2 : Int) : Option Bool :=
 loopO (fun s : Bool × Int => r03_owned_1_step c4 n2 s.1 s.2) (has, i2)
@[reducible] def r03_owned_1_st (c4 : GConf) (n2 : Int) (has : Bool) (i2 : Int) : PF.St := ⟨[(1, .ept (GConf.cells c4) 0), (4, iav n2), (5, .bool has), (6, iav i2)], []⟩
def r03_owned_1_rel (c4 : GConf) (n2 : Int) (r : Bool) (q : ES) : Prop := (fun r (q : ES) => q = ((.exit 4), ⟨[(1, .ept (GConf.cells c4) 0), (4, iav n2), (5, .bool r)], []⟩)) r q
def r03_owned_1_inv (c4 : GConf) (n2 : Int) (v : Bool × Int) (e : PF.St) : Prop := e = r03_owned_1_st c4 n2 v.1 v.2
theorem r03_owned_1_sim (c4 : GConf) (n2 : Int) (has : Bool) (i2 : Int) (s : PF.St) (hk : keep [1, 4, 5, 6] [] s = some (r03_owned_1_st c4 n2 has i2)) : Sim (r03_owned_1 c4 n2 has i2) (Gv (r03_owned_1_rel c4 n2)) (LM.loop ([1, 4, 5, 6], [], [1, 4, 5], B_r03_owned_1) s) := by
 refine sim_loop M XE (r03_owned_1_inv c4 n2) (r03_owned_1_rel c4 n2) ?_ _ _ _ hk rfl
 clear hk
 rintro S hS hw hw8 R hR ⟨has, i2⟩ env hp he
 change (⟨env, hp⟩ : PF.St) = r03_owned_1_st c4 n2 has i2 at he
 cases he
 show Sim (r03_owned_1_step c4 n2 has i2) _ _
 unfold r03_owned_1_step
 simp only [hw]
 refine au ?_
 refine Sim.ki hS (m := (List.length c4.Table : Int)) (by simp) ?_
 refine au (.ite Iff.rfl (fun hc4 => ?_) fun hc4 => ?_)
 ·refine au (.iteB (fun hc5 => ?_) fun hc5 => ?_)
  ·refine au ?_
   exact Sim.ret ⟨_, _, rfl, rfl, rfl⟩
  ·refine au ?_
   refine Sim.ix (by simp) (fun z2 hz2 => ?_)
   refine au ?_
   refine Sim.go (idx_map _ hz2) ?_
   refine au ?_
   exact Sim.ret ⟨_, _, rfl, rfl, rfl⟩
 ·exact au (.ret ⟨_, rfl, rfl⟩)
noncomputable def r03_owned_2_step (c3 : GConf) (n0 : Int) : Option ((Int) ⊕ ((Bool) ⊕ (Unit))) :=
 if n0 < c3.N then
  (r03_owned_1 c3 n0 false 0).bind fun r5 =>
  if (!r5) = true then
   some (.inr (.inl false))
  else
   some (.inl (wr (n0 + 1)))
 else
  some (.inr (.inr ()))
noncomputable def r03_owned_2 (c3 : GConf) (n0 : Int) : Option ((Bool) ⊕ (Unit)) :=
 loopO (fun s : Int => r03_owned_2_step c3 s) n0
@[reducible] def r03_owned_2_st (c3 : GConf) (n0 : Int) : PF.St := ⟨[(1, .ept (GConf.cells c3) 0), (4, iav n0)], []⟩
def r03_owned_2_rel (c3 : GConf) (r : ((Bool) ⊕ (Unit))) (q : ES) : Prop := (fun r (q : ES) => Sum.elim (fun r => (fun r (q : ES) => q = (Ex.ret, ⟨[(2, .bool r)], []⟩)) r q) (fun r => (fun r (q : ES) => q = ((.exit 2), ⟨[(2, .undef)], []⟩)) r q) r) r q
def r03_owned_2_inv (c3 : GConf) (v : Int) (e : PF.St) : Prop := e = r03_owned_2_st c3 v
theorem r03_owned_2_sim (c3 : GConf) (n0 : Int) (s : PF.St) (hk : keep [1, 4] [] s = some (r03_owned_2_st c3 n0)) : Sim (r03_owned_2 c3 n0) (Gv (r03_owned_2_rel c3)) (LM.loop ([1, 4], [], [2], B_r03_owned_2) s) := by
 refine sim_loop M XE (r03_owned_2_inv c3) (r03_owned_2_rel c3) ?_ _ _ _ hk rfl
 clear hk
 rintro S hS hw hw8 R hR n0 env hp he
 change (⟨env, hp⟩ : PF.St) = r03_owned_2_st c3 n0 at he
 cases he
 show Sim (r03_owned_2_step c3 n0) _ _
 unfold r03_owned_2_step
 simp only [hw]
 refine au (.ite Iff.rfl (fun hc3 => ?_) fun hc3 => ?_)
 ·refine au ?_
  refine Sim.callL hR (r03_owned_1_sim c3 n0 false 0 _ rfl) ?_
  rintro r5 q rfl
  refine au (.iteB (fun hc6 => ?_) fun hc6 => ?_)
  ·exact au (.ret ⟨_, rfl, rfl⟩)
  ·refine au ?_
   exact Sim.ret ⟨_, _, rfl, rfl, rfl⟩
 ·exact au (.ret ⟨_, rfl, rfl⟩)
noncomputable def r03_owned (c0 : GConf) : Option Bool :=
 (r03_owned_0 c0 0).bind fun r2 =>
 Sum.elim
  (fun r3 =>
    some r3)
  (fun r4 =>
    (r03_owned_2 c0 0).bind fun r6 =>
    Sum.elim
     (fun r7 =>
       some r7)
     (fun r8 =>
       some true)
     r6)
  r2
theorem r03_owned_sim (c0 : GConf) : Sim (r03_owned c0) (Gv fun r q => q = (.bool r, [])) (LM.call n_r03_owned [GConf.av c0] []) := by
 unfold r03_owned
 refine sim_evR M XE rfl rfl fun S hS hw hw8 R hR => ?_
 refine au ?_
 refine Sim.callL hR (r03_owned_0_sim c0 0 _ rfl) ?_
 rintro r2 q hr
 rcases r2 with r3 | r4
 ·cases hr
  exact au (.ret ⟨_, rfl, rfl⟩)
 ·cases hr
  refine au ?_
  refine Sim.callL hR (r03_owned_2_sim c0 0 _ rfl) ?_
  rintro r6 q hr
  rcases r6 with r7 | r8
  ·cases hr
   exact au (.ret ⟨_, rfl, rfl⟩)
  ·cases hr
   exact au (.ret ⟨_, rfl, rfl⟩)
noncomputable def r03_Plain (L0 : GConf) : Option Int :=
 (r03_within L0.N 4 13).bind fun r0 =>
 if (!r0) = true then
  some 7
 else
  (r03_within L0.F 0 4).bind fun r2 =>
  if (!r2) = true then
   some 7
  else
   if L0.N ≤ (wr (3 * L0.F)) then
    some 7
   else
    (r03_within L0.D 1 4).bind fun r3 =>
    if (!r3) = true then
     some 10
    else
     (r03_within L0.Period (wr ((wr ((wr (6 * (wr (L0.F + 1)))) * L0.D)) + 1)) 400).bind fun r4 =>
     if (!r4) = true then
      some 8
     else
      (r03_within L0.Rate 1 64).bind fun r5 =>
      if (!r5) = true then
       some 8
      else
       (r03_within L0.Drift 0 (wr (L0.Rate - 1))).bind fun r6 =>
       if (!r6) = true then
        some 8
       else
        (r03_within L0.Offset 0 30000).bind fun r7 =>
        if (!r7) = true then
         some 8
        else
         (r03_within L0.Slot 1 30000).bind fun r8 =>
         if (!r8) = true then
          some 8
         else
          (r03_within L0.Mod 2 250).bind fun r9 =>
          if (!r9) = true then
           some 8
          else
           (r03_within L0.Fresh 1 100).bind fun r10 =>
           if (!r10) = true then
            some 8
           else
            (r03_within (List.length L0.Table : Int) 1 32).bind fun r11 =>
            if (!r11) = true then
             some 11
            else
             (r03_owned L0).bind fun r12 =>
             if (!r12) = true then
              some 11
             else
              some 0
theorem r03_Plain_sim (L0 : GConf) : Sim (r03_Plain L0) (Gv fun r q => q = (iav r, [])) (LM.call n_r03_Plain [GConf.av L0] []) := by
 unfold r03_Plain
 refine sim_evR M XE rfl rfl fun S hS hw hw8 R hR => ?_
 simp only [hw]
 refine au (cE hR (r03_within_sim _ _ _) fun r0 => ?_)
 refine au (.iteB (fun hc => ?_) fun hc => ?_)
 ·exact au (.ret ⟨_, rfl, rfl⟩)
 ·refine au (cE hR (r03_within_sim _ _ _) fun r2 => ?_)
  refine au (.iteB (fun hc2 => ?_) fun hc2 => ?_)
  ·exact au (.ret ⟨_, rfl, rfl⟩)
  ·refine au (.ite Iff.rfl (fun hc3 => ?_) fun hc3 => ?_)
   ·exact au (.ret ⟨_, rfl, rfl⟩)
   ·refine au (cE hR (r03_within_sim _ _ _) fun r3 => ?_)
    refine au (.iteB (fun hc4 => ?_) fun hc4 => ?_)
    ·exact au (.ret ⟨_, rfl, rfl⟩)
    ·refine au (cE hR (r03_within_sim _ _ _) fun r4 => ?_)
     refine au (.iteB (fun hc5 => ?_) fun hc5 => ?_)
     ·exact au (.ret ⟨_, rfl, rfl⟩)
     ·refine au (cE hR (r03_within_sim _ _ _) fun r5 => ?_)
      refine au (.iteB (fun hc6 => ?_) fun hc6 => ?_)
      ·exact au (.ret ⟨_, rfl, rfl⟩)
      ·refine au (cE hR (r03_within_sim _ _ _) fun r6 => ?_)
       refine au (.iteB (fun hc7 => ?_) fun hc7 => ?_)
       ·exact au (.ret ⟨_, rfl, rfl⟩)
       ·refine au (cE hR (r03_within_sim _ _ _) fun r7 => ?_)
        refine au (.iteB (fun hc8 => ?_) fun hc8 => ?_)
        ·exact au (.ret ⟨_, rfl, rfl⟩)
        ·refine au (cE hR (r03_within_sim _ _ _) fun r8 => ?_)
         refine au (.iteB (fun hc9 => ?_) fun hc9 => ?_)
         ·exact au (.ret ⟨_, rfl, rfl⟩)
         ·refine au (cE hR (r03_within_sim _ _ _) fun r9 => ?_)
          refine au (.iteB (fun hc10 => ?_) fun hc10 => ?_)
          ·exact au (.ret ⟨_, rfl, rfl⟩)
          ·refine au (cE hR (r03_within_sim _ _ _) fun r10 => ?_)
           refine au (.iteB (fun hc11 => ?_) fun hc11 => ?_)
           ·exact au (.ret ⟨_, rfl, rfl⟩)
           ·refine au ?_
            refine Sim.ki hS (m := (List.length L0.Table : Int)) (by simp) ?_
            refine au (cE hR (r03_within_sim _ _ _) fun r11 => ?_)
            refine au (.iteB (fun hc12 => ?_) fun hc12 => ?_)
            ·exact au (.ret ⟨_, rfl, rfl⟩)
            ·refine au (cE hR (r03_owned_sim _) fun r12 => ?_)
             refine au (.iteB (fun hc13 => ?_) fun hc13 => ?_)
             ·exact au (.ret ⟨_, rfl, rfl⟩)
             ·exact au (.ret ⟨_, rfl, rfl⟩)
noncomputable def r04_Begin (c0 : GConf) (slot : Int) : Option Int :=
 (r03_Plain c0).bind fun r0 =>
 if r0 ≠ 0 then
  some 0
 else
  if slot < 0 then
   some 0
  else
   if (List.length c0.Table : Int) ≤ slot then
    some 0
   else
    some (wr (c0.Offset + (wr (slot * c0.Slot))))
theorem r04_Begin_sim (c0 : GConf) (slot : Int) : Sim (r04_Begin c0 slot) (Gv fun r q => q = (iav r, [])) (LM.call n_r04_Begin [GConf.av c0, iav slot] []) := by
 unfold r04_Begin
 refine sim_evR M XE rfl rfl fun S hS hw hw8 R hR => ?_
 simp only [hw]
 refine au (cE hR (r03_Plain_sim _) fun r0 => ?_)
 refine au (.ite Iff.rfl (fun hc => ?_) fun hc => ?_)
 ·exact au (.ret ⟨_, rfl, rfl⟩)
 ·refine au (.ite Iff.rfl (fun hc2 => ?_) fun hc2 => ?_)
  ·exact au (.ret ⟨_, rfl, rfl⟩)
  ·refine au ?_
   refine Sim.ki hS (m := (List.length c0.Table : Int)) (by simp) ?_
   refine au (.ite Iff.rfl (fun hc3 => ?_) fun hc3 => ?_)
   ·exact au (.ret ⟨_, rfl, rfl⟩)
   ·exact au (.ret ⟨_, rfl, rfl⟩)
noncomputable def r04_Middle (c0 : GConf) (slot : Int) : Option Int :=
 (r03_Plain c0).bind fun r0 =>
 if r0 ≠ 0 then
  some 0
 else
  if slot < 0 then
   some 0
  else
   if (List.length c0.Table : Int) ≤ slot then
    some 0
   else
    (r04_Begin c0 slot).bind fun r2 =>
    some (wr (r2 + (wr (Int.tdiv c0.Slot 2))))
theorem r04_Middle_sim (c0 : GConf) (slot : Int) : Sim (r04_Middle c0 slot) (Gv fun r q => q = (iav r, [])) (LM.call n_r04_Middle [GConf.av c0, iav slot] []) := by
 unfold r04_Middle
 refine sim_evR M XE rfl rfl fun S hS hw hw8 R hR => ?_
 simp only [hw]
 refine au (cE hR (r03_Plain_sim _) fun r0 => ?_)
 refine au (.ite Iff.rfl (fun hc => ?_) fun hc => ?_)
 ·exact au (.ret ⟨_, rfl, rfl⟩)
 ·refine au (.ite Iff.rfl (fun hc2 => ?_) fun hc2 => ?_)
  ·exact au (.ret ⟨_, rfl, rfl⟩)
  ·refine au ?_
   refine Sim.ki hS (m := (List.length c0.Table : Int)) (by simp) ?_
   refine au (.ite Iff.rfl (fun hc3 => ?_) fun hc3 => ?_)
   ·exact au (.ret ⟨_, rfl, rfl⟩)
   ·refine au (cE hR (r04_Begin_sim _ _) fun r2 => ?_)
    exact au (.ret ⟨_, rfl, rfl⟩)
noncomputable def r04_Guard (c0 : GConf) : Option Int :=
 (r03_Plain c0).bind fun r0 =>
 if r0 ≠ 0 then
  some 0
 else
  (r04_Middle c0 (wr ((List.length c0.Table : Int) - 1))).bind fun r2 =>
  if (wr (c0.Rate - c0.Drift)) = 0 then none else
  if 0 < (Int.tmod (wr ((wr (2 * c0.Drift)) * r2)) (wr (c0.Rate - c0.Drift))) then
   some (wr ((wr ((wr ((wr (Int.tdiv (wr ((wr (2 * c0.Drift)) * r2)) (wr (c0.Rate - c0.Drift)))) + 1)) + c0.Rate)) + (wr ((wr (c0.D + 1)) * c0.Drift))))
  else
   some (wr ((wr ((wr (Int.tdiv (wr ((wr (2 * c0.Drift)) * r2)) (wr (c0.Rate - c0.Drift)))) + c0.Rate)) + (wr ((wr (c0.D + 1)) * c0.Drift))))
theorem r04_Guard_sim (c0 : GConf) : Sim (r04_Guard c0) (Gv fun r q => q = (iav r, [])) (LM.call n_r04_Guard [GConf.av c0] []) := by
 unfold r04_Guard
 refine sim_evR M XE rfl rfl fun S hS hw hw8 R hR => ?_
 simp only [hw]
 refine au (cE hR (r03_Plain_sim _) fun r0 => ?_)
 refine au (.ite Iff.rfl (fun hc => ?_) fun hc => ?_)
 ·exact au (.ret ⟨_, rfl, rfl⟩)
 ·refine au ?_
  refine Sim.ki hS (m := (List.length c0.Table : Int)) (by simp) ?_
  refine au (cE hR (r04_Middle_sim _ _) fun r2 => ?_)
  refine au ?_
  refine Sim.ite Iff.rfl (fun _ => Sim.no) (fun hc2 => ?_)
  refine au (.ite Iff.rfl (fun hc3 => ?_) fun hc3 => ?_)
  ·exact au (.ret ⟨_, rfl, rfl⟩)
  ·exact au (.ret ⟨_, rfl, rfl⟩)
noncomputable def r04_Right (c0 : GConf) : Option Int :=
 (r03_Plain c0).bind fun r0 =>
 if r0 ≠ 0 then
  (r03_Plain c0).bind fun r2 =>
  some r2
 else
  (r04_Guard c0).bind fun r3 =>
  (r04_Middle c0 (wr ((List.length c0.Table : Int) - 1))).bind fun r4 =>
  if c0.Slot ≤ (wr (2 * r3)) then
   some 8
  else
   if (wr ((wr (c0.Period - 1)) * (wr (c0.Rate - c0.Drift)))) < (wr ((wr (r4 + (wr (c0.D * c0.Rate)))) + r3)) then
    some 8
   else
    if 32768 ≤ (wr (c0.Period * (wr (c0.Rate + c0.Drift)))) then
     some 8
    else
     some 0
theorem r04_Right_sim (c0 : GConf) : Sim (r04_Right c0) (Gv fun r q => q = (iav r, [])) (LM.call n_r04_Right [GConf.av c0] []) := by
 unfold r04_Right
 refine sim_evR M XE rfl rfl fun S hS hw hw8 R hR => ?_
 simp only [hw]
 refine au (cE hR (r03_Plain_sim _) fun r0 => ?_)
 refine au (.ite Iff.rfl (fun hc => ?_) fun hc => ?_)
 ·refine au (cE hR (r03_Plain_sim _) fun r2 => ?_)
  exact au (.ret ⟨_, rfl, rfl⟩)
 ·refine au (cE hR (r04_Guard_sim _) fun r3 => ?_)
  refine au ?_
  refine Sim.ki hS (m := (List.length c0.Table : Int)) (by simp) ?_
  refine au (cE hR (r04_Middle_sim _ _) fun r4 => ?_)
  refine au (.ite Iff.rfl (fun hc2 => ?_) fun hc2 => ?_)
  ·exact au (.ret ⟨_, rfl, rfl⟩)
  ·refine au (.ite Iff.rfl (fun hc3 => ?_) fun hc3 => ?_)
   ·exact au (.ret ⟨_, rfl, rfl⟩)
   ·refine au (.ite Iff.rfl (fun hc4 => ?_) fun hc4 => ?_)
    ·exact au (.ret ⟨_, rfl, rfl⟩)
    ·exact au (.ret ⟨_, rfl, rfl⟩)
noncomputable def r01_Clamp (n0 : Int) (low : Int) (high : Int) : Option Int :=
 if n0 < low then
  some low
 else
  if high < low then
   some low
  else
   some (min n0 high)
theorem r01_Clamp_sim (n0 : Int) (low : Int) (high : Int) : Sim (r01_Clamp n0 low high) (Gv fun r q => q = (iav r, [])) (LM.call n_r01_Clamp [iav n0, iav low, iav high] []) := by
 unfold r01_Clamp
 refine sim_evR M XE rfl rfl fun S hS hw hw8 R hR => ?_
 refine au (.ite Iff.rfl (fun hc => ?_) fun hc => ?_)
 ·exact au (.ret ⟨_, rfl, rfl⟩)
 ·refine au (.ite Iff.rfl (fun hc2 => ?_) fun hc2 => ?_)
  ·exact au (.ret ⟨_, rfl, rfl⟩)
  ·exact au (.ret ⟨_, rfl, rfl⟩)
noncomputable def r33_node (c0 : GConf) (n0 : Int) : Option Bool :=
 if 0 ≤ n0 then
  (r01_Clamp c0.N 0 13).bind fun r0 =>
  some (decide (n0 < r0))
 else
  some false
theorem r33_node_sim (c0 : GConf) (n0 : Int) : Sim (r33_node c0 n0) (Gv fun r q => q = (.bool r, [])) (LM.call n_r33_node [GConf.av c0, iav n0] []) := by
 unfold r33_node
 refine sim_evR M XE rfl rfl fun S hS hw hw8 R hR => ?_
 refine au (.ite Iff.rfl (fun hc => ?_) fun hc => ?_)
 ·refine au (cE hR (r01_Clamp_sim _ _ _) fun r0 => ?_)
  exact au (.ret ⟨_, rfl, rfl⟩)
 ·exact au (.ret ⟨_, rfl, rfl⟩)
noncomputable def r14_In_0_step (l2 : List Int) (n2 : Int) (i0 : Int) : Option ((Int) ⊕ ((Bool) ⊕ (Unit))) :=
 if i0 < (List.length l2 : Int) then
  (idx? l2 i0).bind fun z0 =>
  if z0 = n2 then
   some (.inr (.inl true))
  else
   some (.inl (wr (i0 + 1)))
 else
  some (.inr (.inr ()))
noncomputable def r14_In_0 (l2 : List Int) (n2 : Int) (i0 : Int) : Option ((Bool) ⊕ (Unit)) :=
 loopO (fun s : Int => r14_In_0_step l2 n2 s) i0
@[reducible] def r14_In_0_st (l2 : List Int) (n2 : Int) (i0 : Int) : PF.St := ⟨[(0, lav iav l2), (1, iav n2), (5, iav i0)], []⟩
def r14_In_0_rel (l2 : List Int) (n2 : Int) (r : ((Bool) ⊕ (Unit))) (q : ES) : Prop := (fun r (q : ES) => Sum.elim (fun r => (fun r (q : ES) => q = (Ex.ret, ⟨[(4, .bool r)], []⟩)) r q) (fun r => (fun r (q : ES) => q = ((.exit 0), ⟨[(4, .undef)], []⟩)) r q) r) r q
def r14_In_0_inv (l2 : List Int) (n2 : Int) (v : Int) (e : PF.St) : Prop := e = r14_In_0_st l2 n2 v
theorem r14_In_0_sim (l2 : List Int) (n2 : Int) (i0 : Int) (s : PF.St) (hk : keep [0, 1, 5] [] s = some (r14_In_0_st l2 n2 i0)) : Sim (r14_In_0 l2 n2 i0) (Gv (r14_In_0_rel l2 n2)) (LM.loop ([0, 1, 5], [], [4], B_r14_In_0) s) := by
 refine sim_loop M XE (r14_In_0_inv l2 n2) (r14_In_0_rel l2 n2) ?_ _ _ _ hk rfl
 clear hk
 rintro S hS hw hw8 R hR i0 env hp he
 change (⟨env, hp⟩ : PF.St) = r14_In_0_st l2 n2 i0 at he
 cases he
 show Sim (r14_In_0_step l2 n2 i0) _ _
 unfold r14_In_0_step
 simp only [hw]
 refine au ?_
 refine Sim.ki hS (m := (List.length l2 : Int)) (by simp) ?_
 refine au (.ite Iff.rfl (fun hc => ?_) fun hc => ?_)
 ·refine au ?_
  refine Sim.ix (by simp) (fun z0 hz0 => ?_)
  refine au ?_
  refine Sim.go (idx_map _ hz0) ?_
  refine au (.ite Iff.rfl (fun hc2 => ?_) fun hc2 => ?_)
  ·exact au (.ret ⟨_, rfl, rfl⟩)
  ·refine au ?_
   exact Sim.ret ⟨_, _, rfl, rfl, rfl⟩
 ·exact au (.ret ⟨_, rfl, rfl⟩)
noncomputable def r14_In (l0 : List Int) (n0 : Int) : Option Bool :=
 (r14_In_0 l0 n0 0).bind fun r0 =>
 Sum.elim
  (fun r2 =>
    some r2)
  (fun r3 =>
    some false)
  r0
theorem r14_In_sim (l0 : List Int) (n0 : Int) : Sim (r14_In l0 n0) (Gv fun r q => q = (.bool r, [])) (LM.call n_r14_In [lav iav l0, iav n0] []) := by
 unfold r14_In
 refine sim_evR M XE rfl rfl fun S hS hw hw8 R hR => ?_
 refine au ?_
 refine Sim.callL hR (r14_In_0_sim l0 n0 0 _ rfl) ?_
 rintro r0 q hr
 rcases r0 with r2 | r3
 ·cases hr
  exact au (.ret ⟨_, rfl, rfl⟩)
 ·cases hr
  exact au (.ret ⟨_, rfl, rfl⟩)
noncomputable def r33_within_0_step (l2 : List Int) (i0 : Int) : Option ((Int) ⊕ ((Bool) ⊕ (Unit))) :=
 if i0 < (List.length l2 : Int) then
  (idx? l2 i0).bind fun z0 =>
  if z0 < 0 then
   some (.inr (.inl false))
  else
   (idx? l2 i0).bind fun z2 =>
   if 65535 < z2 then
    some (.inr (.inl false))
   else
    some (.inl (wr (i0 + 1)))
 else
  some (.inr (.inr ()))
noncomputable def r33_within_0 (l2 : List Int) (i0 : Int) : Option ((Bool) ⊕ (Unit)) :=
 loopO (fun s : Int => r33_within_0_step l2 s) i0
@[reducible] def r33_within_0_st (l2 : List Int) (i0 : Int) : PF.St := ⟨[(0, lav iav l2), (5, iav i0)], []⟩
def r33_within_0_rel (l2 : List Int) (r : ((Bool) ⊕ (Unit))) (q : ES) : Prop := (fun r (q : ES) => Sum.elim (fun r => (fun r (q : ES) => q = (Ex.ret, ⟨[(4, .bool r)], []⟩)) r q) (fun r => (fun r (q : ES) => q = ((.exit 0), ⟨[(4, .undef)], []⟩)) r q) r) r q
def r33_within_0_inv (l2 : List Int) (v : Int) (e : PF.St) : Prop := e = r33_within_0_st l2 v
theorem r33_within_0_sim (l2 : List Int) (i0 : Int) (s : PF.St) (hk : keep [0, 5] [] s = some (r33_within_0_st l2 i0)) : Sim (r33_within_0 l2 i0) (Gv (r33_within_0_rel l2)) (LM.loop ([0, 5], [], [4], B_r33_within_0) s) := by
 refine sim_loop M XE (r33_within_0_inv l2) (r33_within_0_rel l2) ?_ _ _ _ hk rfl
 clear hk
 rintro S hS hw hw8 R hR i0 env hp he
 change (⟨env, hp⟩ : PF.St) = r33_within_0_st l2 i0 at he
 cases he
 show Sim (r33_within_0_step l2 i0) _ _
 unfold r33_within_0_step
 simp only [hw]
 refine au ?_
 refine Sim.ki hS (m := (List.length l2 : Int)) (by simp) ?_
 refine au (.ite Iff.rfl (fun hc2 => ?_) fun hc2 => ?_)
 ·refine au ?_
  refine Sim.ix (by simp) (fun z0 hz0 => ?_)
  refine au ?_
  refine Sim.go (idx_map _ hz0) ?_
  refine au (.ite Iff.rfl (fun hc3 => ?_) fun hc3 => ?_)
  ·exact au (.ret ⟨_, rfl, rfl⟩)
  ·refine au ?_
   refine Sim.ix (by simp) (fun z2 hz2 => ?_)
   refine au ?_
   refine Sim.go (idx_map _ hz2) ?_
   refine au (.ite Iff.rfl (fun hc4 => ?_) fun hc4 => ?_)
   ·exact au (.ret ⟨_, rfl, rfl⟩)
   ·refine au ?_
    exact Sim.ret ⟨_, _, rfl, rfl, rfl⟩
 ·exact au (.ret ⟨_, rfl, rfl⟩)
noncomputable def r33_within (l0 : List Int) (n0 : Int) : Option Bool :=
 if n0 < (List.length l0 : Int) then
  some false
 else
  (r33_within_0 l0 0).bind fun r0 =>
  Sum.elim
   (fun r2 =>
     some r2)
   (fun r3 =>
     some true)
   r0
theorem r33_within_sim (l0 : List Int) (n0 : Int) : Sim (r33_within l0 n0) (Gv fun r q => q = (.bool r, [])) (LM.call n_r33_within [lav iav l0, iav n0] []) := by
 unfold r33_within
 refine sim_evR M XE rfl rfl fun S hS hw hw8 R hR => ?_
 refine au ?_
 refine Sim.ki hS (m := (List.length l0 : Int)) (by simp) ?_
 refine au (.ite Iff.rfl (fun hc => ?_) fun hc => ?_)
 ·exact au (.ret ⟨_, rfl, rfl⟩)
 ·refine au ?_
  refine Sim.callL hR (r33_within_0_sim l0 0 _ rfl) ?_
  rintro r0 q hr
  rcases r0 with r2 | r3
  ·cases hr
   exact au (.ret ⟨_, rfl, rfl⟩)
  ·cases hr
   exact au (.ret ⟨_, rfl, rfl⟩)
noncomputable def r33_waits_0_step (t2 : GTick) (x0 : List GSend) (x2 : Int) (out : List Int) (x3 : Int) : Option (((List Int) × Int) ⊕ ((List Int))) :=
 if x3 < x2 then
  (idx? x0 x3).bind fun z0 =>
  if List.length out + List.length [z0.Delay] ≤ lenMax then
   some (.inl ((out ++ [z0.Delay]), (wr (x3 + 1))))
  else none
 else
  some (.inr out)
noncomputable def r33_waits_0 (t2 : GTick) (x0 : List GSend) (x2 : Int) (out : List Int) (x3 : Int) : Option ((List Int)) :=
 loopO (fun s : (List Int) × Int => r33_waits_0_step t2 x0 x2 s.1 s.2) (out, x3)
@[reducible] def r33_waits_0_st (t2 : GTick) (x0 : List GSend) (x2 : Int) (out : List Int) (x3 : Int) (g0 : Gr) : PF.St := ⟨[(1, .ept (GTick.cells t2) 0), (3, .lst g0 (List.map iav out)), (9, lav GSend.av x0), (10, iav x2), (11, iav x3)], []⟩
def r33_waits_0_rel (t2 : GTick) (x0 : List GSend) (x2 : Int) (r : ((List Int))) (q : ES) : Prop := (fun r (q : ES) => ∃ g0', q = ((.exit 0), ⟨[(1, .ept (GTick.cells t2) 0), (3, .lst g0' (List.map iav r))], []⟩) ∧ Mg 1 g0') r q
def r33_waits_0_inv (t2 : GTick) (x0 : List GSend) (x2 : Int) (v : (List Int) × Int) (e : PF.St) : Prop := ∃ g0, e = r33_waits_0_st t2 x0 x2 v.1 v.2 g0 ∧ Mg 1 g0
theorem r33_waits_0_sim (t2 : GTick) (x0 : List GSend) (x2 : Int) (out : List Int) (x3 : Int) (g0 : Gr) (hg0 : Mg 1 g0) (s : PF.St) (hk : keep [1, 3, 9, 10, 11] [] s = some (r33_waits_0_st t2 x0 x2 out x3 g0)) : Sim (r33_waits_0 t2 x0 x2 out x3) (Gv (r33_waits_0_rel t2 x0 x2)) (LM.loop ([1, 3, 9, 10, 11], [], [1, 3], B_r33_waits_0) s) := by
 refine sim_loop M XE (r33_waits_0_inv t2 x0 x2) (r33_waits_0_rel t2 x0 x2) ?_ _ _ _ hk ⟨g0, rfl, hg0⟩
 clear hk hg0
 rintro S hS hw hw8 R hR ⟨out, x3⟩ env hp ⟨g0, he, hg0⟩
 change (⟨env, hp⟩ : PF.St) = r33_waits_0_st t2 x0 x2 out x3 g0 at he
 cases he
 show Sim (r33_waits_0_step t2 x0 x2 out x3) _ _
 unfold r33_waits_0_step
 simp only [hw]
 refine au (.ite Iff.rfl (fun hc => ?_) fun hc => ?_)
 ·refine au ?_
  refine Sim.ix (by simp) (fun z0 hz0 => ?_)
  refine au ?_
  refine Sim.go (idx_map _ hz0) ?_
  refine au ?_
  refine Sim.kl hS (ys := List.map iav [z0.Delay]) rfl ?_
  refine au ?_
  first | (refine Sim.goB (may_map (by intro _; rfl) hg0 _) ?_) | skip
  refine au ?_
  first | (refine Sim.goB (okE_map (by intro _; exact ⟨rfl, rfl, rfl⟩) _) ?_) | skip
  refine au ?_
  first | refine Sim.ite (by simp) (fun _ => ?_) (fun _ => Sim.no) | refine Sim.guard (fun _ => ?_)
  refine au ?_
  refine Sim.kl hS (ys := List.map iav (out ++ [z0.Delay])) (by simp) ?_
  refine au ?_
  exact Sim.ret ⟨_, _, rfl, rfl, ⟨_, rfl, Mg.own⟩⟩
 ·refine au ?_
  exact Sim.ret ⟨_, rfl, ⟨_, rfl, hg0⟩⟩
noncomputable def r33_waits_1_step (x4 : List GSend) (x5 : Int) (out2 : List Int) (x6 : Int) : Option (((List Int) × Int) ⊕ ((List Int))) :=
 if x6 < x5 then
  (idx? x4 x6).bind fun z2 =>
  if List.length out2 + List.length [z2.Delay] ≤ lenMax then
   some (.inl ((out2 ++ [z2.Delay]), (wr (x6 + 1))))
  else none
 else
  some (.inr out2)
noncomputable def r33_waits_1 (x4 : List GSend) (x5 : Int) (out2 : List Int) (x6 : Int) : Option ((List Int)) :=
 loopO (fun s : (List Int) × Int => r33_waits_1_step x4 x5 s.1 s.2) (out2, x6)
@[reducible] def r33_waits_1_st (x4 : List GSend) (x5 : Int) (out2 : List Int) (x6 : Int) (g3 : Gr) : PF.St := ⟨[(3, .lst g3 (List.map iav out2)), (22, lav GSend.av x4), (23, iav x5), (24, iav x6)], []⟩
def r33_waits_1_rel (x4 : List GSend) (x5 : Int) (r : ((List Int))) (q : ES) : Prop := (fun r (q : ES) => ∃ g0', q = ((.exit 2), ⟨[(3, .lst g0' (List.map iav r))], []⟩) ∧ Mg 1 g0') r q
def r33_waits_1_inv (x4 : List GSend) (x5 : Int) (v : (List Int) × Int) (e : PF.St) : Prop := ∃ g3, e = r33_waits_1_st x4 x5 v.1 v.2 g3 ∧ Mg 1 g3
theorem r33_waits_1_sim (x4 : List GSend) (x5 : Int) (out2 : List Int) (x6 : Int) (g3 : Gr) (hg3 : Mg 1 g3) (s : PF.St) (hk : keep [3, 22, 23, 24] [] s = some (r33_waits_1_st x4 x5 out2 x6 g3)) : Sim (r33_waits_1 x4 x5 out2 x6) (Gv (r33_waits_1_rel x4 x5)) (LM.loop ([3, 22, 23, 24], [], [3], B_r33_waits_1) s) := by
 refine sim_loop M XE (r33_waits_1_inv x4 x5) (r33_waits_1_rel x4 x5) ?_ _ _ _ hk ⟨g3, rfl, hg3⟩
 clear hk hg3
 rintro S hS hw hw8 R hR ⟨out2, x6⟩ env hp ⟨g3, he, hg3⟩
 change (⟨env, hp⟩ : PF.St) = r33_waits_1_st x4 x5 out2 x6 g3 at he
 cases he
 show Sim (r33_waits_1_step x4 x5 out2 x6) _ _
 unfold r33_waits_1_step
 simp only [hw]
 refine au (.ite Iff.rfl (fun hc2 => ?_) fun hc2 => ?_)
 ·refine au ?_
  refine Sim.ix (by simp) (fun z2 hz2 => ?_)
  refine au ?_
  refine Sim.go (idx_map _ hz2) ?_
  refine au ?_
  refine Sim.kl hS (ys := List.map iav [z2.Delay]) rfl ?_
  refine au ?_
  first | (refine Sim.goB (may_map (by intro _; rfl) hg3 _) ?_) | skip
  refine au ?_
  first | (refine Sim.goB (okE_map (by intro _; exact ⟨rfl, rfl, rfl⟩) _) ?_) | skip
  refine au ?_
  first | refine Sim.ite (by simp) (fun _ => ?_) (fun _ => Sim.no) | refine Sim.guard (fun _ => ?_)
  refine au ?_
  refine Sim.kl hS (ys := List.map iav (out2 ++ [z2.Delay])) (by simp) ?_
  refine au ?_
  exact Sim.ret ⟨_, _, rfl, rfl, ⟨_, rfl, Mg.own⟩⟩
 ·refine au ?_
  exact Sim.ret ⟨_, rfl, ⟨_, rfl, hg3⟩⟩
noncomputable def r33_waits (t0 : GTick) : Option ((List Int)) :=
 (r33_waits_0 t0 t0.Sends (List.length t0.Sends : Int) ([] : List Int) 0).bind fun r0 =>
 (r33_waits_1 t0.Strays (List.length t0.Strays : Int) r0 0).bind fun r2 =>
 some r2
theorem r33_waits_sim (t0 : GTick) : Sim (r33_waits t0) (Gv fun r q => q = (lav iav r, [])) (LM.call n_r33_waits [GTick.av t0] []) := by
 unfold r33_waits
 refine sim_evR M XE rfl rfl fun S hS hw hw8 R hR => ?_
 refine au ?_
 refine Sim.ki hS (m := (List.length t0.Sends : Int)) (by simp) ?_
 refine au ?_
 refine Sim.callL hR (r33_waits_0_sim t0 t0.Sends (List.length t0.Sends : Int) ([] : List Int) 0 .full Mg.full _ rfl) ?_
 rintro r0 q ⟨g2, rfl, hg2⟩
 refine au ?_
 refine Sim.ki hS (m := (List.length t0.Strays : Int)) (by simp) ?_
 refine au ?_
 refine Sim.callL hR (r33_waits_1_sim t0.Strays (List.length t0.Strays : Int) r0 0 g2 hg2 _ rfl) ?_
 rintro r2 q ⟨g4, rfl, hg4⟩
 exact au (.ret ⟨_, rfl, rfl⟩)
noncomputable def r33_nodes_0_step (s0 : GConf) (t0 : GTick) (x0 : List GSend) (x2 : Int) (x3 : Int) : Option ((Int) ⊕ ((Bool) ⊕ (Unit))) :=
 if x3 < x2 then
  (idx? x0 x3).bind fun z0 =>
  (r33_node s0 z0.From).bind fun r0 =>
  if (!r0) = true then
   some (.inr (.inl false))
  else
   (r33_node s0 z0.To).bind fun r2 =>
   if (!r2) = true then
    some (.inr (.inl false))
   else
    some (.inl (wr (x3 + 1)))
 else
  some (.inr (.inr ()))
noncomputable def r33_nodes_0 (s0 : GConf) (t0 : GTick) (x0 : List GSend) (x2 : Int) (x3 : Int) : Option ((Bool) ⊕ (Unit)) :=
 loopO (fun s : Int => r33_nodes_0_step s0 t0 x0 x2 s) x3
@[reducible] def r33_nodes_0_st (s0 : GConf) (t0 : GTick) (x0 : List GSend) (x2 : Int) (x3 : Int) : PF.St := ⟨[(2, .ept (GConf.cells s0) 0), (3, .ept (GTick.cells t0) 0), (14, lav GSend.av x0), (15, iav x2), (16, iav x3)], []⟩
def r33_nodes_0_rel (s0 : GConf) (t0 : GTick) (x0 : List GSend) (x2 : Int) (r : ((Bool) ⊕ (Unit))) (q : ES) : Prop := (fun r (q : ES) => Sum.elim (fun r => (fun r (q : ES) => q = (Ex.ret, ⟨[(2, .ept (GConf.cells s0) 0), (3, .ept (GTick.cells t0) 0), (4, .bool r)], []⟩)) r q) (fun r => (fun r (q : ES) => q = ((.exit 0), ⟨[(2, .ept (GConf.cells s0) 0), (3, .ept (GTick.cells t0) 0), (4, .undef)], []⟩)) r q) r) r q
def r33_nodes_0_inv (s0 : GConf) (t0 : GTick) (x0 : List GSend) (x2 : Int) (v : Int) (e : PF.St) : Prop := e = r33_nodes_0_st s0 t0 x0 x2 v
theorem r33_nodes_0_sim (s0 : GConf) (t0 : GTick) (x0 : List GSend) (x2 : Int) (x3 : Int) (s : PF.St) (hk : keep [2, 3, 14, 15, 16] [] s = some (r33_nodes_0_st s0 t0 x0 x2 x3)) : Sim (r33_nodes_0 s0 t0 x0 x2 x3) (Gv (r33_nodes_0_rel s0 t0 x0 x2)) (LM.loop ([2, 3, 14, 15, 16], [], [2, 3, 4], B_r33_nodes_0) s) := by
 refine sim_loop M XE (r33_nodes_0_inv s0 t0 x0 x2) (r33_nodes_0_rel s0 t0 x0 x2) ?_ _ _ _ hk rfl
 clear hk
 rintro S hS hw hw8 R hR x3 env hp he
 change (⟨env, hp⟩ : PF.St) = r33_nodes_0_st s0 t0 x0 x2 x3 at he
 cases he
 show Sim (r33_nodes_0_step s0 t0 x0 x2 x3) _ _
 unfold r33_nodes_0_step
 simp only [hw]
 refine au (.ite Iff.rfl (fun hc => ?_) fun hc => ?_)
 ·refine au ?_
  refine Sim.ix (by simp) (fun z0 hz0 => ?_)
  refine au ?_
  refine Sim.go (idx_map _ hz0) ?_
  refine au (cE hR (r33_node_sim _ _) fun r0 => ?_)
  refine au (.iteB (fun hc2 => ?_) fun hc2 => ?_)
  ·exact au (.ret ⟨_, rfl, rfl⟩)
  ·refine au (cE hR (r33_node_sim _ _) fun r2 => ?_)
   refine au (.iteB (fun hc3 => ?_) fun hc3 => ?_)
   ·exact au (.ret ⟨_, rfl, rfl⟩)
   ·refine au ?_
    exact Sim.ret ⟨_, _, rfl, rfl, rfl⟩
 ·exact au (.ret ⟨_, rfl, rfl⟩)
noncomputable def r33_nodes_1_step (s2 : GConf) (t2 : GTick) (x4 : List GSend) (x5 : Int) (x6 : Int) : Option ((Int) ⊕ ((Bool) ⊕ (Unit))) :=
 if x6 < x5 then
  (idx? x4 x6).bind fun z2 =>
  (r33_node s2 z2.From).bind fun r6 =>
  if (!r6) = true then
   some (.inr (.inl false))
  else
   (r33_node s2 z2.To).bind fun r7 =>
   if (!r7) = true then
    some (.inr (.inl false))
   else
    some (.inl (wr (x6 + 1)))
 else
  some (.inr (.inr ()))
noncomputable def r33_nodes_1 (s2 : GConf) (t2 : GTick) (x4 : List GSend) (x5 : Int) (x6 : Int) : Option ((Bool) ⊕ (Unit)) :=
 loopO (fun s : Int => r33_nodes_1_step s2 t2 x4 x5 s) x6
@[reducible] def r33_nodes_1_st (s2 : GConf) (t2 : GTick) (x4 : List GSend) (x5 : Int) (x6 : Int) : PF.St := ⟨[(2, .ept (GConf.cells s2) 0), (3, .ept (GTick.cells t2) 0), (34, lav GSend.av x4), (35, iav x5), (36, iav x6)], []⟩
def r33_nodes_1_rel (s2 : GConf) (t2 : GTick) (x4 : List GSend) (x5 : Int) (r : ((Bool) ⊕ (Unit))) (q : ES) : Prop := (fun r (q : ES) => Sum.elim (fun r => (fun r (q : ES) => q = (Ex.ret, ⟨[(2, .ept (GConf.cells s2) 0), (3, .ept (GTick.cells t2) 0), (4, .bool r)], []⟩)) r q) (fun r => (fun r (q : ES) => q = ((.exit 2), ⟨[(2, .ept (GConf.cells s2) 0), (3, .ept (GTick.cells t2) 0), (4, .undef)], []⟩)) r q) r) r q
def r33_nodes_1_inv (s2 : GConf) (t2 : GTick) (x4 : List GSend) (x5 : Int) (v : Int) (e : PF.St) : Prop := e = r33_nodes_1_st s2 t2 x4 x5 v
theorem r33_nodes_1_sim (s2 : GConf) (t2 : GTick) (x4 : List GSend) (x5 : Int) (x6 : Int) (s : PF.St) (hk : keep [2, 3, 34, 35, 36] [] s = some (r33_nodes_1_st s2 t2 x4 x5 x6)) : Sim (r33_nodes_1 s2 t2 x4 x5 x6) (Gv (r33_nodes_1_rel s2 t2 x4 x5)) (LM.loop ([2, 3, 34, 35, 36], [], [2, 3, 4], B_r33_nodes_1) s) := by
 refine sim_loop M XE (r33_nodes_1_inv s2 t2 x4 x5) (r33_nodes_1_rel s2 t2 x4 x5) ?_ _ _ _ hk rfl
 clear hk
 rintro S hS hw hw8 R hR x6 env hp he
 change (⟨env, hp⟩ : PF.St) = r33_nodes_1_st s2 t2 x4 x5 x6 at he
 cases he
 show Sim (r33_nodes_1_step s2 t2 x4 x5 x6) _ _
 unfold r33_nodes_1_step
 simp only [hw]
 refine au (.ite Iff.rfl (fun hc4 => ?_) fun hc4 => ?_)
 ·refine au ?_
  refine Sim.ix (by simp) (fun z2 hz2 => ?_)
  refine au ?_
  refine Sim.go (idx_map _ hz2) ?_
  refine au (cE hR (r33_node_sim _ _) fun r6 => ?_)
  refine au (.iteB (fun hc5 => ?_) fun hc5 => ?_)
  ·exact au (.ret ⟨_, rfl, rfl⟩)
  ·refine au (cE hR (r33_node_sim _ _) fun r7 => ?_)
   refine au (.iteB (fun hc6 => ?_) fun hc6 => ?_)
   ·exact au (.ret ⟨_, rfl, rfl⟩)
   ·refine au ?_
    exact Sim.ret ⟨_, _, rfl, rfl, rfl⟩
 ·exact au (.ret ⟨_, rfl, rfl⟩)
noncomputable def r33_nodes_2_step (s3 : GConf) (t3 : GTick) (x7 : List GBurst) (x8 : Int) (x9 : Int) : Option ((Int) ⊕ ((Bool) ⊕ (Unit))) :=
 if x9 < x8 then
  (idx? x7 x9).bind fun z3 =>
  (r33_node s3 z3.Node).bind fun r11 =>
  if (!r11) = true then
   some (.inr (.inl false))
  else
   some (.inl (wr (x9 + 1)))
 else
  some (.inr (.inr ()))
noncomputable def r33_nodes_2 (s3 : GConf) (t3 : GTick) (x7 : List GBurst) (x8 : Int) (x9 : Int) : Option ((Bool) ⊕ (Unit)) :=
 loopO (fun s : Int => r33_nodes_2_step s3 t3 x7 x8 s) x9
@[reducible] def r33_nodes_2_st (s3 : GConf) (t3 : GTick) (x7 : List GBurst) (x8 : Int) (x9 : Int) : PF.St := ⟨[(2, .ept (GConf.cells s3) 0), (3, .ept (GTick.cells t3) 0), (54, lav GBurst.av x7), (55, iav x8), (56, iav x9)], []⟩
def r33_nodes_2_rel (s3 : GConf) (t3 : GTick) (x7 : List GBurst) (x8 : Int) (r : ((Bool) ⊕ (Unit))) (q : ES) : Prop := (fun r (q : ES) => Sum.elim (fun r => (fun r (q : ES) => q = (Ex.ret, ⟨[(2, .ept (GConf.cells s3) 0), (3, .ept (GTick.cells t3) 0), (4, .bool r)], []⟩)) r q) (fun r => (fun r (q : ES) => q = ((.exit 4), ⟨[(2, .ept (GConf.cells s3) 0), (3, .ept (GTick.cells t3) 0), (4, .undef)], []⟩)) r q) r) r q
def r33_nodes_2_inv (s3 : GConf) (t3 : GTick) (x7 : List GBurst) (x8 : Int) (v : Int) (e : PF.St) : Prop := e = r33_nodes_2_st s3 t3 x7 x8 v
theorem r33_nodes_2_sim (s3 : GConf) (t3 : GTick) (x7 : List GBurst) (x8 : Int) (x9 : Int) (s : PF.St) (hk : keep [2, 3, 54, 55, 56] [] s = some (r33_nodes_2_st s3 t3 x7 x8 x9)) : Sim (r33_nodes_2 s3 t3 x7 x8 x9) (Gv (r33_nodes_2_rel s3 t3 x7 x8)) (LM.loop ([2, 3, 54, 55, 56], [], [2, 3, 4], B_r33_nodes_2) s) := by
 refine sim_loop M XE (r33_nodes_2_inv s3 t3 x7 x8) (r33_nodes_2_rel s3 t3 x7 x8) ?_ _ _ _ hk rfl
 clear hk
 rintro S hS hw hw8 R hR x9 env hp he
 change (⟨env, hp⟩ : PF.St) = r33_nodes_2_st s3 t3 x7 x8 x9 at he
 cases he
 show Sim (r33_nodes_2_step s3 t3 x7 x8 x9) _ _
 unfold r33_nodes_2_step
 simp only [hw]
 refine au (.ite Iff.rfl (fun hc7 => ?_) fun hc7 => ?_)
 ·refine au ?_
  refine Sim.ix (by simp) (fun z3 hz3 => ?_)
  refine au ?_
  refine Sim.go (idx_map _ hz3) ?_
  refine au (cE hR (r33_node_sim _ _) fun r11 => ?_)
  refine au (.iteB (fun hc8 => ?_) fun hc8 => ?_)
  ·exact au (.ret ⟨_, rfl, rfl⟩)
  ·refine au ?_
   exact Sim.ret ⟨_, _, rfl, rfl, rfl⟩
 ·exact au (.ret ⟨_, rfl, rfl⟩)
noncomputable def r33_nodes_3_step (s4 : GConf) (x10 : List GWrite) (x11 : Int) (x12 : Int) : Option ((Int) ⊕ ((Bool) ⊕ (Unit))) :=
 if x12 < x11 then
  (idx? x10 x12).bind fun z4 =>
  (r33_node s4 z4.Node).bind fun r15 =>
  if (!r15) = true then
   some (.inr (.inl false))
  else
   some (.inl (wr (x12 + 1)))
 else
  some (.inr (.inr ()))
noncomputable def r33_nodes_3 (s4 : GConf) (x10 : List GWrite) (x11 : Int) (x12 : Int) : Option ((Bool) ⊕ (Unit)) :=
 loopO (fun s : Int => r33_nodes_3_step s4 x10 x11 s) x12
@[reducible] def r33_nodes_3_st (s4 : GConf) (x10 : List GWrite) (x11 : Int) (x12 : Int) : PF.St := ⟨[(2, .ept (GConf.cells s4) 0), (67, lav GWrite.av x10), (68, iav x11), (69, iav x12)], []⟩
def r33_nodes_3_rel (s4 : GConf) (x10 : List GWrite) (x11 : Int) (r : ((Bool) ⊕ (Unit))) (q : ES) : Prop := (fun r (q : ES) => Sum.elim (fun r => (fun r (q : ES) => q = (Ex.ret, ⟨[(4, .bool r)], []⟩)) r q) (fun r => (fun r (q : ES) => q = ((.exit 6), ⟨[(4, .undef)], []⟩)) r q) r) r q
def r33_nodes_3_inv (s4 : GConf) (x10 : List GWrite) (x11 : Int) (v : Int) (e : PF.St) : Prop := e = r33_nodes_3_st s4 x10 x11 v
theorem r33_nodes_3_sim (s4 : GConf) (x10 : List GWrite) (x11 : Int) (x12 : Int) (s : PF.St) (hk : keep [2, 67, 68, 69] [] s = some (r33_nodes_3_st s4 x10 x11 x12)) : Sim (r33_nodes_3 s4 x10 x11 x12) (Gv (r33_nodes_3_rel s4 x10 x11)) (LM.loop ([2, 67, 68, 69], [], [4], B_r33_nodes_3) s) := by
 refine sim_loop M XE (r33_nodes_3_inv s4 x10 x11) (r33_nodes_3_rel s4 x10 x11) ?_ _ _ _ hk rfl
 clear hk
 rintro S hS hw hw8 R hR x12 env hp he
 change (⟨env, hp⟩ : PF.St) = r33_nodes_3_st s4 x10 x11 x12 at he
 cases he
 show Sim (r33_nodes_3_step s4 x10 x11 x12) _ _
 unfold r33_nodes_3_step
 simp only [hw]
 refine au (.ite Iff.rfl (fun hc9 => ?_) fun hc9 => ?_)
 ·refine au ?_
  refine Sim.ix (by simp) (fun z4 hz4 => ?_)
  refine au ?_
  refine Sim.go (idx_map _ hz4) ?_
  refine au (cE hR (r33_node_sim _ _) fun r15 => ?_)
  refine au (.iteB (fun hc10 => ?_) fun hc10 => ?_)
  ·exact au (.ret ⟨_, rfl, rfl⟩)
  ·refine au ?_
   exact Sim.ret ⟨_, _, rfl, rfl, rfl⟩
 ·exact au (.ret ⟨_, rfl, rfl⟩)
noncomputable def r33_nodes (L0 : GConf) (i0 : GTick) : Option Bool :=
 (r33_nodes_0 L0 i0 i0.Sends (List.length i0.Sends : Int) 0).bind fun r3 =>
 Sum.elim
  (fun r4 =>
    some r4)
  (fun r5 =>
    (r33_nodes_1 L0 i0 i0.Strays (List.length i0.Strays : Int) 0).bind fun r8 =>
    Sum.elim
     (fun r9 =>
       some r9)
     (fun r10 =>
       (r33_nodes_2 L0 i0 i0.Bursts (List.length i0.Bursts : Int) 0).bind fun r12 =>
       Sum.elim
        (fun r13 =>
          some r13)
        (fun r14 =>
          (r33_nodes_3 L0 i0.Writes (List.length i0.Writes : Int) 0).bind fun r16 =>
          Sum.elim
           (fun r17 =>
             some r17)
           (fun r18 =>
             some true)
           r16)
        r12)
     r8)
  r3
theorem r33_nodes_sim (L0 : GConf) (i0 : GTick) : Sim (r33_nodes L0 i0) (Gv fun r q => q = (.bool r, [])) (LM.call n_r33_nodes [GConf.av L0, GTick.av i0] []) := by
 unfold r33_nodes
 refine sim_evR M XE rfl rfl fun S hS hw hw8 R hR => ?_
 refine au ?_
 refine Sim.ki hS (m := (List.length i0.Sends : Int)) (by simp) ?_
 refine au ?_
 refine Sim.callL hR (r33_nodes_0_sim L0 i0 i0.Sends (List.length i0.Sends : Int) 0 _ rfl) ?_
 rintro r3 q hr
 rcases r3 with r4 | r5
 ·cases hr
  exact au (.ret ⟨_, rfl, rfl⟩)
 ·cases hr
  refine au ?_
  refine Sim.ki hS (m := (List.length i0.Strays : Int)) (by simp) ?_
  refine au ?_
  refine Sim.callL hR (r33_nodes_1_sim L0 i0 i0.Strays (List.length i0.Strays : Int) 0 _ rfl) ?_
  rintro r8 q hr
  rcases r8 with r9 | r10
  ·cases hr
   exact au (.ret ⟨_, rfl, rfl⟩)
  ·cases hr
   refine au ?_
   refine Sim.ki hS (m := (List.length i0.Bursts : Int)) (by simp) ?_
   refine au ?_
   refine Sim.callL hR (r33_nodes_2_sim L0 i0 i0.Bursts (List.length i0.Bursts : Int) 0 _ rfl) ?_
   rintro r12 q hr
   rcases r12 with r13 | r14
   ·cases hr
    exact au (.ret ⟨_, rfl, rfl⟩)
   ·cases hr
    refine au ?_
    refine Sim.ki hS (m := (List.length i0.Writes : Int)) (by simp) ?_
    refine au ?_
    refine Sim.callL hR (r33_nodes_3_sim L0 i0.Writes (List.length i0.Writes : Int) 0 _ rfl) ?_
    rintro r16 q hr
    rcases r16 with r17 | r18
    ·cases hr
     exact au (.ret ⟨_, rfl, rfl⟩)
    ·cases hr
     exact au (.ret ⟨_, rfl, rfl⟩)
noncomputable def r33_long_0_step (t2 : GTick) (x0 : List GSend) (x2 : Int) (x3 : Int) : Option ((Int) ⊕ ((Bool) ⊕ (Unit))) :=
 if x3 < x2 then
  (idx? x0 x3).bind fun z0 =>
  if 40 < (List.length z0.Bytes : Int) then
   some (.inr (.inl true))
  else
   some (.inl (wr (x3 + 1)))
 else
  some (.inr (.inr ()))
noncomputable def r33_long_0 (t2 : GTick) (x0 : List GSend) (x2 : Int) (x3 : Int) : Option ((Bool) ⊕ (Unit)) :=
 loopO (fun s : Int => r33_long_0_step t2 x0 x2 s) x3
@[reducible] def r33_long_0_st (t2 : GTick) (x0 : List GSend) (x2 : Int) (x3 : Int) : PF.St := ⟨[(1, .ept (GTick.cells t2) 0), (10, lav GSend.av x0), (11, iav x2), (12, iav x3)], []⟩
def r33_long_0_rel (t2 : GTick) (x0 : List GSend) (x2 : Int) (r : ((Bool) ⊕ (Unit))) (q : ES) : Prop := (fun r (q : ES) => Sum.elim (fun r => (fun r (q : ES) => q = (Ex.ret, ⟨[(1, .ept (GTick.cells t2) 0), (2, .bool r)], []⟩)) r q) (fun r => (fun r (q : ES) => q = ((.exit 0), ⟨[(1, .ept (GTick.cells t2) 0), (2, .undef)], []⟩)) r q) r) r q
def r33_long_0_inv (t2 : GTick) (x0 : List GSend) (x2 : Int) (v : Int) (e : PF.St) : Prop := e = r33_long_0_st t2 x0 x2 v
theorem r33_long_0_sim (t2 : GTick) (x0 : List GSend) (x2 : Int) (x3 : Int) (s : PF.St) (hk : keep [1, 10, 11, 12] [] s = some (r33_long_0_st t2 x0 x2 x3)) : Sim (r33_long_0 t2 x0 x2 x3) (Gv (r33_long_0_rel t2 x0 x2)) (LM.loop ([1, 10, 11, 12], [], [1, 2], B_r33_long_0) s) := by
 refine sim_loop M XE (r33_long_0_inv t2 x0 x2) (r33_long_0_rel t2 x0 x2) ?_ _ _ _ hk rfl
 clear hk
 rintro S hS hw hw8 R hR x3 env hp he
 change (⟨env, hp⟩ : PF.St) = r33_long_0_st t2 x0 x2 x3 at he
 cases he
 show Sim (r33_long_0_step t2 x0 x2 x3) _ _
 unfold r33_long_0_step
 simp only [hw]
 refine au (.ite Iff.rfl (fun hc => ?_) fun hc => ?_)
 ·refine au ?_
  refine Sim.ix (by simp) (fun z0 hz0 => ?_)
  refine au ?_
  refine Sim.go (idx_map _ hz0) ?_
  refine au (.ite Iff.rfl (fun hc2 => ?_) fun hc2 => ?_)
  ·exact au (.ret ⟨_, rfl, rfl⟩)
  ·refine au ?_
   exact Sim.ret ⟨_, _, rfl, rfl, rfl⟩
 ·exact au (.ret ⟨_, rfl, rfl⟩)
noncomputable def r33_long_1_step (t3 : GTick) (x4 : List GSend) (x5 : Int) (x6 : Int) : Option ((Int) ⊕ ((Bool) ⊕ (Unit))) :=
 if x6 < x5 then
  (idx? x4 x6).bind fun z2 =>
  if 40 < (List.length z2.Bytes : Int) then
   some (.inr (.inl true))
  else
   some (.inl (wr (x6 + 1)))
 else
  some (.inr (.inr ()))
noncomputable def r33_long_1 (t3 : GTick) (x4 : List GSend) (x5 : Int) (x6 : Int) : Option ((Bool) ⊕ (Unit)) :=
 loopO (fun s : Int => r33_long_1_step t3 x4 x5 s) x6
@[reducible] def r33_long_1_st (t3 : GTick) (x4 : List GSend) (x5 : Int) (x6 : Int) : PF.St := ⟨[(1, .ept (GTick.cells t3) 0), (22, lav GSend.av x4), (23, iav x5), (24, iav x6)], []⟩
def r33_long_1_rel (t3 : GTick) (x4 : List GSend) (x5 : Int) (r : ((Bool) ⊕ (Unit))) (q : ES) : Prop := (fun r (q : ES) => Sum.elim (fun r => (fun r (q : ES) => q = (Ex.ret, ⟨[(1, .ept (GTick.cells t3) 0), (2, .bool r)], []⟩)) r q) (fun r => (fun r (q : ES) => q = ((.exit 2), ⟨[(1, .ept (GTick.cells t3) 0), (2, .undef)], []⟩)) r q) r) r q
def r33_long_1_inv (t3 : GTick) (x4 : List GSend) (x5 : Int) (v : Int) (e : PF.St) : Prop := e = r33_long_1_st t3 x4 x5 v
theorem r33_long_1_sim (t3 : GTick) (x4 : List GSend) (x5 : Int) (x6 : Int) (s : PF.St) (hk : keep [1, 22, 23, 24] [] s = some (r33_long_1_st t3 x4 x5 x6)) : Sim (r33_long_1 t3 x4 x5 x6) (Gv (r33_long_1_rel t3 x4 x5)) (LM.loop ([1, 22, 23, 24], [], [1, 2], B_r33_long_1) s) := by
 refine sim_loop M XE (r33_long_1_inv t3 x4 x5) (r33_long_1_rel t3 x4 x5) ?_ _ _ _ hk rfl
 clear hk
 rintro S hS hw hw8 R hR x6 env hp he
 change (⟨env, hp⟩ : PF.St) = r33_long_1_st t3 x4 x5 x6 at he
 cases he
 show Sim (r33_long_1_step t3 x4 x5 x6) _ _
 unfold r33_long_1_step
 simp only [hw]
 refine au (.ite Iff.rfl (fun hc3 => ?_) fun hc3 => ?_)
 ·refine au ?_
  refine Sim.ix (by simp) (fun z2 hz2 => ?_)
  refine au ?_
  refine Sim.go (idx_map _ hz2) ?_
  refine au (.ite Iff.rfl (fun hc4 => ?_) fun hc4 => ?_)
  ·exact au (.ret ⟨_, rfl, rfl⟩)
  ·refine au ?_
   exact Sim.ret ⟨_, _, rfl, rfl, rfl⟩
 ·exact au (.ret ⟨_, rfl, rfl⟩)
noncomputable def r33_long_2_step (x7 : List GBurst) (x8 : Int) (x9 : Int) : Option ((Int) ⊕ ((Bool) ⊕ (Unit))) :=
 if x9 < x8 then
  (idx? x7 x9).bind fun z3 =>
  if 8000 < (List.length z3.Image : Int) then
   some (.inr (.inl true))
  else
   some (.inl (wr (x9 + 1)))
 else
  some (.inr (.inr ()))
noncomputable def r33_long_2 (x7 : List GBurst) (x8 : Int) (x9 : Int) : Option ((Bool) ⊕ (Unit)) :=
 loopO (fun s : Int => r33_long_2_step x7 x8 s) x9
@[reducible] def r33_long_2_st (x7 : List GBurst) (x8 : Int) (x9 : Int) : PF.St := ⟨[(34, lav GBurst.av x7), (35, iav x8), (36, iav x9)], []⟩
def r33_long_2_rel (x7 : List GBurst) (x8 : Int) (r : ((Bool) ⊕ (Unit))) (q : ES) : Prop := (fun r (q : ES) => Sum.elim (fun r => (fun r (q : ES) => q = (Ex.ret, ⟨[(2, .bool r)], []⟩)) r q) (fun r => (fun r (q : ES) => q = ((.exit 4), ⟨[(2, .undef)], []⟩)) r q) r) r q
def r33_long_2_inv (x7 : List GBurst) (x8 : Int) (v : Int) (e : PF.St) : Prop := e = r33_long_2_st x7 x8 v
theorem r33_long_2_sim (x7 : List GBurst) (x8 : Int) (x9 : Int) (s : PF.St) (hk : keep [34, 35, 36] [] s = some (r33_long_2_st x7 x8 x9)) : Sim (r33_long_2 x7 x8 x9) (Gv (r33_long_2_rel x7 x8)) (LM.loop ([34, 35, 36], [], [2], B_r33_long_2) s) := by
 refine sim_loop M XE (r33_long_2_inv x7 x8) (r33_long_2_rel x7 x8) ?_ _ _ _ hk rfl
 clear hk
 rintro S hS hw hw8 R hR x9 env hp he
 change (⟨env, hp⟩ : PF.St) = r33_long_2_st x7 x8 x9 at he
 cases he
 show Sim (r33_long_2_step x7 x8 x9) _ _
 unfold r33_long_2_step
 simp only [hw]
 refine au (.ite Iff.rfl (fun hc5 => ?_) fun hc5 => ?_)
 ·refine au ?_
  refine Sim.ix (by simp) (fun z3 hz3 => ?_)
  refine au ?_
  refine Sim.go (idx_map _ hz3) ?_
  refine au (.ite Iff.rfl (fun hc6 => ?_) fun hc6 => ?_)
  ·exact au (.ret ⟨_, rfl, rfl⟩)
  ·refine au ?_
   exact Sim.ret ⟨_, _, rfl, rfl, rfl⟩
 ·exact au (.ret ⟨_, rfl, rfl⟩)
noncomputable def r33_long (t0 : GTick) : Option Bool :=
 (r33_long_0 t0 t0.Sends (List.length t0.Sends : Int) 0).bind fun r0 =>
 Sum.elim
  (fun r2 =>
    some r2)
  (fun r3 =>
    (r33_long_1 t0 t0.Strays (List.length t0.Strays : Int) 0).bind fun r4 =>
    Sum.elim
     (fun r5 =>
       some r5)
     (fun r6 =>
       (r33_long_2 t0.Bursts (List.length t0.Bursts : Int) 0).bind fun r7 =>
       Sum.elim
        (fun r8 =>
          some r8)
        (fun r9 =>
          some false)
        r7)
     r4)
  r0
theorem r33_long_sim (t0 : GTick) : Sim (r33_long t0) (Gv fun r q => q = (.bool r, [])) (LM.call n_r33_long [GTick.av t0] []) := by
 unfold r33_long
 refine sim_evR M XE rfl rfl fun S hS hw hw8 R hR => ?_
 refine au ?_
 refine Sim.ki hS (m := (List.length t0.Sends : Int)) (by simp) ?_
 refine au ?_
 refine Sim.callL hR (r33_long_0_sim t0 t0.Sends (List.length t0.Sends : Int) 0 _ rfl) ?_
 rintro r0 q hr
 rcases r0 with r2 | r3
 ·cases hr
  exact au (.ret ⟨_, rfl, rfl⟩)
 ·cases hr
  refine au ?_
  refine Sim.ki hS (m := (List.length t0.Strays : Int)) (by simp) ?_
  refine au ?_
  refine Sim.callL hR (r33_long_1_sim t0 t0.Strays (List.length t0.Strays : Int) 0 _ rfl) ?_
  rintro r4 q hr
  rcases r4 with r5 | r6
  ·cases hr
   exact au (.ret ⟨_, rfl, rfl⟩)
  ·cases hr
   refine au ?_
   refine Sim.ki hS (m := (List.length t0.Bursts : Int)) (by simp) ?_
   refine au ?_
   refine Sim.callL hR (r33_long_2_sim t0.Bursts (List.length t0.Bursts : Int) 0 _ rfl) ?_
   rintro r7 q hr
   rcases r7 with r8 | r9
   ·cases hr
    exact au (.ret ⟨_, rfl, rfl⟩)
   ·cases hr
    exact au (.ret ⟨_, rfl, rfl⟩)
noncomputable def r33_tick_0_step (x0 : List GWrite) (x2 : Int) (x3 : Int) : Option ((Int) ⊕ ((Int) ⊕ (Unit))) :=
 if x3 < x2 then
  (idx? x0 x3).bind fun z0 =>
  if 16 < (List.length z0.Text : Int) then
   some (.inr (.inl 15))
  else
   some (.inl (wr (x3 + 1)))
 else
  some (.inr (.inr ()))
noncomputable def r33_tick_0 (x0 : List GWrite) (x2 : Int) (x3 : Int) : Option ((Int) ⊕ (Unit)) :=
 loopO (fun s : Int => r33_tick_0_step x0 x2 s) x3
@[reducible] def r33_tick_0_st (x0 : List GWrite) (x2 : Int) (x3 : Int) : PF.St := ⟨[(66, lav GWrite.av x0), (67, iav x2), (68, iav x3)], []⟩
def r33_tick_0_rel (x0 : List GWrite) (x2 : Int) (r : ((Int) ⊕ (Unit))) (q : ES) : Prop := (fun r (q : ES) => Sum.elim (fun r => (fun r (q : ES) => q = (Ex.ret, ⟨[(4, iav r)], []⟩)) r q) (fun r => (fun r (q : ES) => q = ((.exit 0), ⟨[(4, .undef)], []⟩)) r q) r) r q
def r33_tick_0_inv (x0 : List GWrite) (x2 : Int) (v : Int) (e : PF.St) : Prop := e = r33_tick_0_st x0 x2 v
theorem r33_tick_0_sim (x0 : List GWrite) (x2 : Int) (x3 : Int) (s : PF.St) (hk : keep [66, 67, 68] [] s = some (r33_tick_0_st x0 x2 x3)) : Sim (r33_tick_0 x0 x2 x3) (Gv (r33_tick_0_rel x0 x2)) (LM.loop ([66, 67, 68], [], [4], B_r33_tick_0) s) := by
 refine sim_loop M XE (r33_tick_0_inv x0 x2) (r33_tick_0_rel x0 x2) ?_ _ _ _ hk rfl
 clear hk
 rintro S hS hw hw8 R hR x3 env hp he
 change (⟨env, hp⟩ : PF.St) = r33_tick_0_st x0 x2 x3 at he
 cases he
 show Sim (r33_tick_0_step x0 x2 x3) _ _
 unfold r33_tick_0_step
 simp only [hw]
 refine au (.ite Iff.rfl (fun hc10 => ?_) fun hc10 => ?_)
 ·refine au ?_
  refine Sim.ix (by simp) (fun z0 hz0 => ?_)
  refine au ?_
  refine Sim.go (idx_map _ hz0) ?_
  refine au (.ite Iff.rfl (fun hc11 => ?_) fun hc11 => ?_)
  ·exact au (.ret ⟨_, rfl, rfl⟩)
  ·refine au ?_
   exact Sim.ret ⟨_, _, rfl, rfl, rfl⟩
 ·exact au (.ret ⟨_, rfl, rfl⟩)
noncomputable def r33_tick (L0 : GConf) (i0 : GTick) : Option Int :=
 (r33_within i0.Units L0.N).bind fun r0 =>
 if (!r0) = true then
  some 2
 else
  (r33_within i0.Delays (wr (L0.N * L0.N))).bind fun r2 =>
  if (!r2) = true then
   some 2
  else
   (r33_waits i0).bind fun r3 =>
   (r33_within r3 (wr ((List.length i0.Sends : Int) + (List.length i0.Strays : Int)))).bind fun r4 =>
   if (!r4) = true then
    some 2
   else
    if 40 < (List.length i0.Sends : Int) then
     some 9
    else
     if 40 < (List.length i0.Bursts : Int) then
      some 9
     else
      if 40 < (List.length i0.Strays : Int) then
       some 9
      else
       if 40 < (List.length i0.Writes : Int) then
        some 9
       else
        (r33_nodes L0 i0).bind fun r5 =>
        if (!r5) = true then
         some 7
        else
         (r33_long i0).bind fun r6 =>
         if r6 = true then
          some 6
         else
          (r33_tick_0 i0.Writes (List.length i0.Writes : Int) 0).bind fun r7 =>
          Sum.elim
           (fun r8 =>
             some r8)
           (fun r9 =>
             some 0)
           r7
theorem r33_tick_sim (L0 : GConf) (i0 : GTick) : Sim (r33_tick L0 i0) (Gv fun r q => q = (iav r, [])) (LM.call n_r33_tick [GConf.av L0, GTick.av i0] []) := by
 unfold r33_tick
 refine sim_evR M XE rfl rfl fun S hS hw hw8 R hR => ?_
 simp only [hw]
 refine au (cE hR (r33_within_sim _ _) fun r0 => ?_)
 refine au (.iteB (fun hc => ?_) fun hc => ?_)
 ·exact au (.ret ⟨_, rfl, rfl⟩)
 ·refine au (cE hR (r33_within_sim _ _) fun r2 => ?_)
  refine au (.iteB (fun hc2 => ?_) fun hc2 => ?_)
  ·exact au (.ret ⟨_, rfl, rfl⟩)
  ·refine au (cE hR (r33_waits_sim _) fun r3 => ?_)
   refine au ?_
   refine Sim.ki hS (m := (List.length i0.Sends : Int)) (by simp) ?_
   refine au ?_
   refine Sim.ki hS (m := (List.length i0.Strays : Int)) (by simp) ?_
   refine au (cE hR (r33_within_sim _ _) fun r4 => ?_)
   refine au (.iteB (fun hc3 => ?_) fun hc3 => ?_)
   ·exact au (.ret ⟨_, rfl, rfl⟩)
   ·refine au ?_
    refine Sim.ki hS (m := (List.length i0.Sends : Int)) (by simp) ?_
    refine au (.ite Iff.rfl (fun hc4 => ?_) fun hc4 => ?_)
    ·exact au (.ret ⟨_, rfl, rfl⟩)
    ·refine au ?_
     refine Sim.ki hS (m := (List.length i0.Bursts : Int)) (by simp) ?_
     refine au (.ite Iff.rfl (fun hc5 => ?_) fun hc5 => ?_)
     ·exact au (.ret ⟨_, rfl, rfl⟩)
     ·refine au ?_
      refine Sim.ki hS (m := (List.length i0.Strays : Int)) (by simp) ?_
      refine au (.ite Iff.rfl (fun hc6 => ?_) fun hc6 => ?_)
      ·exact au (.ret ⟨_, rfl, rfl⟩)
      ·refine au ?_
       refine Sim.ki hS (m := (List.length i0.Writes : Int)) (by simp) ?_
       refine au (.ite Iff.rfl (fun hc7 => ?_) fun hc7 => ?_)
       ·exact au (.ret ⟨_, rfl, rfl⟩)
       ·refine au (cE hR (r33_nodes_sim _ _) fun r5 => ?_)
        refine au (.iteB (fun hc8 => ?_) fun hc8 => ?_)
        ·exact au (.ret ⟨_, rfl, rfl⟩)
        ·refine au (cE hR (r33_long_sim _) fun r6 => ?_)
         refine au (.iteB (fun hc9 => ?_) fun hc9 => ?_)
         ·exact au (.ret ⟨_, rfl, rfl⟩)
         ·refine au ?_
          refine Sim.ki hS (m := (List.length i0.Writes : Int)) (by simp) ?_
          refine au ?_
          refine Sim.callL hR (r33_tick_0_sim i0.Writes (List.length i0.Writes : Int) 0 _ rfl) ?_
          rintro r7 q hr
          rcases r7 with r8 | r9
          ·cases hr
           exact au (.ret ⟨_, rfl, rfl⟩)
          ·cases hr
           exact au (.ret ⟨_, rfl, rfl⟩)
noncomputable def r33_Right_0_step (i0 : GScript) (t0 : Int) : Option ((Int) ⊕ ((Int) ⊕ (Unit))) :=
 if t0 < (List.length i0.Faulty : Int) then
  (idx? i0.Faulty t0).bind fun z0 =>
  (r33_node i0.Conf z0).bind fun r3 =>
  if (!r3) = true then
   some (.inr (.inl 7))
  else
   if 0 ≤ t0 ∧ t0 ≤ ((List.length i0.Faulty) : Nat) then
    (idx? i0.Faulty t0).bind fun z2 =>
    (r14_In (List.take (Int.toNat t0) i0.Faulty) z2).bind fun r4 =>
    if r4 = true then
     some (.inr (.inl 7))
    else
     some (.inl (wr (t0 + 1)))
   else none
 else
  some (.inr (.inr ()))
noncomputable def r33_Right_0 (i0 : GScript) (t0 : Int) : Option ((Int) ⊕ (Unit)) :=
 loopO (fun s : Int => r33_Right_0_step i0 s) t0
@[reducible] def r33_Right_0_st (i0 : GScript) (t0 : Int) : PF.St := ⟨[(1, .ept (GScript.cells i0) 0), (3, iav t0)], []⟩
def r33_Right_0_rel (i0 : GScript) (r : ((Int) ⊕ (Unit))) (q : ES) : Prop := (fun r (q : ES) => Sum.elim (fun r => (fun r (q : ES) => q = (Ex.ret, ⟨[(1, .ept (GScript.cells i0) 0), (2, iav r)], []⟩)) r q) (fun r => (fun r (q : ES) => q = ((.exit 0), ⟨[(1, .ept (GScript.cells i0) 0), (2, .undef)], []⟩)) r q) r) r q
def r33_Right_0_inv (i0 : GScript) (v : Int) (e : PF.St) : Prop := e = r33_Right_0_st i0 v
theorem r33_Right_0_sim (i0 : GScript) (t0 : Int) (s : PF.St) (hk : keep [1, 3] [] s = some (r33_Right_0_st i0 t0)) : Sim (r33_Right_0 i0 t0) (Gv (r33_Right_0_rel i0)) (LM.loop ([1, 3], [], [1, 2], B_r33_Right_0) s) := by
 refine sim_loop M XE (r33_Right_0_inv i0) (r33_Right_0_rel i0) ?_ _ _ _ hk rfl
 clear hk
 rintro S hS hw hw8 R hR t0 env hp he
 change (⟨env, hp⟩ : PF.St) = r33_Right_0_st i0 t0 at he
 cases he
 show Sim (r33_Right_0_step i0 t0) _ _
 unfold r33_Right_0_step
 simp only [hw]
 refine au ?_
 refine Sim.ki hS (m := (List.length i0.Faulty : Int)) (by simp) ?_
 refine au (.ite Iff.rfl (fun hc2 => ?_) fun hc2 => ?_)
 ·refine au ?_
  refine Sim.ix (by simp) (fun z0 hz0 => ?_)
  refine au ?_
  refine Sim.go (idx_map _ hz0) ?_
  refine au (cE hR (r33_node_sim _ _) fun r3 => ?_)
  refine au (.iteB (fun hc3 => ?_) fun hc3 => ?_)
  ·exact au (.ret ⟨_, rfl, rfl⟩)
  ·refine au ?_
   first | (refine Sim.goB (headE_map (by intro _; rfl) _) ?_) | skip
   refine au ?_
   refine Sim.kn hS (m := (List.length i0.Faulty)) (by simp) ?_
   refine au ?_
   first | refine Sim.ite Iff.rfl (fun _ => ?_) (fun _ => Sim.no) | refine Sim.guard (fun _ => ?_)
   refine au ?_
   refine Sim.kl hS (ys := List.map iav (List.take (Int.toNat t0) i0.Faulty)) (by simp only [PF.cut, List.map_drop, List.map_take]) ?_
   refine au ?_
   refine Sim.ix (by simp) (fun z2 hz2 => ?_)
   refine au ?_
   refine Sim.go (idx_map _ hz2) ?_
   refine au (cE hR (r14_In_sim _ _) fun r4 => ?_)
   refine au (.iteB (fun hc4 => ?_) fun hc4 => ?_)
   ·exact au (.ret ⟨_, rfl, rfl⟩)
   ·refine au ?_
    exact Sim.ret ⟨_, _, rfl, rfl, rfl⟩
 ·exact au (.ret ⟨_, rfl, rfl⟩)
noncomputable def r33_Right_1_step (i2 : GScript) (x0 : Int) : Option ((Int) ⊕ ((Int) ⊕ (Unit))) :=
 if x0 < (List.length i2.Images : Int) then
  (idx? i2.Images x0).bind fun z3 =>
  if 8000 < (List.length z3 : Int) then
   some (.inr (.inl 6))
  else
   some (.inl (wr (x0 + 1)))
 else
  some (.inr (.inr ()))
noncomputable def r33_Right_1 (i2 : GScript) (x0 : Int) : Option ((Int) ⊕ (Unit)) :=
 loopO (fun s : Int => r33_Right_1_step i2 s) x0
@[reducible] def r33_Right_1_st (i2 : GScript) (x0 : Int) : PF.St := ⟨[(1, .ept (GScript.cells i2) 0), (4, iav x0)], []⟩
def r33_Right_1_rel (i2 : GScript) (r : ((Int) ⊕ (Unit))) (q : ES) : Prop := (fun r (q : ES) => Sum.elim (fun r => (fun r (q : ES) => q = (Ex.ret, ⟨[(1, .ept (GScript.cells i2) 0), (2, iav r)], []⟩)) r q) (fun r => (fun r (q : ES) => q = ((.exit 2), ⟨[(1, .ept (GScript.cells i2) 0), (2, .undef)], []⟩)) r q) r) r q
def r33_Right_1_inv (i2 : GScript) (v : Int) (e : PF.St) : Prop := e = r33_Right_1_st i2 v
theorem r33_Right_1_sim (i2 : GScript) (x0 : Int) (s : PF.St) (hk : keep [1, 4] [] s = some (r33_Right_1_st i2 x0)) : Sim (r33_Right_1 i2 x0) (Gv (r33_Right_1_rel i2)) (LM.loop ([1, 4], [], [1, 2], B_r33_Right_1) s) := by
 refine sim_loop M XE (r33_Right_1_inv i2) (r33_Right_1_rel i2) ?_ _ _ _ hk rfl
 clear hk
 rintro S hS hw hw8 R hR x0 env hp he
 change (⟨env, hp⟩ : PF.St) = r33_Right_1_st i2 x0 at he
 cases he
 show Sim (r33_Right_1_step i2 x0) _ _
 unfold r33_Right_1_step
 simp only [hw]
 refine au ?_
 refine Sim.ki hS (m := (List.length i2.Images : Int)) (by simp) ?_
 refine au (.ite Iff.rfl (fun hc7 => ?_) fun hc7 => ?_)
 ·refine au ?_
  refine Sim.ix (by simp) (fun z3 hz3 => ?_)
  refine au ?_
  refine Sim.go (idx_map _ hz3) ?_
  refine au (.ite Iff.rfl (fun hc8 => ?_) fun hc8 => ?_)
  ·exact au (.ret ⟨_, rfl, rfl⟩)
  ·refine au ?_
   exact Sim.ret ⟨_, _, rfl, rfl, rfl⟩
 ·exact au (.ret ⟨_, rfl, rfl⟩)
noncomputable def r33_Right_2_step (i3 : GScript) (t2 : Int) : Option ((Int) ⊕ ((Int) ⊕ (Unit))) :=
 if t2 < (List.length i3.Ticks : Int) then
  (idx? i3.Ticks t2).bind fun z4 =>
  (r33_tick i3.Conf z4).bind fun r11 =>
  if r11 ≠ 0 then
   some (.inr (.inl r11))
  else
   some (.inl (wr (t2 + 1)))
 else
  some (.inr (.inr ()))
noncomputable def r33_Right_2 (i3 : GScript) (t2 : Int) : Option ((Int) ⊕ (Unit)) :=
 loopO (fun s : Int => r33_Right_2_step i3 s) t2
@[reducible] def r33_Right_2_st (i3 : GScript) (t2 : Int) : PF.St := ⟨[(1, .ept (GScript.cells i3) 0), (5, iav t2)], []⟩
def r33_Right_2_rel (i3 : GScript) (r : ((Int) ⊕ (Unit))) (q : ES) : Prop := (fun r (q : ES) => Sum.elim (fun r => (fun r (q : ES) => q = (Ex.ret, ⟨[(2, iav r)], []⟩)) r q) (fun r => (fun r (q : ES) => q = ((.exit 4), ⟨[(2, .undef)], []⟩)) r q) r) r q
def r33_Right_2_inv (i3 : GScript) (v : Int) (e : PF.St) : Prop := e = r33_Right_2_st i3 v
theorem r33_Right_2_sim (i3 : GScript) (t2 : Int) (s : PF.St) (hk : keep [1, 5] [] s = some (r33_Right_2_st i3 t2)) : Sim (r33_Right_2 i3 t2) (Gv (r33_Right_2_rel i3)) (LM.loop ([1, 5], [], [2], B_r33_Right_2) s) := by
 refine sim_loop M XE (r33_Right_2_inv i3) (r33_Right_2_rel i3) ?_ _ _ _ hk rfl
 clear hk
 rintro S hS hw hw8 R hR t2 env hp he
 change (⟨env, hp⟩ : PF.St) = r33_Right_2_st i3 t2 at he
 cases he
 show Sim (r33_Right_2_step i3 t2) _ _
 unfold r33_Right_2_step
 simp only [hw]
 refine au ?_
 refine Sim.ki hS (m := (List.length i3.Ticks : Int)) (by simp) ?_
 refine au (.ite Iff.rfl (fun hc9 => ?_) fun hc9 => ?_)
 ·refine au ?_
  refine Sim.ix (by simp) (fun z4 hz4 => ?_)
  refine au ?_
  refine Sim.go (idx_map _ hz4) ?_
  refine au (cE hR (r33_tick_sim _ _) fun r11 => ?_)
  refine au (.ite Iff.rfl (fun hc10 => ?_) fun hc10 => ?_)
  ·exact au (.ret ⟨_, rfl, rfl⟩)
  ·refine au ?_
   exact Sim.ret ⟨_, _, rfl, rfl, rfl⟩
 ·exact au (.ret ⟨_, rfl, rfl⟩)
noncomputable def r33_Right (L0 : GScript) : Option Int :=
 (r04_Right L0.Conf).bind fun r0 =>
 if r0 ≠ 0 then
  (r04_Right L0.Conf).bind fun r2 =>
  some r2
 else
  (r33_Right_0 L0 0).bind fun r5 =>
  Sum.elim
   (fun r6 =>
     some r6)
   (fun r7 =>
     if L0.Conf.N < (List.length L0.Images : Int) then
      some 6
     else
      if 2000 < (List.length L0.Ticks : Int) then
       some 6
      else
       (r33_Right_1 L0 0).bind fun r8 =>
       Sum.elim
        (fun r9 =>
          some r9)
        (fun r10 =>
          (r33_Right_2 L0 0).bind fun r12 =>
          Sum.elim
           (fun r13 =>
             some r13)
           (fun r14 =>
             some 0)
           r12)
        r8)
   r5
theorem r33_Right_sim (L0 : GScript) : Sim (r33_Right L0) (Gv fun r q => q = (iav r, [])) (LM.call n_r33_Right [GScript.av L0] []) := by
 unfold r33_Right
 refine sim_evR M XE rfl rfl fun S hS hw hw8 R hR => ?_
 refine au (cE hR (r04_Right_sim _) fun r0 => ?_)
 refine au (.ite Iff.rfl (fun hc => ?_) fun hc => ?_)
 ·refine au (cE hR (r04_Right_sim _) fun r2 => ?_)
  exact au (.ret ⟨_, rfl, rfl⟩)
 ·refine au ?_
  refine Sim.callL hR (r33_Right_0_sim L0 0 _ rfl) ?_
  rintro r5 q hr
  rcases r5 with r6 | r7
  ·cases hr
   exact au (.ret ⟨_, rfl, rfl⟩)
  ·cases hr
   refine au ?_
   refine Sim.ki hS (m := (List.length L0.Images : Int)) (by simp) ?_
   refine au (.ite Iff.rfl (fun hc5 => ?_) fun hc5 => ?_)
   ·exact au (.ret ⟨_, rfl, rfl⟩)
   ·refine au ?_
    refine Sim.ki hS (m := (List.length L0.Ticks : Int)) (by simp) ?_
    refine au (.ite Iff.rfl (fun hc6 => ?_) fun hc6 => ?_)
    ·exact au (.ret ⟨_, rfl, rfl⟩)
    ·refine au ?_
     refine Sim.callL hR (r33_Right_1_sim L0 0 _ rfl) ?_
     rintro r8 q hr
     rcases r8 with r9 | r10
     ·cases hr
      exact au (.ret ⟨_, rfl, rfl⟩)
     ·cases hr
      refine au ?_
      refine Sim.callL hR (r33_Right_2_sim L0 0 _ rfl) ?_
      rintro r12 q hr
      rcases r12 with r13 | r14
      ·cases hr
       exact au (.ret ⟨_, rfl, rfl⟩)
      ·cases hr
       exact au (.ret ⟨_, rfl, rfl⟩)
noncomputable def l40_LinesBack (s0 : GScript) : Option Bool :=
 (r33_Few s0 300).bind fun r0 =>
 if (!r0) = true then
  (l40_known).bind fun r2 =>
  some r2
 else
  (r33_Right s0).bind fun r3 =>
  if r3 ≠ 0 then
   (l40_known).bind fun r4 =>
   some r4
  else
   (lines_Write s0).bind fun r5 =>
   (lines_Read r5.1).bind fun r6 =>
   if r5.2 = 0 then
    if r6.2.2 = 0 then
     if r6.2.1 = 0 then
      (r33_Same r6.1 s0).bind fun r7 =>
      if r7 = true then
       (l40_known).bind fun r8 =>
       some r8
      else
       some false
     else
      some false
    else
     some false
   else
    some false
theorem l40_LinesBack_sim (s0 : GScript) : Sim (l40_LinesBack s0) (Gv fun r q => q = (.bool r, [])) (LM.call n_l40_LinesBack [GScript.av s0] []) := by
 unfold l40_LinesBack
 refine sim_evR M XE rfl rfl fun S hS hw hw8 R hR => ?_
 refine au (cE hR (r33_Few_sim _ _) fun r0 => ?_)
 refine au (.iteB (fun hc => ?_) fun hc => ?_)
 ·refine au (cE hR (l40_known_sim) fun r2 => ?_)
  exact au (.ret ⟨_, rfl, rfl⟩)
 ·refine au (cE hR (r33_Right_sim _) fun r3 => ?_)
  refine au (.ite Iff.rfl (fun hc2 => ?_) fun hc2 => ?_)
  ·refine au (cE hR (l40_known_sim) fun r4 => ?_)
   exact au (.ret ⟨_, rfl, rfl⟩)
  ·refine au (cE hR (lines_Write_sim _) fun r5 => ?_)
   refine au (cE hR (lines_Read_sim _) fun r6 => ?_)
   refine au (.ite Iff.rfl (fun hc3 => ?_) fun hc3 => ?_)
   ·refine au (.ite Iff.rfl (fun hc4 => ?_) fun hc4 => ?_)
    ·refine au (.ite Iff.rfl (fun hc5 => ?_) fun hc5 => ?_)
     ·refine au (cE hR (r33_Same_sim _ _) fun r7 => ?_)
      refine au (.iteB (fun hc6 => ?_) fun hc6 => ?_)
      ·refine au (cE hR (l40_known_sim) fun r8 => ?_)
       exact au (.ret ⟨_, rfl, rfl⟩)
      ·exact au (.ret ⟨_, rfl, rfl⟩)
     ·exact au (.ret ⟨_, rfl, rfl⟩)
    ·exact au (.ret ⟨_, rfl, rfl⟩)
   ·exact au (.ret ⟨_, rfl, rfl⟩)
end Go.Proofs.YtfjlpfjpidikjaaGreatDoor
