/-
  The program's functions as plain functions (printed by a program of mine), each beside the machine's.
-/
import Derived.Test.YtnbmaoendgafbaaDa
set_option linter.unusedVariables false
set_option linter.unusedSimpArgs false
set_option maxRecDepth 100000
set_option maxHeartbeats 4000000
namespace Go.Proofs.Ytnbmaoendgafbaa
open Go.Proofs.PF
@[reducible] def image_recall_lists_3_st (x7 : Int) (o9 : Gimage_recall) (o10 : GMem) (g22 : Gr) (g23 : Gr) (g24 : Gr) : PF.St := ⟨[(0, .ptr 0 0), (1, .ptr 1 0), (103, iav x7)], [(0, ⟨true, Gimage_recall.cells o9⟩), (1, ⟨true, [iav o10.Clock, iav o10.Anchor, iav o10.Since, .str o10.Pipe, iav o10.Age, .str o10.Vec, .str o10.Agreed, iav o10.Number, iav o10.Regular, .str o10.Members, .str o10.Seen, .str o10.Heard, .str o10.Sent, .str o10.Out, .str o10.Line, .lst g22 (List.map GPort.av o10.Ports), .lst g23 (List.map sav o10.Hold), .lst g24 (List.map GEntry.av o10.Log), iav o10.Diag.a0, iav o10.Diag.a1, iav o10.Diag.a2, iav o10.Diag.a3, iav o10.Diag.a4, iav o10.Diag.a5]⟩)]⟩
def image_recall_lists_3_rel (r : (Gimage_recall × GMem)) (q : Ex × PF.St) : Prop := (fun r (q : Ex × PF.St) => ∃ g0', ∃ g1', ∃ g2', q = ((.exit 6), ⟨[], [(0, ⟨true, Gimage_recall.cells r.1⟩), (1, ⟨true, [iav r.2.Clock, iav r.2.Anchor, iav r.2.Since, .str r.2.Pipe, iav r.2.Age, .str r.2.Vec, .str r.2.Agreed, iav r.2.Number, iav r.2.Regular, .str r.2.Members, .str r.2.Seen, .str r.2.Heard, .str r.2.Sent, .str r.2.Out, .str r.2.Line, .lst g0' (List.map GPort.av r.2.Ports), .lst g1' (List.map sav r.2.Hold), .lst g2' (List.map GEntry.av r.2.Log), iav r.2.Diag.a0, iav r.2.Diag.a1, iav r.2.Diag.a2, iav r.2.Diag.a3, iav r.2.Diag.a4, iav r.2.Diag.a5]⟩)]⟩) ∧ Mg 3 g0' ∧ Mg 1 g1' ∧ Mg 2 g2') r q
def image_recall_lists_3_inv (v : Int × Gimage_recall × GMem) (e : PF.St) : Prop := ∃ g22, ∃ g23, ∃ g24, e = image_recall_lists_3_st v.1 v.2.1 v.2.2 g22 g23 g24 ∧ Mg 3 g22 ∧ Mg 1 g23 ∧ Mg 2 g24
theorem image_recall_lists_3_sim (x7 : Int) (o9 : Gimage_recall) (o10 : GMem) (g22 : Gr) (hg22 : Mg 3 g22) (g23 : Gr) (hg23 : Mg 1 g23) (g24 : Gr) (hg24 : Mg 2 g24) (s : PF.St) (hk : keep [0, 1, 103] [] s = some (image_recall_lists_3_st x7 o9 o10 g22 g23 g24)) : Sim (image_recall_lists_3 x7 o9 o10) (Gv (image_recall_lists_3_rel)) (LM.loop ([0, 1, 103], [], [], B_image_recall_lists_3) s) := by
  refine sim_loop M XE (image_recall_lists_3_inv) (image_recall_lists_3_rel) ?_ _ _ _ hk ⟨g22, g23, g24, rfl, hg22, hg23, hg24⟩
  clear hk hg22 hg23 hg24
  rintro S hS hw hw8 R hR ⟨x7, o9, o10⟩ env hp ⟨g22, g23, g24, he, hg22, hg23, hg24⟩
  change (⟨env, hp⟩ : PF.St) = image_recall_lists_3_st x7 o9 o10 g22 g23 g24 at he
  cases he
  show Sim (image_recall_lists_3_step x7 o9 o10) _ _
  unfold image_recall_lists_3_step
  simp only [hw]
  refine au (.ite Iff.rfl (fun hc5 => ?_) fun hc5 => ?_)
  · refine au (cE hR (image_reader_word_sim _) fun r11 => ?_)
    refine au ?_
    first | refine Sim.ite Iff.rfl (fun hb => ?_) (fun _ => Sim.no) | refine Sim.guard (fun hb => ?_)
    refine au ?_
    refine Sim.opt (f := fun y0 => [iav o10.Clock, iav o10.Anchor, iav o10.Since, .str o10.Pipe, iav o10.Age, .str o10.Vec, .str o10.Agreed, iav o10.Number, iav o10.Regular, .str o10.Members, .str o10.Seen, .str o10.Heard, .str o10.Sent, .str o10.Out, .str o10.Line, .lst g22 (List.map GPort.av o10.Ports), .lst g23 (List.map sav o10.Hold), .lst g24 (List.map GEntry.av o10.Log), iav y0.a0, iav y0.a1, iav y0.a2, iav y0.a3, iav y0.a4, iav y0.a5]) (by have hb' : (Int.toNat x7) < 6 := (by omega); generalize (Int.toNat x7) = j at hb' ⊢; rcases j with _|_|_|_|_|_|j <;> first | rfl | exact absurd hb' (by omega)) (fun y0 _ => ?_)
    refine au ?_
    exact Sim.ret ⟨_, _, rfl, rfl, ⟨_, _, _, rfl, hg22, hg23, hg24⟩⟩
  · refine au ?_
    exact Sim.ret ⟨_, rfl, ⟨_, _, _, rfl, hg22, hg23, hg24⟩⟩
noncomputable def image_recall_lists (o0 : Gimage_recall) (o2 : GMem) : Option (Gimage_recall × GMem) :=
  (image_recall_lists_0 o0.f_c.N 0 o0 o2).bind fun r4 =>
  (image_recall_lists_1 (wr (r4.1.f_c.N * r4.1.f_c.D)) 0 r4.1 r4.2).bind fun r6 =>
  (image_reader_byte r6.1).bind fun r7 =>
  (image_recall_lists_2 (Int.tmod r7.1 65) 0 r7.2 r6.2).bind fun r10 =>
  (image_recall_lists_3 0 r10.1 r10.2).bind fun r12 =>
  some (r12.1, r12.2)
theorem image_recall_lists_sim (o0 : Gimage_recall) (o2 : GMem) (g0 : Gr) (hg0 : Mg 3 g0) (g2 : Gr) (hg2 : Mg 1 g2) (g3 : Gr) (hg3 : Mg 2 g3) : Sim (image_recall_lists o0 o2) (Gv fun r q => ∃ g0, ∃ g1, ∃ g2, q = (.tup [], [⟨true, Gimage_recall.cells r.1⟩, ⟨true, [iav r.2.Clock, iav r.2.Anchor, iav r.2.Since, .str r.2.Pipe, iav r.2.Age, .str r.2.Vec, .str r.2.Agreed, iav r.2.Number, iav r.2.Regular, .str r.2.Members, .str r.2.Seen, .str r.2.Heard, .str r.2.Sent, .str r.2.Out, .str r.2.Line, .lst g0 (List.map GPort.av r.2.Ports), .lst g1 (List.map sav r.2.Hold), .lst g2 (List.map GEntry.av r.2.Log), iav r.2.Diag.a0, iav r.2.Diag.a1, iav r.2.Diag.a2, iav r.2.Diag.a3, iav r.2.Diag.a4, iav r.2.Diag.a5]⟩]) ∧ Mg 3 g0 ∧ Mg 1 g1 ∧ Mg 2 g2) (LM.call n_image_recall_lists [.ptr 0 0, .ptr 1 0] [⟨true, Gimage_recall.cells o0⟩, ⟨true, [iav o2.Clock, iav o2.Anchor, iav o2.Since, .str o2.Pipe, iav o2.Age, .str o2.Vec, .str o2.Agreed, iav o2.Number, iav o2.Regular, .str o2.Members, .str o2.Seen, .str o2.Heard, .str o2.Sent, .str o2.Out, .str o2.Line, .lst g0 (List.map GPort.av o2.Ports), .lst g2 (List.map sav o2.Hold), .lst g3 (List.map GEntry.av o2.Log), iav o2.Diag.a0, iav o2.Diag.a1, iav o2.Diag.a2, iav o2.Diag.a3, iav o2.Diag.a4, iav o2.Diag.a5]⟩]) := by
  unfold image_recall_lists
  refine sim_evR M XE rfl rfl fun S hS hw hw8 R hR => ?_
  simp only [hw]
  refine au ?_
  refine Sim.callL hR (image_recall_lists_0_sim o0.f_c.N 0 o0 o2 g0 hg0 g2 hg2 g3 hg3 _ rfl) ?_
  rintro r4 q ⟨g7, g8, g9, rfl, hg7, hg8, hg9⟩
  refine au ?_
  refine Sim.callL hR (image_recall_lists_1_sim (S.wr (r4.1.f_c.N * r4.1.f_c.D)) 0 r4.1 r4.2 g7 hg7 g8 hg8 g9 hg9 _ rfl) ?_
  rintro r6 q ⟨g13, g14, g15, rfl, hg13, hg14, hg15⟩
  refine au (cE hR (image_reader_byte_sim _) fun r7 => ?_)
  refine au ?_
  refine Sim.callL hR (image_recall_lists_2_sim (Int.tmod r7.1 65) 0 r7.2 r6.2 g13 hg13 g14 hg14 g15 hg15 _ rfl) ?_
  rintro r10 q ⟨g19, g20, g21, rfl, hg19, hg20, hg21⟩
  refine au ?_
  refine Sim.callL hR (image_recall_lists_3_sim 0 r10.1 r10.2 g19 hg19 g20 hg20 g21 hg21 _ rfl) ?_
  rintro r12 q ⟨g25, g26, g27, rfl, hg25, hg26, hg27⟩
  refine au ?_
  exact Sim.ret ⟨_, rfl, ⟨_, _, _, rfl, hg25, hg26, hg27⟩⟩
noncomputable def image_Read (c0 : GConf) (s0 : List UInt8) : Option GMem :=
  (conf_Plain c0).bind fun r0 =>
  if r0 ≠ 0 then
    some (GMem.mk 0 0 0 ([] : List UInt8) 0 ([] : List UInt8) ([] : List UInt8) 0 0 ([] : List UInt8) ([] : List UInt8) ([] : List UInt8) ([] : List UInt8) ([] : List UInt8) ([] : List UInt8) ([] : List GPort) ([] : List (List UInt8)) ([] : List GEntry) (Ar6.mk 0 0 0 0 0 0))
  else
    (image_recall_numbers (Gimage_recall.mk (Gimage_reader.mk s0 0) c0) (GMem.mk 0 0 0 ([] : List UInt8) 0 ([] : List UInt8) ([] : List UInt8) 0 0 ([] : List UInt8) ([] : List UInt8) ([] : List UInt8) ([] : List UInt8) ([] : List UInt8) ([] : List UInt8) ([] : List GPort) ([] : List (List UInt8)) ([] : List GEntry) (Ar6.mk 0 0 0 0 0 0))).bind fun r2 =>
    (image_recall_texts r2.1 r2.2).bind fun r3 =>
    (image_recall_lists r3.1 r3.2).bind fun r4 =>
    (mem_Mend c0 r4.2).bind fun r5 =>
    some r5
theorem image_Read_sim (c0 : GConf) (s0 : List UInt8) : Sim (image_Read c0 s0) (Gv fun r q => q = (GMem.av r, [])) (LM.call n_image_Read [GConf.av c0, .str s0] []) := by
  unfold image_Read
  refine sim_evR M XE rfl rfl fun S hS hw hw8 R hR => ?_
  refine au (cE hR (conf_Plain_sim _) fun r0 => ?_)
  refine au (.ite Iff.rfl (fun hc => ?_) fun hc => ?_)
  · exact au (.ret ⟨_, rfl, rfl⟩)
  · refine au ?_
    refine Sim.callR hR (image_recall_numbers_sim _ _ .full Mg.full .full Mg.full .full Mg.full) ?_
    rintro r2 q ⟨g0, g2, g3, rfl, hg0, hg2, hg3⟩
    refine au ?_
    refine Sim.callR hR (image_recall_texts_sim _ _ g0 hg0 g2 hg2 g3 hg3) ?_
    rintro r3 q ⟨g4, g5, g6, rfl, hg4, hg5, hg6⟩
    refine au ?_
    refine Sim.callR hR (image_recall_lists_sim _ _ g4 hg4 g5 hg5 g6 hg6) ?_
    rintro r4 q ⟨g7, g8, g9, rfl, hg7, hg8, hg9⟩
    refine au (cE hR (mem_Mend_sim _ _) fun r5 => ?_)
    exact au (.ret ⟨_, rfl, rfl⟩)
noncomputable def l29_small : Option GConf :=
  some (GConf.mk 4 1 1 20 64 1 64 190 10 3 [0, 1, 2, 3])
theorem l29_small_sim : Sim (l29_small) (Gv fun r q => q = (GConf.av r, [])) (LM.call n_l29_small [] []) := Sim.ret ⟨(.agg [iav 4, iav 1, iav 1, iav 20, iav 64, iav 1, iav 64, iav 190, iav 10, iav 3, lav iav [0, 1, 2, 3]], []), (lim_call M XE).2 ⟨400, by kernel_rfl⟩, rfl⟩
def l29_known : Option Bool := some true
theorem l29_known_sim : Sim l29_known (Gv fun r q => q = (.bool r, [])) (LM.call n_l29_known [] []) := Sim.ret ⟨_, (lim_call M XE).2 ⟨400, by kernel_rfl⟩, rfl⟩
noncomputable def l29_ImageBack (c0 : GConf) (m0 : GMem) : Option Bool :=
  (r03_Plain c0).bind fun r0 =>
  if r0 ≠ 0 then
    (l29_known).bind fun r2 =>
    some r2
  else
    (r28_Few m0).bind fun r3 =>
    if (!r3) = true then
      (l29_known).bind fun r4 =>
      some r4
    else
      (image_Write c0 m0).bind fun r5 =>
      (image_Read c0 r5).bind fun r6 =>
      (r28_Mend c0 m0).bind fun r7 =>
      (r28_Same r6 r7).bind fun r8 =>
      if r8 = true then
        if (List.length r5 : Int) ≤ 8000 then
          (l29_known).bind fun r9 =>
          some r9
        else
          some false
      else
        some false
theorem l29_ImageBack_sim (c0 : GConf) (m0 : GMem) : Sim (l29_ImageBack c0 m0) (Gv fun r q => q = (.bool r, [])) (LM.call n_l29_ImageBack [GConf.av c0, GMem.av m0] []) := by
  unfold l29_ImageBack
  refine sim_evR M XE rfl rfl fun S hS hw hw8 R hR => ?_
  refine au (cE hR (r03_Plain_sim _) fun r0 => ?_)
  refine au (.ite Iff.rfl (fun hc => ?_) fun hc => ?_)
  · refine au (cE hR (l29_known_sim) fun r2 => ?_)
    exact au (.ret ⟨_, rfl, rfl⟩)
  · refine au (cE hR (r28_Few_sim _) fun r3 => ?_)
    refine au (.iteB (fun hc2 => ?_) fun hc2 => ?_)
    · refine au (cE hR (l29_known_sim) fun r4 => ?_)
      exact au (.ret ⟨_, rfl, rfl⟩)
    · refine au (cE hR (image_Write_sim _ _) fun r5 => ?_)
      refine au (cE hR (image_Read_sim _ _) fun r6 => ?_)
      refine au (cE hR (r28_Mend_sim _ _) fun r7 => ?_)
      refine au (cE hR (r28_Same_sim _ _) fun r8 => ?_)
      refine au (.iteB (fun hc3 => ?_) fun hc3 => ?_)
      · refine au (.ite Iff.rfl (fun hc4 => ?_) fun hc4 => ?_)
        · refine au (cE hR (l29_known_sim) fun r9 => ?_)
          exact au (.ret ⟨_, rfl, rfl⟩)
        · exact au (.ret ⟨_, rfl, rfl⟩)
      · exact au (.ret ⟨_, rfl, rfl⟩)
noncomputable def r28_Well (c0 : GConf) (m0 : GMem) : Option Bool :=
  (r03_Plain c0).bind fun r0 =>
  if r0 = 0 then
    (r28_Mend c0 m0).bind fun r2 =>
    (r28_Same r2 m0).bind fun r3 =>
    some r3
  else
    some false
theorem r28_Well_sim (c0 : GConf) (m0 : GMem) : Sim (r28_Well c0 m0) (Gv fun r q => q = (.bool r, [])) (LM.call n_r28_Well [GConf.av c0, GMem.av m0] []) := by
  unfold r28_Well
  refine sim_evR M XE rfl rfl fun S hS hw hw8 R hR => ?_
  refine au (cE hR (r03_Plain_sim _) fun r0 => ?_)
  refine au (.ite Iff.rfl (fun hc => ?_) fun hc => ?_)
  · refine au (cE hR (r28_Mend_sim _ _) fun r2 => ?_)
    refine au (cE hR (r28_Same_sim _ _) fun r3 => ?_)
    exact au (.ret ⟨_, rfl, rfl⟩)
  · exact au (.ret ⟨_, rfl, rfl⟩)
noncomputable def l29_ImageAny (c0 : GConf) (s0 : List UInt8) (more : List UInt8) : Option Bool :=
  (r03_Plain c0).bind fun r0 =>
  if r0 ≠ 0 then
    (l29_known).bind fun r2 =>
    some r2
  else
    if 8000 < (List.length s0 : Int) then
      (l29_known).bind fun r3 =>
      some r3
    else
      if 100 < (List.length more : Int) then
        (l29_known).bind fun r4 =>
        some r4
      else
        (image_Read c0 s0).bind fun r5 =>
        (image_Write c0 r5).bind fun r6 =>
        (r28_Well c0 r5).bind fun r7 =>
        if r7 = true then
          (image_Read c0 r6).bind fun r8 =>
          (r28_Same r8 r5).bind fun r9 =>
          if r9 = true then
            if List.length r6 + List.length more ≤ 9223372036854775807 then
              (image_Read c0 (r6 ++ more)).bind fun r10 =>
              (r28_Same r10 r5).bind fun r11 =>
              if r11 = true then
                (l29_known).bind fun r12 =>
                some r12
              else
                some false
            else none
          else
            some false
        else
          some false
theorem l29_ImageAny_sim (c0 : GConf) (s0 : List UInt8) (more : List UInt8) : Sim (l29_ImageAny c0 s0 more) (Gv fun r q => q = (.bool r, [])) (LM.call n_l29_ImageAny [GConf.av c0, .str s0, .str more] []) := by
  unfold l29_ImageAny
  refine sim_evR M XE rfl rfl fun S hS hw hw8 R hR => ?_
  refine au (cE hR (r03_Plain_sim _) fun r0 => ?_)
  refine au (.ite Iff.rfl (fun hc => ?_) fun hc => ?_)
  · refine au (cE hR (l29_known_sim) fun r2 => ?_)
    exact au (.ret ⟨_, rfl, rfl⟩)
  · refine au (.ite Iff.rfl (fun hc2 => ?_) fun hc2 => ?_)
    · refine au (cE hR (l29_known_sim) fun r3 => ?_)
      exact au (.ret ⟨_, rfl, rfl⟩)
    · refine au (.ite Iff.rfl (fun hc3 => ?_) fun hc3 => ?_)
      · refine au (cE hR (l29_known_sim) fun r4 => ?_)
        exact au (.ret ⟨_, rfl, rfl⟩)
      · refine au (cE hR (image_Read_sim _ _) fun r5 => ?_)
        refine au (cE hR (image_Write_sim _ _) fun r6 => ?_)
        refine au (cE hR (r28_Well_sim _ _) fun r7 => ?_)
        refine au (.iteB (fun hc4 => ?_) fun hc4 => ?_)
        · refine au (cE hR (image_Read_sim _ _) fun r8 => ?_)
          refine au (cE hR (r28_Same_sim _ _) fun r9 => ?_)
          refine au (.iteB (fun hc5 => ?_) fun hc5 => ?_)
          · refine au ?_
            first | refine Sim.ite Iff.rfl (fun _ => ?_) (fun _ => Sim.no) | refine Sim.guard (fun _ => ?_)
            refine au (cE hR (image_Read_sim _ _) fun r10 => ?_)
            refine au (cE hR (r28_Same_sim _ _) fun r11 => ?_)
            refine au (.iteB (fun hc6 => ?_) fun hc6 => ?_)
            · refine au (cE hR (l29_known_sim) fun r12 => ?_)
              exact au (.ret ⟨_, rfl, rfl⟩)
            · exact au (.ret ⟨_, rfl, rfl⟩)
          · exact au (.ret ⟨_, rfl, rfl⟩)
        · exact au (.ret ⟨_, rfl, rfl⟩)
end Go.Proofs.Ytnbmaoendgafbaa
