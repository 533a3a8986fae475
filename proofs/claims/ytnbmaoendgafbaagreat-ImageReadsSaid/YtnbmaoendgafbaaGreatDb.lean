/-
  The program's functions as plain functions (printed by a program of mine), each beside the machine's.
-/
import Derived.Test.YtnbmaoendgafbaaGreatDa
set_option linter.unusedVariables false
set_option linter.unusedSimpArgs false
set_option maxRecDepth 100000
set_option maxHeartbeats 4000000
namespace Go.Proofs.YtnbmaoendgafbaaGreat
open Go.Proofs.PF
theorem r28_notes_sim (c0 : GConf) (l0 : List GEntry) : Sim (r28_notes c0 l0) (Gv fun r q => q = (lav GEntry.av r, [])) (LM.call n_r28_notes [GConf.av c0, lav GEntry.av l0] []) := by
  unfold r28_notes
  refine sim_evR M XE rfl rfl fun S hS hw hw8 R hR => ?_
  simp only [hw]
  refine au ?_
  refine Sim.ki hS (m := (List.length l0 : Int)) (by simp) ?_
  refine au ?_
  refine Sim.callL hR (r28_notes_0_sim l0 c0 ([] : List GEntry) (max 0 (S.wr ((List.length l0 : Int) - 64))) .full Mg.full _ rfl) ?_
  rintro r2 q ⟨g2, rfl, hg2⟩
  exact au (.ret ⟨_, rfl, rfl⟩)
noncomputable def r09_Clean_0_step (x0 : Ar6 Int) (i0 : Int) (d2 : Ar6 Int) : Option ((Int × (Ar6 Int)) ⊕ ((Ar6 Int))) :=
  if i0 < 6 then
    if 0 ≤ i0 ∧ i0 < (6 : Nat) then
      (Ar6.get? (Ar6.mk d2.a0 d2.a1 d2.a2 d2.a3 d2.a4 d2.a5) (Int.toNat i0)).bind fun z0 =>
      (r01_Clamp z0 0 65535).bind fun r0 =>
      if 0 ≤ i0 ∧ i0 < (6 : Nat) then
        (Ar6.set? d2 (Int.toNat i0) r0).bind fun y0 =>
        some (.inl ((wr (i0 + 1)), y0))
      else none
    else none
  else
    some (.inr d2)
noncomputable def r09_Clean_0 (x0 : Ar6 Int) (i0 : Int) (d2 : Ar6 Int) : Option ((Ar6 Int)) :=
  loopO (fun s : Int × (Ar6 Int) => r09_Clean_0_step x0 s.1 s.2) (i0, d2)
@[reducible] def r09_Clean_0_st (x0 : Ar6 Int) (i0 : Int) (d2 : Ar6 Int) : PF.St := ⟨[(1, .ptr 101 0), (2, .ptr 102 0), (3, iav i0)], [(102, ⟨true, Ar6.cells iav x0⟩), (101, ⟨true, Ar6.cells iav d2⟩)]⟩
def r09_Clean_0_rel (x0 : Ar6 Int) (r : ((Ar6 Int))) (q : Ex × PF.St) : Prop := (fun r (q : Ex × PF.St) => q = ((.exit 0), ⟨[(1, .ptr 101 0), (2, .ptr 102 0)], [(102, ⟨true, Ar6.cells iav x0⟩), (101, ⟨true, Ar6.cells iav r⟩)]⟩)) r q
def r09_Clean_0_inv (x0 : Ar6 Int) (v : Int × (Ar6 Int)) (e : PF.St) : Prop := e = r09_Clean_0_st x0 v.1 v.2
theorem r09_Clean_0_sim (x0 : Ar6 Int) (i0 : Int) (d2 : Ar6 Int) (s : PF.St) (hk : keep [1, 2, 3] [101, 102] s = some (r09_Clean_0_st x0 i0 d2)) : Sim (r09_Clean_0 x0 i0 d2) (Gv (r09_Clean_0_rel x0)) (LM.loop ([1, 2, 3], [101, 102], [1, 2], B_r09_Clean_0) s) := by
  refine sim_loop M XE (r09_Clean_0_inv x0) (r09_Clean_0_rel x0) ?_ _ _ _ hk rfl
  clear hk
  rintro S hS hw hw8 R hR ⟨i0, d2⟩ env hp he
  change (⟨env, hp⟩ : PF.St) = r09_Clean_0_st x0 i0 d2 at he
  cases he
  show Sim (r09_Clean_0_step x0 i0 d2) _ _
  unfold r09_Clean_0_step
  simp only [hw]
  refine au (.ite Iff.rfl (fun hc => ?_) fun hc => ?_)
  · refine au ?_
    first | refine Sim.ite Iff.rfl (fun hb => ?_) (fun _ => Sim.no) | refine Sim.guard (fun hb => ?_)
    refine au ?_
    refine Sim.opt (f := iav) (by have hb' : (Int.toNat i0) < 6 := (by omega); generalize (Int.toNat i0) = j at hb' ⊢; rcases j with _|_|_|_|_|_|j <;> first | rfl | exact absurd hb' (by omega)) (fun z0 _ => ?_)
    refine au (cE hR (r01_Clamp_sim _ _ _) fun r0 => ?_)
    refine au ?_
    first | refine Sim.ite Iff.rfl (fun hb2 => ?_) (fun _ => Sim.no) | refine Sim.guard (fun hb2 => ?_)
    refine au ?_
    refine Sim.opt (f := fun y0 => [iav y0.a0, iav y0.a1, iav y0.a2, iav y0.a3, iav y0.a4, iav y0.a5]) (by have hb' : (Int.toNat i0) < 6 := (by omega); generalize (Int.toNat i0) = j at hb' ⊢; rcases j with _|_|_|_|_|_|j <;> first | rfl | exact absurd hb' (by omega)) (fun y0 _ => ?_)
    refine au ?_
    exact Sim.ret ⟨_, _, rfl, rfl, rfl⟩
  · exact au (.ret ⟨_, rfl, rfl⟩)
noncomputable def r09_Clean (d0 : Ar6 Int) : Option ((Ar6 Int)) :=
  (r09_Clean_0 (Ar6.mk 0 0 0 0 0 0) 0 d0).bind fun r2 =>
  some r2
theorem r09_Clean_sim (d0 : Ar6 Int) : Sim (r09_Clean d0) (Gv fun r q => q = (Ar6.av iav r, [])) (LM.call n_r09_Clean [Ar6.av iav d0] []) := by
  unfold r09_Clean
  refine sim_evR M XE rfl rfl fun S hS hw hw8 R hR => ?_
  refine au ?_
  refine Sim.callL hR (r09_Clean_0_sim (Ar6.mk 0 0 0 0 0 0) 0 d0 _ rfl) ?_
  rintro r2 q rfl
  exact au (.ret ⟨_, rfl, rfl⟩)
noncomputable def r28_Mend (L0 : GConf) (i0 : GMem) : Option GMem :=
  (r03_Plain L0).bind fun r0 =>
  if r0 ≠ 0 then
    some (GMem.mk 0 0 0 ([] : List UInt8) 0 ([] : List UInt8) ([] : List UInt8) 0 0 ([] : List UInt8) ([] : List UInt8) ([] : List UInt8) ([] : List UInt8) ([] : List UInt8) ([] : List UInt8) ([] : List GPort) ([] : List (List UInt8)) ([] : List GEntry) (Ar6.mk 0 0 0 0 0 0))
  else
    (r05_Put i0.Clock).bind fun r2 =>
    (r05_Put i0.Anchor).bind fun r3 =>
    (r01_Clamp i0.Since 0 L0.Period).bind fun r4 =>
    (r03_Length L0).bind fun r5 =>
    (r28_digits i0.Pipe r5 53).bind fun r6 =>
    (r03_Length L0).bind fun r7 =>
    (r01_Clamp i0.Age 0 r7).bind fun r8 =>
    (r03_Bits L0).bind fun r9 =>
    (r28_row i0.Vec r9 53).bind fun r10 =>
    (r03_Bits L0).bind fun r11 =>
    (r28_row i0.Agreed r11 49).bind fun r12 =>
    (r01_Mod i0.Number L0.Mod).bind fun r13 =>
    (r01_Clamp i0.Regular 0 2).bind fun r14 =>
    (r25_Mark L0 i0.Members ([] : List Int)).bind fun r15 =>
    (r25_Mark L0 i0.Seen ([] : List Int)).bind fun r16 =>
    (r23_Mark i0.Heard (List.length L0.Table : Int) ([] : List Int)).bind fun r17 =>
    (r23_Mark i0.Sent (List.length L0.Table : Int) ([] : List Int)).bind fun r18 =>
    (r28_cut i0.Out 16).bind fun r19 =>
    (r28_cut i0.Line 16).bind fun r20 =>
    (r28_ports L0 i0.Ports).bind fun r21 =>
    (r28_held L0 i0.Hold).bind fun r22 =>
    (r28_notes L0 i0.Log).bind fun r23 =>
    (r09_Clean i0.Diag).bind fun r24 =>
    some (GMem.mk r2 r3 r4 r6 r8 r10 r12 r13 r14 r15 r16 r17 r18 r19 r20 r21 r22 r23 r24)
theorem r28_Mend_sim (L0 : GConf) (i0 : GMem) : Sim (r28_Mend L0 i0) (Gv fun r q => q = (GMem.av r, [])) (LM.call n_r28_Mend [GConf.av L0, GMem.av i0] []) := by
  unfold r28_Mend
  refine sim_evR M XE rfl rfl fun S hS hw hw8 R hR => ?_
  refine au (cE hR (r03_Plain_sim _) fun r0 => ?_)
  refine au (.ite Iff.rfl (fun hc => ?_) fun hc => ?_)
  · exact au (.ret ⟨_, rfl, rfl⟩)
  · refine au (cE hR (r05_Put_sim _) fun r2 => ?_)
    refine au (cE hR (r05_Put_sim _) fun r3 => ?_)
    refine au (cE hR (r01_Clamp_sim _ _ _) fun r4 => ?_)
    refine au (cE hR (r03_Length_sim _) fun r5 => ?_)
    refine au (cE hR (r28_digits_sim _ _ _) fun r6 => ?_)
    refine au (cE hR (r03_Length_sim _) fun r7 => ?_)
    refine au (cE hR (r01_Clamp_sim _ _ _) fun r8 => ?_)
    refine au (cE hR (r03_Bits_sim _) fun r9 => ?_)
    refine au (cE hR (r28_row_sim _ _ _) fun r10 => ?_)
    refine au (cE hR (r03_Bits_sim _) fun r11 => ?_)
    refine au (cE hR (r28_row_sim _ _ _) fun r12 => ?_)
    refine au (cE hR (r01_Mod_sim _ _) fun r13 => ?_)
    refine au (cE hR (r01_Clamp_sim _ _ _) fun r14 => ?_)
    refine au (cE hR (r25_Mark_sim _ _ _) fun r15 => ?_)
    refine au (cE hR (r25_Mark_sim _ _ _) fun r16 => ?_)
    refine au ?_
    refine Sim.ki hS (m := (List.length L0.Table : Int)) (by simp) ?_
    refine au (cE hR (r23_Mark_sim _ _ _) fun r17 => ?_)
    refine au ?_
    refine Sim.ki hS (m := (List.length L0.Table : Int)) (by simp) ?_
    refine au (cE hR (r23_Mark_sim _ _ _) fun r18 => ?_)
    refine au (cE hR (r28_cut_sim _ _) fun r19 => ?_)
    refine au (cE hR (r28_cut_sim _ _) fun r20 => ?_)
    refine au (cE hR (r28_ports_sim _ _) fun r21 => ?_)
    refine au (cE hR (r28_held_sim _ _) fun r22 => ?_)
    refine au (cE hR (r28_notes_sim _ _) fun r23 => ?_)
    refine au (cE hR (r09_Clean_sim _) fun r24 => ?_)
    exact au (.ret ⟨_, rfl, rfl⟩)
noncomputable def r28_Blank (c0 : GConf) : Option GMem :=
  (r28_Mend c0 (GMem.mk 0 0 0 ([] : List UInt8) 0 ([] : List UInt8) ([] : List UInt8) 0 0 ([] : List UInt8) ([] : List UInt8) ([] : List UInt8) ([] : List UInt8) ([] : List UInt8) ([] : List UInt8) ([] : List GPort) ([] : List (List UInt8)) ([] : List GEntry) (Ar6.mk 0 0 0 0 0 0))).bind fun r0 =>
  (r03_Plain c0).bind fun r2 =>
  if r2 = 0 then
    some (GMem.mk r0.Clock r0.Anchor c0.Period r0.Pipe r0.Age r0.Vec r0.Agreed r0.Number r0.Regular r0.Members r0.Seen r0.Heard r0.Sent r0.Out r0.Line r0.Ports r0.Hold r0.Log r0.Diag)
  else
    some r0
theorem r28_Blank_sim (c0 : GConf) : Sim (r28_Blank c0) (Gv fun r q => q = (GMem.av r, [])) (LM.call n_r28_Blank [GConf.av c0] []) := by
  unfold r28_Blank
  refine sim_evR M XE rfl rfl fun S hS hw hw8 R hR => ?_
  refine au (cE hR (r28_Mend_sim _ _) fun r0 => ?_)
  refine au (cE hR (r03_Plain_sim _) fun r2 => ?_)
  refine au (.ite Iff.rfl (fun hc => ?_) fun hc => ?_)
  · exact au (.ret ⟨_, rfl, rfl⟩)
  · exact au (.ret ⟨_, rfl, rfl⟩)
def l29_known : Option Bool := some true
theorem l29_known_sim : Sim l29_known (Gv fun r q => q = (.bool r, [])) (LM.call n_l29_known [] []) := Sim.ret ⟨_, (lim_call M XE).2 ⟨400, by kernel_rfl⟩, rfl⟩
noncomputable def r01_Byte (n0 : Int) : Option ((List UInt8)) :=
  some (bytesOf [(w8 n0)])
theorem r01_Byte_sim (n0 : Int) : Sim (r01_Byte n0) (Gv fun r q => q = (.str r, [])) (LM.call n_r01_Byte [iav n0] []) := by
  unfold r01_Byte
  refine sim_evR M XE rfl rfl fun S hS hw hw8 R hR => ?_
  simp only [hw8]
  refine au ?_
  refine Sim.kl hS (ys := List.map u8av [(S.w8 n0)]) rfl ?_
  refine au ?_
  first | (refine Sim.go (bytes_mapM _) ?_) | skip
  exact au (.ret ⟨_, rfl, rfl⟩)
noncomputable def r01_room_0_step (width2 : Int) (n0 : Int) (i0 : Int) : Option ((Int × Int) ⊕ Int) :=
  if i0 < width2 then
    some (.inl ((wr (256 * n0)), (wr (i0 + 1))))
  else
    some (.inr n0)
noncomputable def r01_room_0 (width2 : Int) (n0 : Int) (i0 : Int) : Option Int :=
  loopO (fun s : Int × Int => r01_room_0_step width2 s.1 s.2) (n0, i0)
@[reducible] def r01_room_0_st (width2 : Int) (n0 : Int) (i0 : Int) : PF.St := ⟨[(0, iav width2), (3, iav n0), (4, iav i0)], []⟩
def r01_room_0_rel (width2 : Int) (r : Int) (q : Ex × PF.St) : Prop := (fun r (q : Ex × PF.St) => q = ((.exit 0), ⟨[(3, iav r)], []⟩)) r q
def r01_room_0_inv (width2 : Int) (v : Int × Int) (e : PF.St) : Prop := e = r01_room_0_st width2 v.1 v.2
theorem r01_room_0_sim (width2 : Int) (n0 : Int) (i0 : Int) (s : PF.St) (hk : keep [0, 3, 4] [] s = some (r01_room_0_st width2 n0 i0)) : Sim (r01_room_0 width2 n0 i0) (Gv (r01_room_0_rel width2)) (LM.loop ([0, 3, 4], [], [3], B_r01_room_0) s) := by
  refine sim_loop M XE (r01_room_0_inv width2) (r01_room_0_rel width2) ?_ _ _ _ hk rfl
  clear hk
  rintro S hS hw hw8 R hR ⟨n0, i0⟩ env hp he
  change (⟨env, hp⟩ : PF.St) = r01_room_0_st width2 n0 i0 at he
  cases he
  show Sim (r01_room_0_step width2 n0 i0) _ _
  unfold r01_room_0_step
  simp only [hw]
  refine au (.ite Iff.rfl (fun hc => ?_) fun hc => ?_)
  · refine au ?_
    exact Sim.ret ⟨_, _, rfl, rfl, rfl⟩
  · exact au (.ret ⟨_, rfl, rfl⟩)
noncomputable def r01_room (width : Int) : Option Int :=
  (r01_room_0 width 1 0).bind fun r0 =>
  some r0
theorem r01_room_sim (width : Int) : Sim (r01_room width) (Gv fun r q => q = (iav r, [])) (LM.call n_r01_room [iav width] []) := by
  unfold r01_room
  refine sim_evR M XE rfl rfl fun S hS hw hw8 R hR => ?_
  refine au ?_
  refine Sim.callL hR (r01_room_0_sim width 1 0 _ rfl) ?_
  rintro r0 q rfl
  exact au (.ret ⟨_, rfl, rfl⟩)
noncomputable def r01_Put_0_step (width2 : Int) (n2 : Int) (s0 : List UInt8) (i0 : Int) : Option ((Int × (List UInt8) × Int) ⊕ ((List UInt8))) :=
  if i0 < width2 then
    (r01_Byte (Int.tmod n2 256)).bind fun r2 =>
    if List.length s0 + List.length r2 ≤ 9223372036854775807 then
      some (.inl ((wr (Int.tdiv n2 256)), (s0 ++ r2), (wr (i0 + 1))))
    else none
  else
    some (.inr s0)
noncomputable def r01_Put_0 (width2 : Int) (n2 : Int) (s0 : List UInt8) (i0 : Int) : Option ((List UInt8)) :=
  loopO (fun s : Int × (List UInt8) × Int => r01_Put_0_step width2 s.1 s.2.1 s.2.2) (n2, s0, i0)
@[reducible] def r01_Put_0_st (width2 : Int) (n2 : Int) (s0 : List UInt8) (i0 : Int) : PF.St := ⟨[(0, iav n2), (1, iav width2), (6, .str s0), (7, iav i0)], []⟩
def r01_Put_0_rel (width2 : Int) (r : ((List UInt8))) (q : Ex × PF.St) : Prop := (fun r (q : Ex × PF.St) => q = ((.exit 0), ⟨[(6, .str r)], []⟩)) r q
def r01_Put_0_inv (width2 : Int) (v : Int × (List UInt8) × Int) (e : PF.St) : Prop := e = r01_Put_0_st width2 v.1 v.2.1 v.2.2
theorem r01_Put_0_sim (width2 : Int) (n2 : Int) (s0 : List UInt8) (i0 : Int) (s : PF.St) (hk : keep [0, 1, 6, 7] [] s = some (r01_Put_0_st width2 n2 s0 i0)) : Sim (r01_Put_0 width2 n2 s0 i0) (Gv (r01_Put_0_rel width2)) (LM.loop ([0, 1, 6, 7], [], [6], B_r01_Put_0) s) := by
  refine sim_loop M XE (r01_Put_0_inv width2) (r01_Put_0_rel width2) ?_ _ _ _ hk rfl
  clear hk
  rintro S hS hw hw8 R hR ⟨n2, s0, i0⟩ env hp he
  change (⟨env, hp⟩ : PF.St) = r01_Put_0_st width2 n2 s0 i0 at he
  cases he
  show Sim (r01_Put_0_step width2 n2 s0 i0) _ _
  unfold r01_Put_0_step
  simp only [hw]
  refine au (.ite Iff.rfl (fun hc5 => ?_) fun hc5 => ?_)
  · refine au (cE hR (r01_Byte_sim _) fun r2 => ?_)
    refine au ?_
    first | refine Sim.ite Iff.rfl (fun _ => ?_) (fun _ => Sim.no) | refine Sim.guard (fun _ => ?_)
    refine au ?_
    exact Sim.ret ⟨_, _, rfl, rfl, rfl⟩
  · exact au (.ret ⟨_, rfl, rfl⟩)
noncomputable def r01_Put (n0 : Int) (width : Int) : Option ((List UInt8) × Int) :=
  if width < 1 then
    some (([] : List UInt8), 2)
  else
    if 4 < width then
      some (([] : List UInt8), 2)
    else
      if n0 < 0 then
        some (([] : List UInt8), 6)
      else
        (r01_room width).bind fun r0 =>
        if r0 ≤ n0 then
          some (([] : List UInt8), 6)
        else
          (r01_Put_0 width n0 ([] : List UInt8) 0).bind fun r3 =>
          some (r3, 0)
theorem r01_Put_sim (n0 : Int) (width : Int) : Sim (r01_Put n0 width) (Gv fun r q => q = (.tup [.str r.1, iav r.2], [])) (LM.call n_r01_Put [iav n0, iav width] []) := by
  unfold r01_Put
  refine sim_evR M XE rfl rfl fun S hS hw hw8 R hR => ?_
  refine au (.ite Iff.rfl (fun hc => ?_) fun hc => ?_)
  · exact au (.ret ⟨_, rfl, rfl⟩)
  · refine au (.ite Iff.rfl (fun hc2 => ?_) fun hc2 => ?_)
    · exact au (.ret ⟨_, rfl, rfl⟩)
    · refine au (.ite Iff.rfl (fun hc3 => ?_) fun hc3 => ?_)
      · exact au (.ret ⟨_, rfl, rfl⟩)
      · refine au (cE hR (r01_room_sim _) fun r0 => ?_)
        refine au (.ite Iff.rfl (fun hc4 => ?_) fun hc4 => ?_)
        · exact au (.ret ⟨_, rfl, rfl⟩)
        · refine au ?_
          refine Sim.callL hR (r01_Put_0_sim width n0 ([] : List UInt8) 0 _ rfl) ?_
          rintro r3 q rfl
          exact au (.ret ⟨_, rfl, rfl⟩)
noncomputable def r29_number (n0 : Int) (width : Int) : Option ((List UInt8)) :=
  (r01_Put n0 width).bind fun r0 =>
  some r0.1
theorem r29_number_sim (n0 : Int) (width : Int) : Sim (r29_number n0 width) (Gv fun r q => q = (.str r, [])) (LM.call n_r29_number [iav n0, iav width] []) := by
  unfold r29_number
  refine sim_evR M XE rfl rfl fun S hS hw hw8 R hR => ?_
  refine au (cE hR (r01_Put_sim _ _) fun r0 => ?_)
  exact au (.ret ⟨_, rfl, rfl⟩)
noncomputable def r29_maybe (s0 : List UInt8) : Option ((List UInt8)) :=
  if s0 = ([] : List UInt8) then
    (r29_number 0 1).bind fun r0 =>
    some r0
  else
    (r29_number 1 1).bind fun r2 =>
    if List.length r2 + List.length s0 ≤ 9223372036854775807 then
      some (r2 ++ s0)
    else none
theorem r29_maybe_sim (s0 : List UInt8) : Sim (r29_maybe s0) (Gv fun r q => q = (.str r, [])) (LM.call n_r29_maybe [.str s0] []) := by
  unfold r29_maybe
  refine sim_evR M XE rfl rfl fun S hS hw hw8 R hR => ?_
  refine au (.ite Iff.rfl (fun hc => ?_) fun hc => ?_)
  · refine au (cE hR (r29_number_sim _ _) fun r0 => ?_)
    exact au (.ret ⟨_, rfl, rfl⟩)
  · refine au (cE hR (r29_number_sim _ _) fun r2 => ?_)
    refine au ?_
    first | refine Sim.ite Iff.rfl (fun _ => ?_) (fun _ => Sim.no) | refine Sim.guard (fun _ => ?_)
    exact au (.ret ⟨_, rfl, rfl⟩)
noncomputable def r29_text (s0 : List UInt8) : Option ((List UInt8)) :=
  (r29_number (List.length s0 : Int) 1).bind fun r0 =>
  if List.length r0 + List.length s0 ≤ 9223372036854775807 then
    some (r0 ++ s0)
  else none
theorem r29_text_sim (s0 : List UInt8) : Sim (r29_text s0) (Gv fun r q => q = (.str r, [])) (LM.call n_r29_text [.str s0] []) := by
  unfold r29_text
  refine sim_evR M XE rfl rfl fun S hS hw hw8 R hR => ?_
  refine au (cE hR (r29_number_sim _ _) fun r0 => ?_)
  refine au ?_
  first | refine Sim.ite Iff.rfl (fun _ => ?_) (fun _ => Sim.no) | refine Sim.guard (fun _ => ?_)
  exact au (.ret ⟨_, rfl, rfl⟩)
noncomputable def r29_Write_0_step (t0 : GMem) (t2 : GMem) (s0 : GConf) (o0 : List UInt8) (A0 : Int) : Option (((List UInt8) × Int) ⊕ ((List UInt8))) :=
  if A0 < (List.length t0.Ports : Int) then
    (idx? t0.Ports A0).bind fun z0 =>
    (r29_text z0.Text).bind fun r13 =>
    if List.length o0 + List.length r13 ≤ 9223372036854775807 then
      (idx? t0.Ports A0).bind fun z2 =>
      (r29_number z2.Cycle 1).bind fun r14 =>
      if List.length (o0 ++ r13) + List.length r14 ≤ 9223372036854775807 then
        (idx? t0.Ports A0).bind fun z3 =>
        (r29_number z3.Age 1).bind fun r15 =>
        if List.length ((o0 ++ r13) ++ r14) + List.length r15 ≤ 9223372036854775807 then
          some (.inl ((((o0 ++ r13) ++ r14) ++ r15), (wr (A0 + 1))))
        else none
      else none
    else none
  else
    some (.inr o0)
noncomputable def r29_Write_0 (t0 : GMem) (t2 : GMem) (s0 : GConf) (o0 : List UInt8) (A0 : Int) : Option ((List UInt8)) :=
  loopO (fun s : (List UInt8) × Int => r29_Write_0_step t0 t2 s0 s.1 s.2) (o0, A0)
@[reducible] def r29_Write_0_st (t0 : GMem) (t2 : GMem) (s0 : GConf) (o0 : List UInt8) (A0 : Int) : PF.St := ⟨[(5, .ptr 105 0), (6, .str o0), (7, iav A0)], [(105, ⟨true, GMem.cells t0⟩), (103, ⟨true, GMem.cells t2⟩), (102, ⟨true, GConf.cells s0⟩)]⟩
def r29_Write_0_rel (t0 : GMem) (t2 : GMem) (s0 : GConf) (r : ((List UInt8))) (q : Ex × PF.St) : Prop := (fun r (q : Ex × PF.St) => q = ((.exit 0), ⟨[(5, .ptr 105 0), (6, .str r)], [(105, ⟨true, GMem.cells t0⟩), (103, ⟨true, GMem.cells t2⟩), (102, ⟨true, GConf.cells s0⟩)]⟩)) r q
def r29_Write_0_inv (t0 : GMem) (t2 : GMem) (s0 : GConf) (v : (List UInt8) × Int) (e : PF.St) : Prop := e = r29_Write_0_st t0 t2 s0 v.1 v.2
theorem r29_Write_0_sim (t0 : GMem) (t2 : GMem) (s0 : GConf) (o0 : List UInt8) (A0 : Int) (s : PF.St) (hk : keep [5, 6, 7] [102, 103, 105] s = some (r29_Write_0_st t0 t2 s0 o0 A0)) : Sim (r29_Write_0 t0 t2 s0 o0 A0) (Gv (r29_Write_0_rel t0 t2 s0)) (LM.loop ([5, 6, 7], [102, 103, 105], [5, 6], B_r29_Write_0) s) := by
  refine sim_loop M XE (r29_Write_0_inv t0 t2 s0) (r29_Write_0_rel t0 t2 s0) ?_ _ _ _ hk rfl
  clear hk
  rintro S hS hw hw8 R hR ⟨o0, A0⟩ env hp he
  change (⟨env, hp⟩ : PF.St) = r29_Write_0_st t0 t2 s0 o0 A0 at he
  cases he
  show Sim (r29_Write_0_step t0 t2 s0 o0 A0) _ _
  unfold r29_Write_0_step
  simp only [hw]
  refine au ?_
  refine Sim.ki hS (m := (List.length t0.Ports : Int)) (by simp) ?_
  refine au (.ite Iff.rfl (fun hc2 => ?_) fun hc2 => ?_)
  · refine au ?_
    refine Sim.ix (by simp) (fun z0 hz0 => ?_)
    refine au ?_
    refine Sim.go (idx_map _ hz0) ?_
    refine au (cE hR (r29_text_sim _) fun r13 => ?_)
    refine au ?_
    first | refine Sim.ite Iff.rfl (fun _ => ?_) (fun _ => Sim.no) | refine Sim.guard (fun _ => ?_)
    refine au ?_
    refine Sim.ix (by simp) (fun z2 hz2 => ?_)
    refine au ?_
    refine Sim.go (idx_map _ hz2) ?_
    refine au (cE hR (r29_number_sim _ _) fun r14 => ?_)
    refine au ?_
    first | refine Sim.ite Iff.rfl (fun _ => ?_) (fun _ => Sim.no) | refine Sim.guard (fun _ => ?_)
    refine au ?_
    refine Sim.ix (by simp) (fun z3 hz3 => ?_)
    refine au ?_
    refine Sim.go (idx_map _ hz3) ?_
    refine au (cE hR (r29_number_sim _ _) fun r15 => ?_)
    refine au ?_
    first | refine Sim.ite Iff.rfl (fun _ => ?_) (fun _ => Sim.no) | refine Sim.guard (fun _ => ?_)
    refine au ?_
    exact Sim.ret ⟨_, _, rfl, rfl, rfl⟩
  · exact au (.ret ⟨_, rfl, rfl⟩)
noncomputable def r29_Write_1_step (t3 : GMem) (t4 : GMem) (s2 : GConf) (o2 : List UInt8) (r17 : Int) : Option (((List UInt8) × Int) ⊕ ((List UInt8))) :=
  if r17 < (List.length t3.Hold : Int) then
    (idx? t3.Hold r17).bind fun z4 =>
    (r29_text z4).bind fun r18 =>
    if List.length o2 + List.length r18 ≤ 9223372036854775807 then
      some (.inl ((o2 ++ r18), (wr (r17 + 1))))
    else none
  else
    some (.inr o2)
noncomputable def r29_Write_1 (t3 : GMem) (t4 : GMem) (s2 : GConf) (o2 : List UInt8) (r17 : Int) : Option ((List UInt8)) :=
  loopO (fun s : (List UInt8) × Int => r29_Write_1_step t3 t4 s2 s.1 s.2) (o2, r17)
@[reducible] def r29_Write_1_st (t3 : GMem) (t4 : GMem) (s2 : GConf) (o2 : List UInt8) (r17 : Int) : PF.St := ⟨[(5, .ptr 105 0), (6, .str o2), (8, iav r17)], [(105, ⟨true, GMem.cells t3⟩), (103, ⟨true, GMem.cells t4⟩), (102, ⟨true, GConf.cells s2⟩)]⟩
def r29_Write_1_rel (t3 : GMem) (t4 : GMem) (s2 : GConf) (r : ((List UInt8))) (q : Ex × PF.St) : Prop := (fun r (q : Ex × PF.St) => q = ((.exit 2), ⟨[(5, .ptr 105 0), (6, .str r)], [(105, ⟨true, GMem.cells t3⟩), (103, ⟨true, GMem.cells t4⟩), (102, ⟨true, GConf.cells s2⟩)]⟩)) r q
def r29_Write_1_inv (t3 : GMem) (t4 : GMem) (s2 : GConf) (v : (List UInt8) × Int) (e : PF.St) : Prop := e = r29_Write_1_st t3 t4 s2 v.1 v.2
theorem r29_Write_1_sim (t3 : GMem) (t4 : GMem) (s2 : GConf) (o2 : List UInt8) (r17 : Int) (s : PF.St) (hk : keep [5, 6, 8] [102, 103, 105] s = some (r29_Write_1_st t3 t4 s2 o2 r17)) : Sim (r29_Write_1 t3 t4 s2 o2 r17) (Gv (r29_Write_1_rel t3 t4 s2)) (LM.loop ([5, 6, 8], [102, 103, 105], [5, 6], B_r29_Write_1) s) := by
  refine sim_loop M XE (r29_Write_1_inv t3 t4 s2) (r29_Write_1_rel t3 t4 s2) ?_ _ _ _ hk rfl
  clear hk
  rintro S hS hw hw8 R hR ⟨o2, r17⟩ env hp he
  change (⟨env, hp⟩ : PF.St) = r29_Write_1_st t3 t4 s2 o2 r17 at he
  cases he
  show Sim (r29_Write_1_step t3 t4 s2 o2 r17) _ _
  unfold r29_Write_1_step
  simp only [hw]
  refine au ?_
  refine Sim.ki hS (m := (List.length t3.Hold : Int)) (by simp) ?_
  refine au (.ite Iff.rfl (fun hc3 => ?_) fun hc3 => ?_)
  · refine au ?_
    refine Sim.ix (by simp) (fun z4 hz4 => ?_)
    refine au ?_
    refine Sim.go (idx_map _ hz4) ?_
    refine au (cE hR (r29_text_sim _) fun r18 => ?_)
    refine au ?_
    first | refine Sim.ite Iff.rfl (fun _ => ?_) (fun _ => Sim.no) | refine Sim.guard (fun _ => ?_)
    refine au ?_
    exact Sim.ret ⟨_, _, rfl, rfl, rfl⟩
  · exact au (.ret ⟨_, rfl, rfl⟩)
noncomputable def r29_Write_2_step (t5 : GMem) (t6 : GMem) (s3 : GConf) (o3 : List UInt8) (r21 : Int) : Option (((List UInt8) × Int) ⊕ ((List UInt8))) :=
  if r21 < (List.length t5.Log : Int) then
    (idx? t5.Log r21).bind fun z5 =>
    (r29_number z5.From 1).bind fun r22 =>
    if List.length o3 + List.length r22 ≤ 9223372036854775807 then
      (idx? t5.Log r21).bind fun z6 =>
      (r29_number z6.At 2).bind fun r23 =>
      if List.length (o3 ++ r22) + List.length r23 ≤ 9223372036854775807 then
        some (.inl (((o3 ++ r22) ++ r23), (wr (r21 + 1))))
      else none
    else none
  else
    some (.inr o3)
noncomputable def r29_Write_2 (t5 : GMem) (t6 : GMem) (s3 : GConf) (o3 : List UInt8) (r21 : Int) : Option ((List UInt8)) :=
  loopO (fun s : (List UInt8) × Int => r29_Write_2_step t5 t6 s3 s.1 s.2) (o3, r21)
@[reducible] def r29_Write_2_st (t5 : GMem) (t6 : GMem) (s3 : GConf) (o3 : List UInt8) (r21 : Int) : PF.St := ⟨[(5, .ptr 105 0), (6, .str o3), (9, iav r21)], [(105, ⟨true, GMem.cells t5⟩), (103, ⟨true, GMem.cells t6⟩), (102, ⟨true, GConf.cells s3⟩)]⟩
def r29_Write_2_rel (t5 : GMem) (t6 : GMem) (s3 : GConf) (r : ((List UInt8))) (q : Ex × PF.St) : Prop := (fun r (q : Ex × PF.St) => q = ((.exit 4), ⟨[(5, .ptr 105 0), (6, .str r)], [(105, ⟨true, GMem.cells t5⟩), (103, ⟨true, GMem.cells t6⟩), (102, ⟨true, GConf.cells s3⟩)]⟩)) r q
def r29_Write_2_inv (t5 : GMem) (t6 : GMem) (s3 : GConf) (v : (List UInt8) × Int) (e : PF.St) : Prop := e = r29_Write_2_st t5 t6 s3 v.1 v.2
theorem r29_Write_2_sim (t5 : GMem) (t6 : GMem) (s3 : GConf) (o3 : List UInt8) (r21 : Int) (s : PF.St) (hk : keep [5, 6, 9] [102, 103, 105] s = some (r29_Write_2_st t5 t6 s3 o3 r21)) : Sim (r29_Write_2 t5 t6 s3 o3 r21) (Gv (r29_Write_2_rel t5 t6 s3)) (LM.loop ([5, 6, 9], [102, 103, 105], [5, 6], B_r29_Write_2) s) := by
  refine sim_loop M XE (r29_Write_2_inv t5 t6 s3) (r29_Write_2_rel t5 t6 s3) ?_ _ _ _ hk rfl
  clear hk
  rintro S hS hw hw8 R hR ⟨o3, r21⟩ env hp he
  change (⟨env, hp⟩ : PF.St) = r29_Write_2_st t5 t6 s3 o3 r21 at he
  cases he
  show Sim (r29_Write_2_step t5 t6 s3 o3 r21) _ _
  unfold r29_Write_2_step
  simp only [hw]
  refine au ?_
  refine Sim.ki hS (m := (List.length t5.Log : Int)) (by simp) ?_
  refine au (.ite Iff.rfl (fun hc4 => ?_) fun hc4 => ?_)
  · refine au ?_
    refine Sim.ix (by simp) (fun z5 hz5 => ?_)
    refine au ?_
    refine Sim.go (idx_map _ hz5) ?_
    refine au (cE hR (r29_number_sim _ _) fun r22 => ?_)
    refine au ?_
    first | refine Sim.ite Iff.rfl (fun _ => ?_) (fun _ => Sim.no) | refine Sim.guard (fun _ => ?_)
    refine au ?_
    refine Sim.ix (by simp) (fun z6 hz6 => ?_)
    refine au ?_
    refine Sim.go (idx_map _ hz6) ?_
    refine au (cE hR (r29_number_sim _ _) fun r23 => ?_)
    refine au ?_
    first | refine Sim.ite Iff.rfl (fun _ => ?_) (fun _ => Sim.no) | refine Sim.guard (fun _ => ?_)
    refine au ?_
    exact Sim.ret ⟨_, _, rfl, rfl, rfl⟩
  · exact au (.ret ⟨_, rfl, rfl⟩)
noncomputable def r29_Write_3_step (t7 : GMem) (t8 : GMem) (s4 : GConf) (o4 : List UInt8) (a0 : Int) : Option (((List UInt8) × Int) ⊕ ((List UInt8))) :=
  if a0 < 6 then
    if 0 ≤ a0 ∧ a0 < (6 : Nat) then
      (Ar6.get? (Ar6.mk t7.Diag.a0 t7.Diag.a1 t7.Diag.a2 t7.Diag.a3 t7.Diag.a4 t7.Diag.a5) (Int.toNat a0)).bind fun z7 =>
      (r29_number z7 2).bind fun r25 =>
      if List.length o4 + List.length r25 ≤ 9223372036854775807 then
        some (.inl ((o4 ++ r25), (wr (a0 + 1))))
      else none
    else none
  else
    some (.inr o4)
noncomputable def r29_Write_3 (t7 : GMem) (t8 : GMem) (s4 : GConf) (o4 : List UInt8) (a0 : Int) : Option ((List UInt8)) :=
  loopO (fun s : (List UInt8) × Int => r29_Write_3_step t7 t8 s4 s.1 s.2) (o4, a0)
@[reducible] def r29_Write_3_st (t7 : GMem) (t8 : GMem) (s4 : GConf) (o4 : List UInt8) (a0 : Int) : PF.St := ⟨[(5, .ptr 105 0), (6, .str o4), (10, iav a0)], [(105, ⟨true, GMem.cells t7⟩), (103, ⟨true, GMem.cells t8⟩), (102, ⟨true, GConf.cells s4⟩)]⟩
def r29_Write_3_rel (t7 : GMem) (t8 : GMem) (s4 : GConf) (r : ((List UInt8))) (q : Ex × PF.St) : Prop := (fun r (q : Ex × PF.St) => q = ((.exit 6), ⟨[(6, .str r)], [(105, ⟨true, GMem.cells t7⟩), (103, ⟨true, GMem.cells t8⟩), (102, ⟨true, GConf.cells s4⟩)]⟩)) r q
def r29_Write_3_inv (t7 : GMem) (t8 : GMem) (s4 : GConf) (v : (List UInt8) × Int) (e : PF.St) : Prop := e = r29_Write_3_st t7 t8 s4 v.1 v.2
theorem r29_Write_3_sim (t7 : GMem) (t8 : GMem) (s4 : GConf) (o4 : List UInt8) (a0 : Int) (s : PF.St) (hk : keep [5, 6, 10] [102, 103, 105] s = some (r29_Write_3_st t7 t8 s4 o4 a0)) : Sim (r29_Write_3 t7 t8 s4 o4 a0) (Gv (r29_Write_3_rel t7 t8 s4)) (LM.loop ([5, 6, 10], [102, 103, 105], [6], B_r29_Write_3) s) := by
  refine sim_loop M XE (r29_Write_3_inv t7 t8 s4) (r29_Write_3_rel t7 t8 s4) ?_ _ _ _ hk rfl
  clear hk
  rintro S hS hw hw8 R hR ⟨o4, a0⟩ env hp he
  change (⟨env, hp⟩ : PF.St) = r29_Write_3_st t7 t8 s4 o4 a0 at he
  cases he
  show Sim (r29_Write_3_step t7 t8 s4 o4 a0) _ _
  unfold r29_Write_3_step
  simp only [hw]
  refine au (.ite Iff.rfl (fun hc5 => ?_) fun hc5 => ?_)
  · refine au ?_
    first | refine Sim.ite Iff.rfl (fun hb => ?_) (fun _ => Sim.no) | refine Sim.guard (fun hb => ?_)
    refine au ?_
    refine Sim.opt (f := iav) (by have hb' : (Int.toNat a0) < 6 := (by omega); generalize (Int.toNat a0) = j at hb' ⊢; rcases j with _|_|_|_|_|_|j <;> first | rfl | exact absurd hb' (by omega)) (fun z7 _ => ?_)
    refine au (cE hR (r29_number_sim _ _) fun r25 => ?_)
    refine au ?_
    first | refine Sim.ite Iff.rfl (fun _ => ?_) (fun _ => Sim.no) | refine Sim.guard (fun _ => ?_)
    refine au ?_
    exact Sim.ret ⟨_, _, rfl, rfl, rfl⟩
  · exact au (.ret ⟨_, rfl, rfl⟩)
noncomputable def r29_Write (L0 : GConf) (i0 : GMem) : Option ((List UInt8)) :=
  (r03_Plain L0).bind fun r0 =>
  if r0 ≠ 0 then
    some ([] : List UInt8)
  else
    (r28_Mend L0 i0).bind fun r2 =>
    (r29_number r2.Clock 2).bind fun r3 =>
    (r29_number r2.Anchor 2).bind fun r4 =>
    if List.length r3 + List.length r4 ≤ 9223372036854775807 then
      (r29_number r2.Since 2).bind fun r5 =>
      if List.length (r3 ++ r4) + List.length r5 ≤ 9223372036854775807 then
        (r29_number r2.Age 1).bind fun r6 =>
        if List.length ((r3 ++ r4) ++ r5) + List.length r6 ≤ 9223372036854775807 then
          (r29_number r2.Number 1).bind fun r7 =>
          if List.length (((r3 ++ r4) ++ r5) ++ r6) + List.length r7 ≤ 9223372036854775807 then
            (r29_number r2.Regular 1).bind fun r8 =>
            if List.length ((((r3 ++ r4) ++ r5) ++ r6) ++ r7) + List.length r8 ≤ 9223372036854775807 then
              if List.length (((((r3 ++ r4) ++ r5) ++ r6) ++ r7) ++ r8) + List.length r2.Pipe ≤ 9223372036854775807 then
                (r29_maybe r2.Vec).bind fun r9 =>
                if List.length ((((((r3 ++ r4) ++ r5) ++ r6) ++ r7) ++ r8) ++ r2.Pipe) + List.length r9 ≤ 9223372036854775807 then
                  (r29_maybe r2.Agreed).bind fun r10 =>
                  if List.length (((((((r3 ++ r4) ++ r5) ++ r6) ++ r7) ++ r8) ++ r2.Pipe) ++ r9) + List.length r10 ≤ 9223372036854775807 then
                    if List.length ((((((((r3 ++ r4) ++ r5) ++ r6) ++ r7) ++ r8) ++ r2.Pipe) ++ r9) ++ r10) + List.length r2.Members ≤ 9223372036854775807 then
                      if List.length (((((((((r3 ++ r4) ++ r5) ++ r6) ++ r7) ++ r8) ++ r2.Pipe) ++ r9) ++ r10) ++ r2.Members) + List.length r2.Seen ≤ 9223372036854775807 then
                        if List.length ((((((((((r3 ++ r4) ++ r5) ++ r6) ++ r7) ++ r8) ++ r2.Pipe) ++ r9) ++ r10) ++ r2.Members) ++ r2.Seen) + List.length r2.Heard ≤ 9223372036854775807 then
                          if List.length (((((((((((r3 ++ r4) ++ r5) ++ r6) ++ r7) ++ r8) ++ r2.Pipe) ++ r9) ++ r10) ++ r2.Members) ++ r2.Seen) ++ r2.Heard) + List.length r2.Sent ≤ 9223372036854775807 then
                            (r29_text r2.Out).bind fun r11 =>
                            if List.length ((((((((((((r3 ++ r4) ++ r5) ++ r6) ++ r7) ++ r8) ++ r2.Pipe) ++ r9) ++ r10) ++ r2.Members) ++ r2.Seen) ++ r2.Heard) ++ r2.Sent) + List.length r11 ≤ 9223372036854775807 then
                              (r29_text r2.Line).bind fun r12 =>
                              if List.length (((((((((((((r3 ++ r4) ++ r5) ++ r6) ++ r7) ++ r8) ++ r2.Pipe) ++ r9) ++ r10) ++ r2.Members) ++ r2.Seen) ++ r2.Heard) ++ r2.Sent) ++ r11) + List.length r12 ≤ 9223372036854775807 then
                                (r29_Write_0 r2 i0 L0 ((((((((((((((r3 ++ r4) ++ r5) ++ r6) ++ r7) ++ r8) ++ r2.Pipe) ++ r9) ++ r10) ++ r2.Members) ++ r2.Seen) ++ r2.Heard) ++ r2.Sent) ++ r11) ++ r12) 0).bind fun r16 =>
                                (r29_Write_1 r2 i0 L0 r16 0).bind fun r19 =>
                                (r29_number (List.length r2.Log : Int) 1).bind fun r20 =>
                                if List.length r19 + List.length r20 ≤ 9223372036854775807 then
                                  (r29_Write_2 r2 i0 L0 (r19 ++ r20) 0).bind fun r24 =>
                                  (r29_Write_3 r2 i0 L0 r24 0).bind fun r26 =>
                                  some r26
                                else none
                              else none
                            else none
                          else none
                        else none
                      else none
                    else none
                  else none
                else none
              else none
            else none
          else none
        else none
      else none
    else none
theorem r29_Write_sim (L0 : GConf) (i0 : GMem) : Sim (r29_Write L0 i0) (Gv fun r q => q = (.str r, [])) (LM.call n_r29_Write [GConf.av L0, GMem.av i0] []) := by
  unfold r29_Write
  refine sim_evR M XE rfl rfl fun S hS hw hw8 R hR => ?_
  refine au (cE hR (r03_Plain_sim _) fun r0 => ?_)
  refine au (.ite Iff.rfl (fun hc => ?_) fun hc => ?_)
  · exact au (.ret ⟨_, rfl, rfl⟩)
  · refine au (cE hR (r28_Mend_sim _ _) fun r2 => ?_)
    refine au (cE hR (r29_number_sim _ _) fun r3 => ?_)
    refine au (cE hR (r29_number_sim _ _) fun r4 => ?_)
    refine au ?_
    first | refine Sim.ite Iff.rfl (fun _ => ?_) (fun _ => Sim.no) | refine Sim.guard (fun _ => ?_)
    refine au (cE hR (r29_number_sim _ _) fun r5 => ?_)
    refine au ?_
    first | refine Sim.ite Iff.rfl (fun _ => ?_) (fun _ => Sim.no) | refine Sim.guard (fun _ => ?_)
    refine au (cE hR (r29_number_sim _ _) fun r6 => ?_)
    refine au ?_
    first | refine Sim.ite Iff.rfl (fun _ => ?_) (fun _ => Sim.no) | refine Sim.guard (fun _ => ?_)
    refine au (cE hR (r29_number_sim _ _) fun r7 => ?_)
    refine au ?_
    first | refine Sim.ite Iff.rfl (fun _ => ?_) (fun _ => Sim.no) | refine Sim.guard (fun _ => ?_)
    refine au (cE hR (r29_number_sim _ _) fun r8 => ?_)
    refine au ?_
    first | refine Sim.ite Iff.rfl (fun _ => ?_) (fun _ => Sim.no) | refine Sim.guard (fun _ => ?_)
    refine au ?_
    first | refine Sim.ite Iff.rfl (fun _ => ?_) (fun _ => Sim.no) | refine Sim.guard (fun _ => ?_)
    refine au (cE hR (r29_maybe_sim _) fun r9 => ?_)
    refine au ?_
    first | refine Sim.ite Iff.rfl (fun _ => ?_) (fun _ => Sim.no) | refine Sim.guard (fun _ => ?_)
    refine au (cE hR (r29_maybe_sim _) fun r10 => ?_)
    refine au ?_
    first | refine Sim.ite Iff.rfl (fun _ => ?_) (fun _ => Sim.no) | refine Sim.guard (fun _ => ?_)
    refine au ?_
    first | refine Sim.ite Iff.rfl (fun _ => ?_) (fun _ => Sim.no) | refine Sim.guard (fun _ => ?_)
    refine au ?_
    first | refine Sim.ite Iff.rfl (fun _ => ?_) (fun _ => Sim.no) | refine Sim.guard (fun _ => ?_)
    refine au ?_
    first | refine Sim.ite Iff.rfl (fun _ => ?_) (fun _ => Sim.no) | refine Sim.guard (fun _ => ?_)
    refine au ?_
    first | refine Sim.ite Iff.rfl (fun _ => ?_) (fun _ => Sim.no) | refine Sim.guard (fun _ => ?_)
    refine au (cE hR (r29_text_sim _) fun r11 => ?_)
    refine au ?_
    first | refine Sim.ite Iff.rfl (fun _ => ?_) (fun _ => Sim.no) | refine Sim.guard (fun _ => ?_)
    refine au (cE hR (r29_text_sim _) fun r12 => ?_)
    refine au ?_
    first | refine Sim.ite Iff.rfl (fun _ => ?_) (fun _ => Sim.no) | refine Sim.guard (fun _ => ?_)
    refine au ?_
    refine Sim.callL hR (r29_Write_0_sim r2 i0 L0 ((((((((((((((r3 ++ r4) ++ r5) ++ r6) ++ r7) ++ r8) ++ r2.Pipe) ++ r9) ++ r10) ++ r2.Members) ++ r2.Seen) ++ r2.Heard) ++ r2.Sent) ++ r11) ++ r12) 0 _ rfl) ?_
    rintro r16 q rfl
    refine au ?_
    refine Sim.callL hR (r29_Write_1_sim r2 i0 L0 r16 0 _ rfl) ?_
    rintro r19 q rfl
    refine au ?_
    refine Sim.ki hS (m := (List.length r2.Log : Int)) (by simp) ?_
    refine au (cE hR (r29_number_sim _ _) fun r20 => ?_)
    refine au ?_
    first | refine Sim.ite Iff.rfl (fun _ => ?_) (fun _ => Sim.no) | refine Sim.guard (fun _ => ?_)
    refine au ?_
    refine Sim.callL hR (r29_Write_2_sim r2 i0 L0 (r19 ++ r20) 0 _ rfl) ?_
    rintro r24 q rfl
    refine au ?_
    refine Sim.callL hR (r29_Write_3_sim r2 i0 L0 r24 0 _ rfl) ?_
    rintro r26 q rfl
    exact au (.ret ⟨_, rfl, rfl⟩)
noncomputable def l29_ImageWrites (c0 : GConf) (m0 : GMem) : Option Bool :=
  (r28_Few m0).bind fun r0 =>
  if (!r0) = true then
    (l29_known).bind fun r2 =>
    some r2
  else
    (image_Write c0 m0).bind fun r3 =>
    (r29_Write c0 m0).bind fun r4 =>
    if r3 = r4 then
      (l29_known).bind fun r5 =>
      some r5
    else
      some false
theorem l29_ImageWrites_sim (c0 : GConf) (m0 : GMem) : Sim (l29_ImageWrites c0 m0) (Gv fun r q => q = (.bool r, [])) (LM.call n_l29_ImageWrites [GConf.av c0, GMem.av m0] []) := by
  unfold l29_ImageWrites
  refine sim_evR M XE rfl rfl fun S hS hw hw8 R hR => ?_
  refine au (cE hR (r28_Few_sim _) fun r0 => ?_)
  refine au (.iteB (fun hc => ?_) fun hc => ?_)
  · refine au (cE hR (l29_known_sim) fun r2 => ?_)
    exact au (.ret ⟨_, rfl, rfl⟩)
  · refine au (cE hR (image_Write_sim _ _) fun r3 => ?_)
    refine au (cE hR (r29_Write_sim _ _) fun r4 => ?_)
    refine au (.ite Iff.rfl (fun hc2 => ?_) fun hc2 => ?_)
    · refine au (cE hR (l29_known_sim) fun r5 => ?_)
      exact au (.ret ⟨_, rfl, rfl⟩)
    · exact au (.ret ⟨_, rfl, rfl⟩)
noncomputable def r29_byteAt (s0 : List UInt8) (at0 : Int) : Option Int :=
  if (List.length s0 : Int) ≤ at0 then
    some 0
  else
    (idx? s0 at0).bind fun b0 =>
    some (wr (UInt8.toNat b0 : Int))
theorem r29_byteAt_sim (s0 : List UInt8) (at0 : Int) : Sim (r29_byteAt s0 at0) (Gv fun r q => q = (iav r, [])) (LM.call n_r29_byteAt [.str s0, iav at0] []) := by
  unfold r29_byteAt
  refine sim_evR M XE rfl rfl fun S hS hw hw8 R hR => ?_
  simp only [hw]
  refine au (.ite Iff.rfl (fun hc => ?_) fun hc => ?_)
  · exact au (.ret ⟨_, rfl, rfl⟩)
  · refine au ?_
    refine Sim.ix rfl (fun b0 hb0 => ?_)
    refine au ?_
    refine Sim.go hb0 ?_
    exact au (.ret ⟨_, rfl, rfl⟩)
noncomputable def r29_get_0_step (s2 : List UInt8) (at2 : Int) (n2 : Int) (out : List UInt8) (i0 : Int) : Option (((List UInt8) × Int) ⊕ ((List UInt8))) :=
  if i0 < n2 then
    (r29_byteAt s2 (wr (at2 + i0))).bind fun r0 =>
    (r01_Byte r0).bind fun r2 =>
    if List.length out + List.length r2 ≤ 9223372036854775807 then
      some (.inl ((out ++ r2), (wr (i0 + 1))))
    else none
  else
    some (.inr out)
noncomputable def r29_get_0 (s2 : List UInt8) (at2 : Int) (n2 : Int) (out : List UInt8) (i0 : Int) : Option ((List UInt8)) :=
  loopO (fun s : (List UInt8) × Int => r29_get_0_step s2 at2 n2 s.1 s.2) (out, i0)
@[reducible] def r29_get_0_st (s2 : List UInt8) (at2 : Int) (n2 : Int) (out : List UInt8) (i0 : Int) : PF.St := ⟨[(0, .str s2), (1, iav at2), (2, iav n2), (8, .str out), (9, iav i0)], []⟩
def r29_get_0_rel (s2 : List UInt8) (at2 : Int) (n2 : Int) (r : ((List UInt8))) (q : Ex × PF.St) : Prop := (fun r (q : Ex × PF.St) => q = ((.exit 0), ⟨[(1, iav at2), (2, iav n2), (8, .str r)], []⟩)) r q
def r29_get_0_inv (s2 : List UInt8) (at2 : Int) (n2 : Int) (v : (List UInt8) × Int) (e : PF.St) : Prop := e = r29_get_0_st s2 at2 n2 v.1 v.2
theorem r29_get_0_sim (s2 : List UInt8) (at2 : Int) (n2 : Int) (out : List UInt8) (i0 : Int) (s : PF.St) (hk : keep [0, 1, 2, 8, 9] [] s = some (r29_get_0_st s2 at2 n2 out i0)) : Sim (r29_get_0 s2 at2 n2 out i0) (Gv (r29_get_0_rel s2 at2 n2)) (LM.loop ([0, 1, 2, 8, 9], [], [1, 2, 8], B_r29_get_0) s) := by
  refine sim_loop M XE (r29_get_0_inv s2 at2 n2) (r29_get_0_rel s2 at2 n2) ?_ _ _ _ hk rfl
  clear hk
  rintro S hS hw hw8 R hR ⟨out, i0⟩ env hp he
  change (⟨env, hp⟩ : PF.St) = r29_get_0_st s2 at2 n2 out i0 at he
  cases he
  show Sim (r29_get_0_step s2 at2 n2 out i0) _ _
  unfold r29_get_0_step
  simp only [hw]
  refine au (.ite Iff.rfl (fun hc => ?_) fun hc => ?_)
  · refine au (cE hR (r29_byteAt_sim _ _) fun r0 => ?_)
    refine au (cE hR (r01_Byte_sim _) fun r2 => ?_)
    refine au ?_
    first | refine Sim.ite Iff.rfl (fun _ => ?_) (fun _ => Sim.no) | refine Sim.guard (fun _ => ?_)
    refine au ?_
    exact Sim.ret ⟨_, _, rfl, rfl, rfl⟩
  · exact au (.ret ⟨_, rfl, rfl⟩)
noncomputable def r29_get (s0 : List UInt8) (at0 : Int) (n0 : Int) : Option ((List UInt8) × Int) :=
  (r29_get_0 s0 at0 n0 ([] : List UInt8) 0).bind fun r3 =>
  some (r3, (wr (at0 + n0)))
theorem r29_get_sim (s0 : List UInt8) (at0 : Int) (n0 : Int) : Sim (r29_get s0 at0 n0) (Gv fun r q => q = (.tup [.str r.1, iav r.2], [])) (LM.call n_r29_get [.str s0, iav at0, iav n0] []) := by
  unfold r29_get
  refine sim_evR M XE rfl rfl fun S hS hw hw8 R hR => ?_
  simp only [hw]
  refine au ?_
  refine Sim.callL hR (r29_get_0_sim s0 at0 n0 ([] : List UInt8) 0 _ rfl) ?_
  rintro r3 q rfl
  exact au (.ret ⟨_, rfl, rfl⟩)
noncomputable def r01_Get_0_step (s2 : List UInt8) (at2 : Int) (n0 : Int) (i0 : Int) : Option ((Int × Int) ⊕ Int) :=
  if 0 ≤ i0 then
    (idx? s2 (wr (at2 + i0))).bind fun b0 =>
    some (.inl ((wr ((wr (256 * n0)) + (wr (UInt8.toNat b0 : Int)))), (wr (i0 - 1))))
  else
    some (.inr n0)
noncomputable def r01_Get_0 (s2 : List UInt8) (at2 : Int) (n0 : Int) (i0 : Int) : Option Int :=
  loopO (fun s : Int × Int => r01_Get_0_step s2 at2 s.1 s.2) (n0, i0)
@[reducible] def r01_Get_0_st (s2 : List UInt8) (at2 : Int) (n0 : Int) (i0 : Int) : PF.St := ⟨[(0, .str s2), (1, iav at2), (8, iav n0), (9, iav i0)], []⟩
def r01_Get_0_rel (s2 : List UInt8) (at2 : Int) (r : Int) (q : Ex × PF.St) : Prop := (fun r (q : Ex × PF.St) => q = ((.exit 0), ⟨[(8, iav r)], []⟩)) r q
def r01_Get_0_inv (s2 : List UInt8) (at2 : Int) (v : Int × Int) (e : PF.St) : Prop := e = r01_Get_0_st s2 at2 v.1 v.2
theorem r01_Get_0_sim (s2 : List UInt8) (at2 : Int) (n0 : Int) (i0 : Int) (s : PF.St) (hk : keep [0, 1, 8, 9] [] s = some (r01_Get_0_st s2 at2 n0 i0)) : Sim (r01_Get_0 s2 at2 n0 i0) (Gv (r01_Get_0_rel s2 at2)) (LM.loop ([0, 1, 8, 9], [], [8], B_r01_Get_0) s) := by
  refine sim_loop M XE (r01_Get_0_inv s2 at2) (r01_Get_0_rel s2 at2) ?_ _ _ _ hk rfl
  clear hk
  rintro S hS hw hw8 R hR ⟨n0, i0⟩ env hp he
  change (⟨env, hp⟩ : PF.St) = r01_Get_0_st s2 at2 n0 i0 at he
  cases he
  show Sim (r01_Get_0_step s2 at2 n0 i0) _ _
  unfold r01_Get_0_step
  simp only [hw]
  refine au (.ite Iff.rfl (fun hc6 => ?_) fun hc6 => ?_)
  · refine au ?_
    refine Sim.ix rfl (fun b0 hb0 => ?_)
    refine au ?_
    refine Sim.go hb0 ?_
    refine au ?_
    exact Sim.ret ⟨_, _, rfl, rfl, rfl⟩
  · exact au (.ret ⟨_, rfl, rfl⟩)
noncomputable def r01_Get (s0 : List UInt8) (at0 : Int) (width : Int) : Option (Int × Int) :=
  if width < 1 then
    some (0, 2)
  else
    if 4 < width then
      some (0, 2)
    else
      if at0 < 0 then
        some (0, 2)
      else
        if (List.length s0 : Int) < at0 then
          some (0, 5)
        else
          if (wr ((List.length s0 : Int) - at0)) < width then
            some (0, 5)
          else
            (r01_Get_0 s0 at0 0 (wr (width - 1))).bind fun r0 =>
            some (r0, 0)
theorem r01_Get_sim (s0 : List UInt8) (at0 : Int) (width : Int) : Sim (r01_Get s0 at0 width) (Gv fun r q => q = (.tup [iav r.1, iav r.2], [])) (LM.call n_r01_Get [.str s0, iav at0, iav width] []) := by
  unfold r01_Get
  refine sim_evR M XE rfl rfl fun S hS hw hw8 R hR => ?_
  simp only [hw]
  refine au (.ite Iff.rfl (fun hc => ?_) fun hc => ?_)
  · exact au (.ret ⟨_, rfl, rfl⟩)
  · refine au (.ite Iff.rfl (fun hc2 => ?_) fun hc2 => ?_)
    · exact au (.ret ⟨_, rfl, rfl⟩)
    · refine au (.ite Iff.rfl (fun hc3 => ?_) fun hc3 => ?_)
      · exact au (.ret ⟨_, rfl, rfl⟩)
      · refine au (.ite Iff.rfl (fun hc4 => ?_) fun hc4 => ?_)
        · exact au (.ret ⟨_, rfl, rfl⟩)
        · refine au (.ite Iff.rfl (fun hc5 => ?_) fun hc5 => ?_)
          · exact au (.ret ⟨_, rfl, rfl⟩)
          · refine au ?_
            refine Sim.callL hR (r01_Get_0_sim s0 at0 0 (S.wr (width - 1)) _ rfl) ?_
            rintro r0 q rfl
            exact au (.ret ⟨_, rfl, rfl⟩)
noncomputable def r29_count (s0 : List UInt8) (at0 : Int) (width : Int) : Option (Int × Int) :=
  (r29_get s0 at0 width).bind fun r0 =>
  (r01_Get r0.1 0 width).bind fun r2 =>
  some (r2.1, r0.2)
theorem r29_count_sim (s0 : List UInt8) (at0 : Int) (width : Int) : Sim (r29_count s0 at0 width) (Gv fun r q => q = (.tup [iav r.1, iav r.2], [])) (LM.call n_r29_count [.str s0, iav at0, iav width] []) := by
  unfold r29_count
  refine sim_evR M XE rfl rfl fun S hS hw hw8 R hR => ?_
  refine au (cE hR (r29_get_sim _ _ _) fun r0 => ?_)
  refine au (cE hR (r01_Get_sim _ _ _) fun r2 => ?_)
  exact au (.ret ⟨_, rfl, rfl⟩)
noncomputable def r29_perhaps (s0 : List UInt8) (at0 : Int) (n0 : Int) : Option ((List UInt8) × Int) :=
  (r29_byteAt s0 at0).bind fun r0 =>
  if (Int.tmod r0 2) = 0 then
    some (([] : List UInt8), (wr (at0 + 1)))
  else
    (r29_get s0 (wr (at0 + 1)) n0).bind fun r2 =>
    some (r2.1, r2.2)
theorem r29_perhaps_sim (s0 : List UInt8) (at0 : Int) (n0 : Int) : Sim (r29_perhaps s0 at0 n0) (Gv fun r q => q = (.tup [.str r.1, iav r.2], [])) (LM.call n_r29_perhaps [.str s0, iav at0, iav n0] []) := by
  unfold r29_perhaps
  refine sim_evR M XE rfl rfl fun S hS hw hw8 R hR => ?_
  simp only [hw]
  refine au (cE hR (r29_byteAt_sim _ _) fun r0 => ?_)
  refine au (.ite Iff.rfl (fun hc => ?_) fun hc => ?_)
  · exact au (.ret ⟨_, rfl, rfl⟩)
  · refine au (cE hR (r29_get_sim _ _ _) fun r2 => ?_)
    exact au (.ret ⟨_, rfl, rfl⟩)
noncomputable def r29_short (s0 : List UInt8) (at0 : Int) (by0 : Int) : Option ((List UInt8) × Int) :=
  (r29_byteAt s0 at0).bind fun r0 =>
  if by0 = 0 then none else
  (r29_get s0 (wr (at0 + 1)) (Int.tmod r0 by0)).bind fun r2 =>
  some (r2.1, r2.2)
theorem r29_short_sim (s0 : List UInt8) (at0 : Int) (by0 : Int) : Sim (r29_short s0 at0 by0) (Gv fun r q => q = (.tup [.str r.1, iav r.2], [])) (LM.call n_r29_short [.str s0, iav at0, iav by0] []) := by
  unfold r29_short
  refine sim_evR M XE rfl rfl fun S hS hw hw8 R hR => ?_
  simp only [hw]
  refine au (cE hR (r29_byteAt_sim _ _) fun r0 => ?_)
  refine au ?_
  refine Sim.ite Iff.rfl (fun _ => Sim.no) (fun hc => ?_)
  refine au (cE hR (r29_get_sim _ _ _) fun r2 => ?_)
  exact au (.ret ⟨_, rfl, rfl⟩)
noncomputable def r29_Read_0_step (i2 : List UInt8) (x3 : GMem) (s0 : GConf) (o0 : Int) (x0 : Int) (x2 : GMem) : Option ((Int × Int × GMem) ⊕ (Int × GMem)) :=
  if x0 < s0.N then
    (r29_short i2 o0 17).bind fun r20 =>
    (r29_count i2 r20.2 1).bind fun r21 =>
    (r29_count i2 r21.2 1).bind fun r22 =>
    if List.length x2.Ports + List.length [(GPort.mk r20.1 r21.1 r22.1)] ≤ lenMax then
      some (.inl (r22.2, (wr (x0 + 1)), (GMem.mk x2.Clock x2.Anchor x2.Since x2.Pipe x2.Age x2.Vec x2.Agreed x2.Number x2.Regular x2.Members x2.Seen x2.Heard x2.Sent x2.Out x2.Line (x2.Ports ++ [(GPort.mk r20.1 r21.1 r22.1)]) x2.Hold x2.Log x2.Diag)))
    else none
  else
    some (.inr (o0, x2))
noncomputable def r29_Read_0 (i2 : List UInt8) (x3 : GMem) (s0 : GConf) (o0 : Int) (x0 : Int) (x2 : GMem) : Option (Int × GMem) :=
  loopO (fun s : Int × Int × GMem => r29_Read_0_step i2 x3 s0 s.1 s.2.1 s.2.2) (o0, x0, x2)
@[reducible] def r29_Read_0_st (i2 : List UInt8) (x3 : GMem) (s0 : GConf) (o0 : Int) (x0 : Int) (x2 : GMem) (g0 : Gr) (g2 : Gr) (g3 : Gr) (g4 : Gr) (g5 : Gr) (g6 : Gr) : PF.St := ⟨[(1, .str i2), (2, .ptr 102 0), (4, .ptr 104 0), (6, iav o0), (21, .ptr 121 0), (22, iav x0)], [(121, ⟨true, [iav x2.Clock, iav x2.Anchor, iav x2.Since, .str x2.Pipe, iav x2.Age, .str x2.Vec, .str x2.Agreed, iav x2.Number, iav x2.Regular, .str x2.Members, .str x2.Seen, .str x2.Heard, .str x2.Sent, .str x2.Out, .str x2.Line, .lst g0 (List.map GPort.av x2.Ports), .lst g2 (List.map sav x2.Hold), .lst g3 (List.map GEntry.av x2.Log), iav x2.Diag.a0, iav x2.Diag.a1, iav x2.Diag.a2, iav x2.Diag.a3, iav x2.Diag.a4, iav x2.Diag.a5]⟩), (104, ⟨true, [iav x3.Clock, iav x3.Anchor, iav x3.Since, .str x3.Pipe, iav x3.Age, .str x3.Vec, .str x3.Agreed, iav x3.Number, iav x3.Regular, .str x3.Members, .str x3.Seen, .str x3.Heard, .str x3.Sent, .str x3.Out, .str x3.Line, .lst g4 (List.map GPort.av x3.Ports), .lst g5 (List.map sav x3.Hold), .lst g6 (List.map GEntry.av x3.Log), iav x3.Diag.a0, iav x3.Diag.a1, iav x3.Diag.a2, iav x3.Diag.a3, iav x3.Diag.a4, iav x3.Diag.a5]⟩), (102, ⟨true, GConf.cells s0⟩)]⟩
def r29_Read_0_rel (i2 : List UInt8) (x3 : GMem) (s0 : GConf) (r : (Int × GMem)) (q : Ex × PF.St) : Prop := (fun r (q : Ex × PF.St) => ∃ g0', ∃ g1', ∃ g2', ∃ g3', ∃ g4', ∃ g5', q = ((.exit 0), ⟨[(1, .str i2), (2, .ptr 102 0), (4, .ptr 104 0), (6, iav r.1), (21, .ptr 121 0)], [(121, ⟨true, [iav r.2.Clock, iav r.2.Anchor, iav r.2.Since, .str r.2.Pipe, iav r.2.Age, .str r.2.Vec, .str r.2.Agreed, iav r.2.Number, iav r.2.Regular, .str r.2.Members, .str r.2.Seen, .str r.2.Heard, .str r.2.Sent, .str r.2.Out, .str r.2.Line, .lst g0' (List.map GPort.av r.2.Ports), .lst g1' (List.map sav r.2.Hold), .lst g2' (List.map GEntry.av r.2.Log), iav r.2.Diag.a0, iav r.2.Diag.a1, iav r.2.Diag.a2, iav r.2.Diag.a3, iav r.2.Diag.a4, iav r.2.Diag.a5]⟩), (104, ⟨true, [iav x3.Clock, iav x3.Anchor, iav x3.Since, .str x3.Pipe, iav x3.Age, .str x3.Vec, .str x3.Agreed, iav x3.Number, iav x3.Regular, .str x3.Members, .str x3.Seen, .str x3.Heard, .str x3.Sent, .str x3.Out, .str x3.Line, .lst g3' (List.map GPort.av x3.Ports), .lst g4' (List.map sav x3.Hold), .lst g5' (List.map GEntry.av x3.Log), iav x3.Diag.a0, iav x3.Diag.a1, iav x3.Diag.a2, iav x3.Diag.a3, iav x3.Diag.a4, iav x3.Diag.a5]⟩), (102, ⟨true, GConf.cells s0⟩)]⟩) ∧ Mg 3 g0' ∧ Mg 1 g1' ∧ Mg 2 g2' ∧ Mg 3 g3' ∧ Mg 1 g4' ∧ Mg 2 g5') r q
def r29_Read_0_inv (i2 : List UInt8) (x3 : GMem) (s0 : GConf) (v : Int × Int × GMem) (e : PF.St) : Prop := ∃ g0, ∃ g2, ∃ g3, ∃ g4, ∃ g5, ∃ g6, e = r29_Read_0_st i2 x3 s0 v.1 v.2.1 v.2.2 g0 g2 g3 g4 g5 g6 ∧ Mg 3 g0 ∧ Mg 1 g2 ∧ Mg 2 g3 ∧ Mg 3 g4 ∧ Mg 1 g5 ∧ Mg 2 g6
theorem r29_Read_0_sim (i2 : List UInt8) (x3 : GMem) (s0 : GConf) (o0 : Int) (x0 : Int) (x2 : GMem) (g0 : Gr) (hg0 : Mg 3 g0) (g2 : Gr) (hg2 : Mg 1 g2) (g3 : Gr) (hg3 : Mg 2 g3) (g4 : Gr) (hg4 : Mg 3 g4) (g5 : Gr) (hg5 : Mg 1 g5) (g6 : Gr) (hg6 : Mg 2 g6) (s : PF.St) (hk : keep [1, 2, 4, 6, 21, 22] [102, 104, 121] s = some (r29_Read_0_st i2 x3 s0 o0 x0 x2 g0 g2 g3 g4 g5 g6)) : Sim (r29_Read_0 i2 x3 s0 o0 x0 x2) (Gv (r29_Read_0_rel i2 x3 s0)) (LM.loop ([1, 2, 4, 6, 21, 22], [102, 104, 121], [1, 2, 4, 6, 21], B_r29_Read_0) s) := by
  refine sim_loop M XE (r29_Read_0_inv i2 x3 s0) (r29_Read_0_rel i2 x3 s0) ?_ _ _ _ hk ⟨g0, g2, g3, g4, g5, g6, rfl, hg0, hg2, hg3, hg4, hg5, hg6⟩
  clear hk hg0 hg2 hg3 hg4 hg5 hg6
  rintro S hS hw hw8 R hR ⟨o0, x0, x2⟩ env hp ⟨g0, g2, g3, g4, g5, g6, he, hg0, hg2, hg3, hg4, hg5, hg6⟩
  change (⟨env, hp⟩ : PF.St) = r29_Read_0_st i2 x3 s0 o0 x0 x2 g0 g2 g3 g4 g5 g6 at he
  cases he
  show Sim (r29_Read_0_step i2 x3 s0 o0 x0 x2) _ _
  unfold r29_Read_0_step
  simp only [hw]
  refine au (.ite Iff.rfl (fun hc2 => ?_) fun hc2 => ?_)
  · refine au (cE hR (r29_short_sim _ _ _) fun r20 => ?_)
    refine au (cE hR (r29_count_sim _ _ _) fun r21 => ?_)
    refine au (cE hR (r29_count_sim _ _ _) fun r22 => ?_)
    refine au ?_
    refine Sim.kl hS (ys := List.map GPort.av [(GPort.mk r20.1 r21.1 r22.1)]) rfl ?_
    refine au ?_
    first | (refine Sim.goB (may_map (by intro _; rfl) hg0 _) ?_) | skip
    refine au ?_
    first | (refine Sim.goB (okE_map (by intro _; exact ⟨rfl, rfl, rfl⟩) _) ?_) | skip
    refine au ?_
    first | refine Sim.ite (by simp) (fun _ => ?_) (fun _ => Sim.no) | refine Sim.guard (fun _ => ?_)
    refine au ?_
    refine Sim.kl hS (ys := List.map GPort.av (x2.Ports ++ [(GPort.mk r20.1 r21.1 r22.1)])) (by simp) ?_
    refine au ?_
    exact Sim.ret ⟨_, _, rfl, rfl, ⟨_, _, _, _, _, _, rfl, Mg.own, hg2, hg3, hg4, hg5, hg6⟩⟩
  · refine au ?_
    exact Sim.ret ⟨_, rfl, ⟨_, _, _, _, _, _, rfl, hg0, hg2, hg3, hg4, hg5, hg6⟩⟩
noncomputable def r29_Read_1_step (i3 : List UInt8) (x6 : GMem) (s2 : GConf) (o2 : Int) (x4 : Int) (x5 : GMem) : Option ((Int × Int × GMem) ⊕ (Int × GMem)) :=
  if x4 < (wr (s2.N * s2.D)) then
    (r29_short i3 o2 41).bind fun r24 =>
    if List.length x5.Hold + List.length [r24.1] ≤ lenMax then
      some (.inl (r24.2, (wr (x4 + 1)), (GMem.mk x5.Clock x5.Anchor x5.Since x5.Pipe x5.Age x5.Vec x5.Agreed x5.Number x5.Regular x5.Members x5.Seen x5.Heard x5.Sent x5.Out x5.Line x5.Ports (x5.Hold ++ [r24.1]) x5.Log x5.Diag)))
    else none
  else
    some (.inr (o2, x5))
noncomputable def r29_Read_1 (i3 : List UInt8) (x6 : GMem) (s2 : GConf) (o2 : Int) (x4 : Int) (x5 : GMem) : Option (Int × GMem) :=
  loopO (fun s : Int × Int × GMem => r29_Read_1_step i3 x6 s2 s.1 s.2.1 s.2.2) (o2, x4, x5)
@[reducible] def r29_Read_1_st (i3 : List UInt8) (x6 : GMem) (s2 : GConf) (o2 : Int) (x4 : Int) (x5 : GMem) (g13 : Gr) (g14 : Gr) (g15 : Gr) (g16 : Gr) (g17 : Gr) (g18 : Gr) : PF.St := ⟨[(1, .str i3), (2, .ptr 102 0), (4, .ptr 104 0), (6, iav o2), (21, .ptr 121 0), (29, iav x4)], [(121, ⟨true, [iav x5.Clock, iav x5.Anchor, iav x5.Since, .str x5.Pipe, iav x5.Age, .str x5.Vec, .str x5.Agreed, iav x5.Number, iav x5.Regular, .str x5.Members, .str x5.Seen, .str x5.Heard, .str x5.Sent, .str x5.Out, .str x5.Line, .lst g13 (List.map GPort.av x5.Ports), .lst g14 (List.map sav x5.Hold), .lst g15 (List.map GEntry.av x5.Log), iav x5.Diag.a0, iav x5.Diag.a1, iav x5.Diag.a2, iav x5.Diag.a3, iav x5.Diag.a4, iav x5.Diag.a5]⟩), (104, ⟨true, [iav x6.Clock, iav x6.Anchor, iav x6.Since, .str x6.Pipe, iav x6.Age, .str x6.Vec, .str x6.Agreed, iav x6.Number, iav x6.Regular, .str x6.Members, .str x6.Seen, .str x6.Heard, .str x6.Sent, .str x6.Out, .str x6.Line, .lst g16 (List.map GPort.av x6.Ports), .lst g17 (List.map sav x6.Hold), .lst g18 (List.map GEntry.av x6.Log), iav x6.Diag.a0, iav x6.Diag.a1, iav x6.Diag.a2, iav x6.Diag.a3, iav x6.Diag.a4, iav x6.Diag.a5]⟩), (102, ⟨true, GConf.cells s2⟩)]⟩
def r29_Read_1_rel (i3 : List UInt8) (x6 : GMem) (s2 : GConf) (r : (Int × GMem)) (q : Ex × PF.St) : Prop := (fun r (q : Ex × PF.St) => ∃ g0', ∃ g1', ∃ g2', ∃ g3', ∃ g4', ∃ g5', q = ((.exit 2), ⟨[(1, .str i3), (2, .ptr 102 0), (4, .ptr 104 0), (6, iav r.1), (21, .ptr 121 0)], [(121, ⟨true, [iav r.2.Clock, iav r.2.Anchor, iav r.2.Since, .str r.2.Pipe, iav r.2.Age, .str r.2.Vec, .str r.2.Agreed, iav r.2.Number, iav r.2.Regular, .str r.2.Members, .str r.2.Seen, .str r.2.Heard, .str r.2.Sent, .str r.2.Out, .str r.2.Line, .lst g0' (List.map GPort.av r.2.Ports), .lst g1' (List.map sav r.2.Hold), .lst g2' (List.map GEntry.av r.2.Log), iav r.2.Diag.a0, iav r.2.Diag.a1, iav r.2.Diag.a2, iav r.2.Diag.a3, iav r.2.Diag.a4, iav r.2.Diag.a5]⟩), (104, ⟨true, [iav x6.Clock, iav x6.Anchor, iav x6.Since, .str x6.Pipe, iav x6.Age, .str x6.Vec, .str x6.Agreed, iav x6.Number, iav x6.Regular, .str x6.Members, .str x6.Seen, .str x6.Heard, .str x6.Sent, .str x6.Out, .str x6.Line, .lst g3' (List.map GPort.av x6.Ports), .lst g4' (List.map sav x6.Hold), .lst g5' (List.map GEntry.av x6.Log), iav x6.Diag.a0, iav x6.Diag.a1, iav x6.Diag.a2, iav x6.Diag.a3, iav x6.Diag.a4, iav x6.Diag.a5]⟩), (102, ⟨true, GConf.cells s2⟩)]⟩) ∧ Mg 3 g0' ∧ Mg 1 g1' ∧ Mg 2 g2' ∧ Mg 3 g3' ∧ Mg 1 g4' ∧ Mg 2 g5') r q
def r29_Read_1_inv (i3 : List UInt8) (x6 : GMem) (s2 : GConf) (v : Int × Int × GMem) (e : PF.St) : Prop := ∃ g13, ∃ g14, ∃ g15, ∃ g16, ∃ g17, ∃ g18, e = r29_Read_1_st i3 x6 s2 v.1 v.2.1 v.2.2 g13 g14 g15 g16 g17 g18 ∧ Mg 3 g13 ∧ Mg 1 g14 ∧ Mg 2 g15 ∧ Mg 3 g16 ∧ Mg 1 g17 ∧ Mg 2 g18
theorem r29_Read_1_sim (i3 : List UInt8) (x6 : GMem) (s2 : GConf) (o2 : Int) (x4 : Int) (x5 : GMem) (g13 : Gr) (hg13 : Mg 3 g13) (g14 : Gr) (hg14 : Mg 1 g14) (g15 : Gr) (hg15 : Mg 2 g15) (g16 : Gr) (hg16 : Mg 3 g16) (g17 : Gr) (hg17 : Mg 1 g17) (g18 : Gr) (hg18 : Mg 2 g18) (s : PF.St) (hk : keep [1, 2, 4, 6, 21, 29] [102, 104, 121] s = some (r29_Read_1_st i3 x6 s2 o2 x4 x5 g13 g14 g15 g16 g17 g18)) : Sim (r29_Read_1 i3 x6 s2 o2 x4 x5) (Gv (r29_Read_1_rel i3 x6 s2)) (LM.loop ([1, 2, 4, 6, 21, 29], [102, 104, 121], [1, 2, 4, 6, 21], B_r29_Read_1) s) := by
  refine sim_loop M XE (r29_Read_1_inv i3 x6 s2) (r29_Read_1_rel i3 x6 s2) ?_ _ _ _ hk ⟨g13, g14, g15, g16, g17, g18, rfl, hg13, hg14, hg15, hg16, hg17, hg18⟩
  clear hk hg13 hg14 hg15 hg16 hg17 hg18
  rintro S hS hw hw8 R hR ⟨o2, x4, x5⟩ env hp ⟨g13, g14, g15, g16, g17, g18, he, hg13, hg14, hg15, hg16, hg17, hg18⟩
  change (⟨env, hp⟩ : PF.St) = r29_Read_1_st i3 x6 s2 o2 x4 x5 g13 g14 g15 g16 g17 g18 at he
  cases he
  show Sim (r29_Read_1_step i3 x6 s2 o2 x4 x5) _ _
  unfold r29_Read_1_step
  simp only [hw]
  refine au (.ite Iff.rfl (fun hc3 => ?_) fun hc3 => ?_)
  · refine au (cE hR (r29_short_sim _ _ _) fun r24 => ?_)
    refine au ?_
    refine Sim.kl hS (ys := List.map sav [r24.1]) rfl ?_
    refine au ?_
    first | (refine Sim.goB (may_map (by intro _; rfl) hg14 _) ?_) | skip
    refine au ?_
    first | (refine Sim.goB (okE_map (by intro _; exact ⟨rfl, rfl, rfl⟩) _) ?_) | skip
    refine au ?_
    first | refine Sim.ite (by simp) (fun _ => ?_) (fun _ => Sim.no) | refine Sim.guard (fun _ => ?_)
    refine au ?_
    refine Sim.kl hS (ys := List.map sav (x5.Hold ++ [r24.1])) (by simp) ?_
    refine au ?_
    exact Sim.ret ⟨_, _, rfl, rfl, ⟨_, _, _, _, _, _, rfl, hg13, Mg.own, hg15, hg16, hg17, hg18⟩⟩
  · refine au ?_
    exact Sim.ret ⟨_, rfl, ⟨_, _, _, _, _, _, rfl, hg13, hg14, hg15, hg16, hg17, hg18⟩⟩
noncomputable def r29_Read_2_step (i4 : List UInt8) (x7 : Int) (x10 : GMem) (s3 : GConf) (o3 : Int) (x8 : Int) (x9 : GMem) : Option ((Int × Int × GMem) ⊕ (Int × GMem)) :=
  if x8 < x7 then
    (r29_count i4 (wr (o3 + 1)) 2).bind fun r27 =>
    (r29_byteAt i4 o3).bind fun r28 =>
    if s3.N = 0 then none else
    if List.length x9.Log + List.length [(GEntry.mk (Int.tmod r28 s3.N) r27.1)] ≤ lenMax then
      some (.inl (r27.2, (wr (x8 + 1)), (GMem.mk x9.Clock x9.Anchor x9.Since x9.Pipe x9.Age x9.Vec x9.Agreed x9.Number x9.Regular x9.Members x9.Seen x9.Heard x9.Sent x9.Out x9.Line x9.Ports x9.Hold (x9.Log ++ [(GEntry.mk (Int.tmod r28 s3.N) r27.1)]) x9.Diag)))
    else none
  else
    some (.inr (o3, x9))
noncomputable def r29_Read_2 (i4 : List UInt8) (x7 : Int) (x10 : GMem) (s3 : GConf) (o3 : Int) (x8 : Int) (x9 : GMem) : Option (Int × GMem) :=
  loopO (fun s : Int × Int × GMem => r29_Read_2_step i4 x7 x10 s3 s.1 s.2.1 s.2.2) (o3, x8, x9)
@[reducible] def r29_Read_2_st (i4 : List UInt8) (x7 : Int) (x10 : GMem) (s3 : GConf) (o3 : Int) (x8 : Int) (x9 : GMem) (g25 : Gr) (g26 : Gr) (g27 : Gr) (g28 : Gr) (g29 : Gr) (g30 : Gr) : PF.St := ⟨[(1, .str i4), (2, .ptr 102 0), (4, .ptr 104 0), (6, iav o3), (21, .ptr 121 0), (32, iav x7), (33, iav x8)], [(121, ⟨true, [iav x9.Clock, iav x9.Anchor, iav x9.Since, .str x9.Pipe, iav x9.Age, .str x9.Vec, .str x9.Agreed, iav x9.Number, iav x9.Regular, .str x9.Members, .str x9.Seen, .str x9.Heard, .str x9.Sent, .str x9.Out, .str x9.Line, .lst g25 (List.map GPort.av x9.Ports), .lst g26 (List.map sav x9.Hold), .lst g27 (List.map GEntry.av x9.Log), iav x9.Diag.a0, iav x9.Diag.a1, iav x9.Diag.a2, iav x9.Diag.a3, iav x9.Diag.a4, iav x9.Diag.a5]⟩), (104, ⟨true, [iav x10.Clock, iav x10.Anchor, iav x10.Since, .str x10.Pipe, iav x10.Age, .str x10.Vec, .str x10.Agreed, iav x10.Number, iav x10.Regular, .str x10.Members, .str x10.Seen, .str x10.Heard, .str x10.Sent, .str x10.Out, .str x10.Line, .lst g28 (List.map GPort.av x10.Ports), .lst g29 (List.map sav x10.Hold), .lst g30 (List.map GEntry.av x10.Log), iav x10.Diag.a0, iav x10.Diag.a1, iav x10.Diag.a2, iav x10.Diag.a3, iav x10.Diag.a4, iav x10.Diag.a5]⟩), (102, ⟨true, GConf.cells s3⟩)]⟩
def r29_Read_2_rel (i4 : List UInt8) (x7 : Int) (x10 : GMem) (s3 : GConf) (r : (Int × GMem)) (q : Ex × PF.St) : Prop := (fun r (q : Ex × PF.St) => ∃ g0', ∃ g1', ∃ g2', ∃ g3', ∃ g4', ∃ g5', q = ((.exit 4), ⟨[(1, .str i4), (2, .ptr 102 0), (4, .ptr 104 0), (6, iav r.1), (21, .ptr 121 0)], [(121, ⟨true, [iav r.2.Clock, iav r.2.Anchor, iav r.2.Since, .str r.2.Pipe, iav r.2.Age, .str r.2.Vec, .str r.2.Agreed, iav r.2.Number, iav r.2.Regular, .str r.2.Members, .str r.2.Seen, .str r.2.Heard, .str r.2.Sent, .str r.2.Out, .str r.2.Line, .lst g0' (List.map GPort.av r.2.Ports), .lst g1' (List.map sav r.2.Hold), .lst g2' (List.map GEntry.av r.2.Log), iav r.2.Diag.a0, iav r.2.Diag.a1, iav r.2.Diag.a2, iav r.2.Diag.a3, iav r.2.Diag.a4, iav r.2.Diag.a5]⟩), (104, ⟨true, [iav x10.Clock, iav x10.Anchor, iav x10.Since, .str x10.Pipe, iav x10.Age, .str x10.Vec, .str x10.Agreed, iav x10.Number, iav x10.Regular, .str x10.Members, .str x10.Seen, .str x10.Heard, .str x10.Sent, .str x10.Out, .str x10.Line, .lst g3' (List.map GPort.av x10.Ports), .lst g4' (List.map sav x10.Hold), .lst g5' (List.map GEntry.av x10.Log), iav x10.Diag.a0, iav x10.Diag.a1, iav x10.Diag.a2, iav x10.Diag.a3, iav x10.Diag.a4, iav x10.Diag.a5]⟩), (102, ⟨true, GConf.cells s3⟩)]⟩) ∧ Mg 3 g0' ∧ Mg 1 g1' ∧ Mg 2 g2' ∧ Mg 3 g3' ∧ Mg 1 g4' ∧ Mg 2 g5') r q
def r29_Read_2_inv (i4 : List UInt8) (x7 : Int) (x10 : GMem) (s3 : GConf) (v : Int × Int × GMem) (e : PF.St) : Prop := ∃ g25, ∃ g26, ∃ g27, ∃ g28, ∃ g29, ∃ g30, e = r29_Read_2_st i4 x7 x10 s3 v.1 v.2.1 v.2.2 g25 g26 g27 g28 g29 g30 ∧ Mg 3 g25 ∧ Mg 1 g26 ∧ Mg 2 g27 ∧ Mg 3 g28 ∧ Mg 1 g29 ∧ Mg 2 g30
theorem r29_Read_2_sim (i4 : List UInt8) (x7 : Int) (x10 : GMem) (s3 : GConf) (o3 : Int) (x8 : Int) (x9 : GMem) (g25 : Gr) (hg25 : Mg 3 g25) (g26 : Gr) (hg26 : Mg 1 g26) (g27 : Gr) (hg27 : Mg 2 g27) (g28 : Gr) (hg28 : Mg 3 g28) (g29 : Gr) (hg29 : Mg 1 g29) (g30 : Gr) (hg30 : Mg 2 g30) (s : PF.St) (hk : keep [1, 2, 4, 6, 21, 32, 33] [102, 104, 121] s = some (r29_Read_2_st i4 x7 x10 s3 o3 x8 x9 g25 g26 g27 g28 g29 g30)) : Sim (r29_Read_2 i4 x7 x10 s3 o3 x8 x9) (Gv (r29_Read_2_rel i4 x7 x10 s3)) (LM.loop ([1, 2, 4, 6, 21, 32, 33], [102, 104, 121], [1, 2, 4, 6, 21], B_r29_Read_2) s) := by
  refine sim_loop M XE (r29_Read_2_inv i4 x7 x10 s3) (r29_Read_2_rel i4 x7 x10 s3) ?_ _ _ _ hk ⟨g25, g26, g27, g28, g29, g30, rfl, hg25, hg26, hg27, hg28, hg29, hg30⟩
  clear hk hg25 hg26 hg27 hg28 hg29 hg30
  rintro S hS hw hw8 R hR ⟨o3, x8, x9⟩ env hp ⟨g25, g26, g27, g28, g29, g30, he, hg25, hg26, hg27, hg28, hg29, hg30⟩
  change (⟨env, hp⟩ : PF.St) = r29_Read_2_st i4 x7 x10 s3 o3 x8 x9 g25 g26 g27 g28 g29 g30 at he
  cases he
  show Sim (r29_Read_2_step i4 x7 x10 s3 o3 x8 x9) _ _
  unfold r29_Read_2_step
  simp only [hw]
  refine au (.ite Iff.rfl (fun hc4 => ?_) fun hc4 => ?_)
  · refine au (cE hR (r29_count_sim _ _ _) fun r27 => ?_)
    refine au (cE hR (r29_byteAt_sim _ _) fun r28 => ?_)
    refine au ?_
    refine Sim.ite Iff.rfl (fun _ => Sim.no) (fun hc5 => ?_)
    refine au ?_
    refine Sim.kl hS (ys := List.map GEntry.av [(GEntry.mk (Int.tmod r28 s3.N) r27.1)]) rfl ?_
    refine au ?_
    first | (refine Sim.goB (may_map (by intro _; rfl) hg27 _) ?_) | skip
    refine au ?_
    first | (refine Sim.goB (okE_map (by intro _; exact ⟨rfl, rfl, rfl⟩) _) ?_) | skip
    refine au ?_
    first | refine Sim.ite (by simp) (fun _ => ?_) (fun _ => Sim.no) | refine Sim.guard (fun _ => ?_)
    refine au ?_
    refine Sim.kl hS (ys := List.map GEntry.av (x9.Log ++ [(GEntry.mk (Int.tmod r28 s3.N) r27.1)])) (by simp) ?_
    refine au ?_
    exact Sim.ret ⟨_, _, rfl, rfl, ⟨_, _, _, _, _, _, rfl, hg25, hg26, Mg.own, hg28, hg29, hg30⟩⟩
  · refine au ?_
    exact Sim.ret ⟨_, rfl, ⟨_, _, _, _, _, _, rfl, hg25, hg26, hg27, hg28, hg29, hg30⟩⟩
noncomputable def r29_Read_3_step (i5 : List UInt8) (x13 : GMem) (s4 : GConf) (o4 : Int) (x11 : Int) (x12 : GMem) : Option ((Int × Int × GMem) ⊕ GMem) :=
  if x11 < 6 then
    (r29_count i5 o4 2).bind fun r30 =>
    if 0 ≤ x11 ∧ x11 < (6 : Nat) then
      (Ar6.set? x12.Diag (Int.toNat x11) r30.1).bind fun y0 =>
      some (.inl (r30.2, (wr (x11 + 1)), (GMem.mk x12.Clock x12.Anchor x12.Since x12.Pipe x12.Age x12.Vec x12.Agreed x12.Number x12.Regular x12.Members x12.Seen x12.Heard x12.Sent x12.Out x12.Line x12.Ports x12.Hold x12.Log y0)))
    else none
  else
    some (.inr x12)
noncomputable def r29_Read_3 (i5 : List UInt8) (x13 : GMem) (s4 : GConf) (o4 : Int) (x11 : Int) (x12 : GMem) : Option GMem :=
  loopO (fun s : Int × Int × GMem => r29_Read_3_step i5 x13 s4 s.1 s.2.1 s.2.2) (o4, x11, x12)
@[reducible] def r29_Read_3_st (i5 : List UInt8) (x13 : GMem) (s4 : GConf) (o4 : Int) (x11 : Int) (x12 : GMem) (g37 : Gr) (g38 : Gr) (g39 : Gr) (g40 : Gr) (g41 : Gr) (g42 : Gr) : PF.St := ⟨[(1, .str i5), (2, .ptr 102 0), (4, .ptr 104 0), (6, iav o4), (21, .ptr 121 0), (36, iav x11)], [(121, ⟨true, [iav x12.Clock, iav x12.Anchor, iav x12.Since, .str x12.Pipe, iav x12.Age, .str x12.Vec, .str x12.Agreed, iav x12.Number, iav x12.Regular, .str x12.Members, .str x12.Seen, .str x12.Heard, .str x12.Sent, .str x12.Out, .str x12.Line, .lst g37 (List.map GPort.av x12.Ports), .lst g38 (List.map sav x12.Hold), .lst g39 (List.map GEntry.av x12.Log), iav x12.Diag.a0, iav x12.Diag.a1, iav x12.Diag.a2, iav x12.Diag.a3, iav x12.Diag.a4, iav x12.Diag.a5]⟩), (104, ⟨true, [iav x13.Clock, iav x13.Anchor, iav x13.Since, .str x13.Pipe, iav x13.Age, .str x13.Vec, .str x13.Agreed, iav x13.Number, iav x13.Regular, .str x13.Members, .str x13.Seen, .str x13.Heard, .str x13.Sent, .str x13.Out, .str x13.Line, .lst g40 (List.map GPort.av x13.Ports), .lst g41 (List.map sav x13.Hold), .lst g42 (List.map GEntry.av x13.Log), iav x13.Diag.a0, iav x13.Diag.a1, iav x13.Diag.a2, iav x13.Diag.a3, iav x13.Diag.a4, iav x13.Diag.a5]⟩), (102, ⟨true, GConf.cells s4⟩)]⟩
def r29_Read_3_rel (i5 : List UInt8) (x13 : GMem) (s4 : GConf) (r : GMem) (q : Ex × PF.St) : Prop := (fun r (q : Ex × PF.St) => ∃ g0', ∃ g1', ∃ g2', ∃ g3', ∃ g4', ∃ g5', q = ((.exit 6), ⟨[(2, .ptr 102 0), (4, .ptr 104 0), (21, .ptr 121 0)], [(121, ⟨true, [iav r.Clock, iav r.Anchor, iav r.Since, .str r.Pipe, iav r.Age, .str r.Vec, .str r.Agreed, iav r.Number, iav r.Regular, .str r.Members, .str r.Seen, .str r.Heard, .str r.Sent, .str r.Out, .str r.Line, .lst g0' (List.map GPort.av r.Ports), .lst g1' (List.map sav r.Hold), .lst g2' (List.map GEntry.av r.Log), iav r.Diag.a0, iav r.Diag.a1, iav r.Diag.a2, iav r.Diag.a3, iav r.Diag.a4, iav r.Diag.a5]⟩), (104, ⟨true, [iav x13.Clock, iav x13.Anchor, iav x13.Since, .str x13.Pipe, iav x13.Age, .str x13.Vec, .str x13.Agreed, iav x13.Number, iav x13.Regular, .str x13.Members, .str x13.Seen, .str x13.Heard, .str x13.Sent, .str x13.Out, .str x13.Line, .lst g3' (List.map GPort.av x13.Ports), .lst g4' (List.map sav x13.Hold), .lst g5' (List.map GEntry.av x13.Log), iav x13.Diag.a0, iav x13.Diag.a1, iav x13.Diag.a2, iav x13.Diag.a3, iav x13.Diag.a4, iav x13.Diag.a5]⟩), (102, ⟨true, GConf.cells s4⟩)]⟩) ∧ Mg 3 g0' ∧ Mg 1 g1' ∧ Mg 2 g2' ∧ Mg 3 g3' ∧ Mg 1 g4' ∧ Mg 2 g5') r q
def r29_Read_3_inv (i5 : List UInt8) (x13 : GMem) (s4 : GConf) (v : Int × Int × GMem) (e : PF.St) : Prop := ∃ g37, ∃ g38, ∃ g39, ∃ g40, ∃ g41, ∃ g42, e = r29_Read_3_st i5 x13 s4 v.1 v.2.1 v.2.2 g37 g38 g39 g40 g41 g42 ∧ Mg 3 g37 ∧ Mg 1 g38 ∧ Mg 2 g39 ∧ Mg 3 g40 ∧ Mg 1 g41 ∧ Mg 2 g42
theorem r29_Read_3_sim (i5 : List UInt8) (x13 : GMem) (s4 : GConf) (o4 : Int) (x11 : Int) (x12 : GMem) (g37 : Gr) (hg37 : Mg 3 g37) (g38 : Gr) (hg38 : Mg 1 g38) (g39 : Gr) (hg39 : Mg 2 g39) (g40 : Gr) (hg40 : Mg 3 g40) (g41 : Gr) (hg41 : Mg 1 g41) (g42 : Gr) (hg42 : Mg 2 g42) (s : PF.St) (hk : keep [1, 2, 4, 6, 21, 36] [102, 104, 121] s = some (r29_Read_3_st i5 x13 s4 o4 x11 x12 g37 g38 g39 g40 g41 g42)) : Sim (r29_Read_3 i5 x13 s4 o4 x11 x12) (Gv (r29_Read_3_rel i5 x13 s4)) (LM.loop ([1, 2, 4, 6, 21, 36], [102, 104, 121], [2, 4, 21], B_r29_Read_3) s) := by
  refine sim_loop M XE (r29_Read_3_inv i5 x13 s4) (r29_Read_3_rel i5 x13 s4) ?_ _ _ _ hk ⟨g37, g38, g39, g40, g41, g42, rfl, hg37, hg38, hg39, hg40, hg41, hg42⟩
  clear hk hg37 hg38 hg39 hg40 hg41 hg42
  rintro S hS hw hw8 R hR ⟨o4, x11, x12⟩ env hp ⟨g37, g38, g39, g40, g41, g42, he, hg37, hg38, hg39, hg40, hg41, hg42⟩
  change (⟨env, hp⟩ : PF.St) = r29_Read_3_st i5 x13 s4 o4 x11 x12 g37 g38 g39 g40 g41 g42 at he
  cases he
  show Sim (r29_Read_3_step i5 x13 s4 o4 x11 x12) _ _
  unfold r29_Read_3_step
  simp only [hw]
  refine au (.ite Iff.rfl (fun hc6 => ?_) fun hc6 => ?_)
  · refine au (cE hR (r29_count_sim _ _ _) fun r30 => ?_)
    refine au ?_
    first | refine Sim.ite Iff.rfl (fun hb => ?_) (fun _ => Sim.no) | refine Sim.guard (fun hb => ?_)
    refine au ?_
    refine Sim.opt (f := fun y0 => [iav x12.Clock, iav x12.Anchor, iav x12.Since, .str x12.Pipe, iav x12.Age, .str x12.Vec, .str x12.Agreed, iav x12.Number, iav x12.Regular, .str x12.Members, .str x12.Seen, .str x12.Heard, .str x12.Sent, .str x12.Out, .str x12.Line, .lst g37 (List.map GPort.av x12.Ports), .lst g38 (List.map sav x12.Hold), .lst g39 (List.map GEntry.av x12.Log), iav y0.a0, iav y0.a1, iav y0.a2, iav y0.a3, iav y0.a4, iav y0.a5]) (by have hb' : (Int.toNat x11) < 6 := (by omega); generalize (Int.toNat x11) = j at hb' ⊢; rcases j with _|_|_|_|_|_|j <;> first | rfl | exact absurd hb' (by omega)) (fun y0 _ => ?_)
    refine au ?_
    exact Sim.ret ⟨_, _, rfl, rfl, ⟨_, _, _, _, _, _, rfl, hg37, hg38, hg39, hg40, hg41, hg42⟩⟩
  · refine au ?_
    exact Sim.ret ⟨_, rfl, ⟨_, _, _, _, _, _, rfl, hg37, hg38, hg39, hg40, hg41, hg42⟩⟩
noncomputable def r29_Read (L0 : GConf) (i0 : List UInt8) : Option GMem :=
  (r03_Plain L0).bind fun r0 =>
  if r0 ≠ 0 then
    some (GMem.mk 0 0 0 ([] : List UInt8) 0 ([] : List UInt8) ([] : List UInt8) 0 0 ([] : List UInt8) ([] : List UInt8) ([] : List UInt8) ([] : List UInt8) ([] : List UInt8) ([] : List UInt8) ([] : List GPort) ([] : List (List UInt8)) ([] : List GEntry) (Ar6.mk 0 0 0 0 0 0))
  else
    (r29_count i0 0 2).bind fun r2 =>
    (r29_count i0 r2.2 2).bind fun r3 =>
    (r29_count i0 r3.2 2).bind fun r4 =>
    (r29_count i0 r4.2 1).bind fun r5 =>
    (r29_count i0 r5.2 1).bind fun r6 =>
    (r29_count i0 r6.2 1).bind fun r7 =>
    (r03_Length L0).bind fun r8 =>
    (r29_get i0 r7.2 r8).bind fun r9 =>
    (r03_Bits L0).bind fun r10 =>
    (r29_perhaps i0 r9.2 r10).bind fun r11 =>
    (r03_Bits L0).bind fun r12 =>
    (r29_perhaps i0 r11.2 r12).bind fun r13 =>
    (r29_get i0 r13.2 L0.N).bind fun r14 =>
    (r29_get i0 r14.2 L0.N).bind fun r15 =>
    (r29_get i0 r15.2 (List.length L0.Table : Int)).bind fun r16 =>
    (r29_get i0 r16.2 (List.length L0.Table : Int)).bind fun r17 =>
    (r29_short i0 r17.2 17).bind fun r18 =>
    (r29_short i0 r18.2 17).bind fun r19 =>
    (r29_Read_0 i0 (GMem.mk 0 0 0 ([] : List UInt8) 0 ([] : List UInt8) ([] : List UInt8) 0 0 ([] : List UInt8) ([] : List UInt8) ([] : List UInt8) ([] : List UInt8) ([] : List UInt8) ([] : List UInt8) ([] : List GPort) ([] : List (List UInt8)) ([] : List GEntry) (Ar6.mk 0 0 0 0 0 0)) L0 r19.2 0 (GMem.mk r2.1 r3.1 r4.1 r9.1 r5.1 r11.1 r13.1 r6.1 r7.1 r14.1 r15.1 r16.1 r17.1 r18.1 r19.1 ([] : List GPort) ([] : List (List UInt8)) ([] : List GEntry) (Ar6.mk 0 0 0 0 0 0))).bind fun r23 =>
    (r29_Read_1 i0 (GMem.mk 0 0 0 ([] : List UInt8) 0 ([] : List UInt8) ([] : List UInt8) 0 0 ([] : List UInt8) ([] : List UInt8) ([] : List UInt8) ([] : List UInt8) ([] : List UInt8) ([] : List UInt8) ([] : List GPort) ([] : List (List UInt8)) ([] : List GEntry) (Ar6.mk 0 0 0 0 0 0)) L0 r23.1 0 r23.2).bind fun r25 =>
    (r29_byteAt i0 r25.1).bind fun r26 =>
    (r29_Read_2 i0 (Int.tmod r26 65) (GMem.mk 0 0 0 ([] : List UInt8) 0 ([] : List UInt8) ([] : List UInt8) 0 0 ([] : List UInt8) ([] : List UInt8) ([] : List UInt8) ([] : List UInt8) ([] : List UInt8) ([] : List UInt8) ([] : List GPort) ([] : List (List UInt8)) ([] : List GEntry) (Ar6.mk 0 0 0 0 0 0)) L0 (wr (r25.1 + 1)) 0 r25.2).bind fun r29 =>
    (r29_Read_3 i0 (GMem.mk 0 0 0 ([] : List UInt8) 0 ([] : List UInt8) ([] : List UInt8) 0 0 ([] : List UInt8) ([] : List UInt8) ([] : List UInt8) ([] : List UInt8) ([] : List UInt8) ([] : List UInt8) ([] : List GPort) ([] : List (List UInt8)) ([] : List GEntry) (Ar6.mk 0 0 0 0 0 0)) L0 r29.1 0 r29.2).bind fun r31 =>
    (r28_Mend L0 r31).bind fun r32 =>
    some r32
theorem r29_Read_sim (L0 : GConf) (i0 : List UInt8) : Sim (r29_Read L0 i0) (Gv fun r q => q = (GMem.av r, [])) (LM.call n_r29_Read [GConf.av L0, .str i0] []) := by
  unfold r29_Read
  refine sim_evR M XE rfl rfl fun S hS hw hw8 R hR => ?_
  simp only [hw]
  refine au (cE hR (r03_Plain_sim _) fun r0 => ?_)
  refine au (.ite Iff.rfl (fun hc => ?_) fun hc => ?_)
  · exact au (.ret ⟨_, rfl, rfl⟩)
  · refine au (cE hR (r29_count_sim _ _ _) fun r2 => ?_)
    refine au (cE hR (r29_count_sim _ _ _) fun r3 => ?_)
    refine au (cE hR (r29_count_sim _ _ _) fun r4 => ?_)
    refine au (cE hR (r29_count_sim _ _ _) fun r5 => ?_)
    refine au (cE hR (r29_count_sim _ _ _) fun r6 => ?_)
    refine au (cE hR (r29_count_sim _ _ _) fun r7 => ?_)
    refine au (cE hR (r03_Length_sim _) fun r8 => ?_)
    refine au (cE hR (r29_get_sim _ _ _) fun r9 => ?_)
    refine au (cE hR (r03_Bits_sim _) fun r10 => ?_)
    refine au (cE hR (r29_perhaps_sim _ _ _) fun r11 => ?_)
    refine au (cE hR (r03_Bits_sim _) fun r12 => ?_)
    refine au (cE hR (r29_perhaps_sim _ _ _) fun r13 => ?_)
    refine au (cE hR (r29_get_sim _ _ _) fun r14 => ?_)
    refine au (cE hR (r29_get_sim _ _ _) fun r15 => ?_)
    refine au ?_
    refine Sim.ki hS (m := (List.length L0.Table : Int)) (by simp) ?_
    refine au (cE hR (r29_get_sim _ _ _) fun r16 => ?_)
    refine au ?_
    refine Sim.ki hS (m := (List.length L0.Table : Int)) (by simp) ?_
    refine au (cE hR (r29_get_sim _ _ _) fun r17 => ?_)
    refine au (cE hR (r29_short_sim _ _ _) fun r18 => ?_)
    refine au (cE hR (r29_short_sim _ _ _) fun r19 => ?_)
    refine au ?_
    refine Sim.callL hR (r29_Read_0_sim i0 (GMem.mk 0 0 0 ([] : List UInt8) 0 ([] : List UInt8) ([] : List UInt8) 0 0 ([] : List UInt8) ([] : List UInt8) ([] : List UInt8) ([] : List UInt8) ([] : List UInt8) ([] : List UInt8) ([] : List GPort) ([] : List (List UInt8)) ([] : List GEntry) (Ar6.mk 0 0 0 0 0 0)) L0 r19.2 0 (GMem.mk r2.1 r3.1 r4.1 r9.1 r5.1 r11.1 r13.1 r6.1 r7.1 r14.1 r15.1 r16.1 r17.1 r18.1 r19.1 ([] : List GPort) ([] : List (List UInt8)) ([] : List GEntry) (Ar6.mk 0 0 0 0 0 0)) .full Mg.full .full Mg.full .full Mg.full .full Mg.full .full Mg.full .full Mg.full _ rfl) ?_
    rintro r23 q ⟨g7, g8, g9, g10, g11, g12, rfl, hg7, hg8, hg9, hg10, hg11, hg12⟩
    refine au ?_
    refine Sim.callL hR (r29_Read_1_sim i0 (GMem.mk 0 0 0 ([] : List UInt8) 0 ([] : List UInt8) ([] : List UInt8) 0 0 ([] : List UInt8) ([] : List UInt8) ([] : List UInt8) ([] : List UInt8) ([] : List UInt8) ([] : List UInt8) ([] : List GPort) ([] : List (List UInt8)) ([] : List GEntry) (Ar6.mk 0 0 0 0 0 0)) L0 r23.1 0 r23.2 g7 hg7 g8 hg8 g9 hg9 g10 hg10 g11 hg11 g12 hg12 _ rfl) ?_
    rintro r25 q ⟨g19, g20, g21, g22, g23, g24, rfl, hg19, hg20, hg21, hg22, hg23, hg24⟩
    refine au (cE hR (r29_byteAt_sim _ _) fun r26 => ?_)
    refine au ?_
    refine Sim.callL hR (r29_Read_2_sim i0 (Int.tmod r26 65) (GMem.mk 0 0 0 ([] : List UInt8) 0 ([] : List UInt8) ([] : List UInt8) 0 0 ([] : List UInt8) ([] : List UInt8) ([] : List UInt8) ([] : List UInt8) ([] : List UInt8) ([] : List UInt8) ([] : List GPort) ([] : List (List UInt8)) ([] : List GEntry) (Ar6.mk 0 0 0 0 0 0)) L0 (S.wr (r25.1 + 1)) 0 r25.2 g19 hg19 g20 hg20 g21 hg21 g22 hg22 g23 hg23 g24 hg24 _ rfl) ?_
    rintro r29 q ⟨g31, g32, g33, g34, g35, g36, rfl, hg31, hg32, hg33, hg34, hg35, hg36⟩
    refine au ?_
    refine Sim.callL hR (r29_Read_3_sim i0 (GMem.mk 0 0 0 ([] : List UInt8) 0 ([] : List UInt8) ([] : List UInt8) 0 0 ([] : List UInt8) ([] : List UInt8) ([] : List UInt8) ([] : List UInt8) ([] : List UInt8) ([] : List UInt8) ([] : List GPort) ([] : List (List UInt8)) ([] : List GEntry) (Ar6.mk 0 0 0 0 0 0)) L0 r29.1 0 r29.2 g31 hg31 g32 hg32 g33 hg33 g34 hg34 g35 hg35 g36 hg36 _ rfl) ?_
    rintro r31 q ⟨g43, g44, g45, g46, g47, g48, rfl, hg43, hg44, hg45, hg46, hg47, hg48⟩
    refine au (cE hR (r28_Mend_sim _ _) fun r32 => ?_)
    exact au (.ret ⟨_, rfl, rfl⟩)
noncomputable def l29_ImageReads (c0 : GConf) (s0 : List UInt8) : Option Bool :=
  if 8000 < (List.length s0 : Int) then
    (l29_known).bind fun r0 =>
    some r0
  else
    (image_Read c0 s0).bind fun r2 =>
    (r29_Read c0 s0).bind fun r3 =>
    (r28_Same r2 r3).bind fun r4 =>
    if r4 = true then
      (l29_known).bind fun r5 =>
      some r5
    else
      some false
theorem l29_ImageReads_sim (c0 : GConf) (s0 : List UInt8) : Sim (l29_ImageReads c0 s0) (Gv fun r q => q = (.bool r, [])) (LM.call n_l29_ImageReads [GConf.av c0, .str s0] []) := by
  unfold l29_ImageReads
  refine sim_evR M XE rfl rfl fun S hS hw hw8 R hR => ?_
  refine au (.ite Iff.rfl (fun hc => ?_) fun hc => ?_)
  · refine au (cE hR (l29_known_sim) fun r0 => ?_)
    exact au (.ret ⟨_, rfl, rfl⟩)
  · refine au (cE hR (image_Read_sim _ _) fun r2 => ?_)
    refine au (cE hR (r29_Read_sim _ _) fun r3 => ?_)
    refine au (cE hR (r28_Same_sim _ _) fun r4 => ?_)
    refine au (.iteB (fun hc2 => ?_) fun hc2 => ?_)
    · refine au (cE hR (l29_known_sim) fun r5 => ?_)
      exact au (.ret ⟨_, rfl, rfl⟩)
    · exact au (.ret ⟨_, rfl, rfl⟩)
end Go.Proofs.YtnbmaoendgafbaaGreat
