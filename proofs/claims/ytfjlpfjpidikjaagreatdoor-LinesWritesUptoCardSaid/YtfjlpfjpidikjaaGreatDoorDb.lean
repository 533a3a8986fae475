/-
  The program's functions as plain functions (printed by a program of mine), each beside the machine's.
-/
import Derived.Test.YtfjlpfjpidikjaaGreatDoorDa
set_option linter.unusedVariables false
set_option linter.unusedSimpArgs false
set_option maxRecDepth 100000
set_option maxHeartbeats 4000000
namespace Go.Proofs.YtfjlpfjpidikjaaGreatDoor
open Go.Proofs.PF
theorem r40_tick_1_sim (i2 : GTick) (x4 : List GBurst) (x5 : Int) (t2 : List UInt8) (x6 : Int) (s : PF.St) (hk : keep [1, 3, 45, 46, 47] [] s = some (r40_tick_1_st i2 x4 x5 t2 x6)) : Sim (r40_tick_1 i2 x4 x5 t2 x6) (Gv (r40_tick_1_rel i2 x4 x5)) (LM.loop ([1, 3, 45, 46, 47], [], [1, 3], B_r40_tick_1) s) := by
  refine sim_loop M XE (r40_tick_1_inv i2 x4 x5) (r40_tick_1_rel i2 x4 x5) ?_ _ _ _ hk rfl
  clear hk
  rintro S hS hw hw8 R hR ⟨t2, x6⟩ env hp he
  change (⟨env, hp⟩ : PF.St) = r40_tick_1_st i2 x4 x5 t2 x6 at he
  cases he
  show Sim (r40_tick_1_step i2 x4 x5 t2 x6) _ _
  unfold r40_tick_1_step
  simp only [hw]
  refine au (.ite Iff.rfl (fun hc2 => ?_) fun hc2 => ?_)
  · refine au ?_
    refine Sim.ix (by simp) (fun z2 hz2 => ?_)
    refine au ?_
    refine Sim.go (idx_map _ hz2) ?_
    refine au ?_
    refine Sim.kl hS (ys := List.map iav [z2.Node]) rfl ?_
    refine au (cE hR (r40_row_sim _ _) fun r6 => ?_)
    refine au ?_
    first | refine Sim.ite Iff.rfl (fun _ => ?_) (fun _ => Sim.no) | refine Sim.guard (fun _ => ?_)
    refine au ?_
    first | refine Sim.ite Iff.rfl (fun _ => ?_) (fun _ => Sim.no) | refine Sim.guard (fun _ => ?_)
    refine au (cE hR (r40_hex_sim _) fun r7 => ?_)
    refine au ?_
    first | refine Sim.ite Iff.rfl (fun _ => ?_) (fun _ => Sim.no) | refine Sim.guard (fun _ => ?_)
    refine au ?_
    first | refine Sim.ite Iff.rfl (fun _ => ?_) (fun _ => Sim.no) | refine Sim.guard (fun _ => ?_)
    refine au ?_
    exact Sim.ret ⟨_, _, rfl, rfl, rfl⟩
  · exact au (.ret ⟨_, rfl, rfl⟩)
noncomputable def r40_tick_2_step (i3 : GTick) (x7 : List GSend) (x8 : Int) (t3 : List UInt8) (x9 : Int) : Option (((List UInt8) × Int) ⊕ ((List UInt8))) :=
  if x9 < x8 then
    (idx? x7 x9).bind fun z3 =>
    (r40_row ([115, 116, 114, 97, 121] : List UInt8) [z3.From, z3.To, z3.Delay]).bind fun r9 =>
    if List.length t3 + List.length r9 ≤ 9223372036854775807 then
      if List.length (t3 ++ r9) + List.length ([32] : List UInt8) ≤ 9223372036854775807 then
        (r40_hex z3.Bytes).bind fun r10 =>
        if List.length ((t3 ++ r9) ++ ([32] : List UInt8)) + List.length r10 ≤ 9223372036854775807 then
          if List.length (((t3 ++ r9) ++ ([32] : List UInt8)) ++ r10) + List.length ([10] : List UInt8) ≤ 9223372036854775807 then
            some (.inl (((((t3 ++ r9) ++ ([32] : List UInt8)) ++ r10) ++ ([10] : List UInt8)), (wr (x9 + 1))))
          else none
        else none
      else none
    else none
  else
    some (.inr t3)
noncomputable def r40_tick_2 (i3 : GTick) (x7 : List GSend) (x8 : Int) (t3 : List UInt8) (x9 : Int) : Option ((List UInt8)) :=
  loopO (fun s : (List UInt8) × Int => r40_tick_2_step i3 x7 x8 s.1 s.2) (t3, x9)
@[reducible] def r40_tick_2_st (i3 : GTick) (x7 : List GSend) (x8 : Int) (t3 : List UInt8) (x9 : Int) : PF.St := ⟨[(1, .ept (GTick.cells i3) 0), (3, .str t3), (65, lav GSend.av x7), (66, iav x8), (67, iav x9)], []⟩
def r40_tick_2_rel (i3 : GTick) (x7 : List GSend) (x8 : Int) (r : ((List UInt8))) (q : Ex × PF.St) : Prop := (fun r (q : Ex × PF.St) => q = ((.exit 4), ⟨[(1, .ept (GTick.cells i3) 0), (3, .str r)], []⟩)) r q
def r40_tick_2_inv (i3 : GTick) (x7 : List GSend) (x8 : Int) (v : (List UInt8) × Int) (e : PF.St) : Prop := e = r40_tick_2_st i3 x7 x8 v.1 v.2
theorem r40_tick_2_sim (i3 : GTick) (x7 : List GSend) (x8 : Int) (t3 : List UInt8) (x9 : Int) (s : PF.St) (hk : keep [1, 3, 65, 66, 67] [] s = some (r40_tick_2_st i3 x7 x8 t3 x9)) : Sim (r40_tick_2 i3 x7 x8 t3 x9) (Gv (r40_tick_2_rel i3 x7 x8)) (LM.loop ([1, 3, 65, 66, 67], [], [1, 3], B_r40_tick_2) s) := by
  refine sim_loop M XE (r40_tick_2_inv i3 x7 x8) (r40_tick_2_rel i3 x7 x8) ?_ _ _ _ hk rfl
  clear hk
  rintro S hS hw hw8 R hR ⟨t3, x9⟩ env hp he
  change (⟨env, hp⟩ : PF.St) = r40_tick_2_st i3 x7 x8 t3 x9 at he
  cases he
  show Sim (r40_tick_2_step i3 x7 x8 t3 x9) _ _
  unfold r40_tick_2_step
  simp only [hw]
  refine au (.ite Iff.rfl (fun hc3 => ?_) fun hc3 => ?_)
  · refine au ?_
    refine Sim.ix (by simp) (fun z3 hz3 => ?_)
    refine au ?_
    refine Sim.go (idx_map _ hz3) ?_
    refine au ?_
    refine Sim.kl hS (ys := List.map iav [z3.From, z3.To, z3.Delay]) rfl ?_
    refine au (cE hR (r40_row_sim _ _) fun r9 => ?_)
    refine au ?_
    first | refine Sim.ite Iff.rfl (fun _ => ?_) (fun _ => Sim.no) | refine Sim.guard (fun _ => ?_)
    refine au ?_
    first | refine Sim.ite Iff.rfl (fun _ => ?_) (fun _ => Sim.no) | refine Sim.guard (fun _ => ?_)
    refine au (cE hR (r40_hex_sim _) fun r10 => ?_)
    refine au ?_
    first | refine Sim.ite Iff.rfl (fun _ => ?_) (fun _ => Sim.no) | refine Sim.guard (fun _ => ?_)
    refine au ?_
    first | refine Sim.ite Iff.rfl (fun _ => ?_) (fun _ => Sim.no) | refine Sim.guard (fun _ => ?_)
    refine au ?_
    exact Sim.ret ⟨_, _, rfl, rfl, rfl⟩
  · exact au (.ret ⟨_, rfl, rfl⟩)
noncomputable def r40_tick_3_step (x10 : List GWrite) (x11 : Int) (t4 : List UInt8) (x12 : Int) : Option (((List UInt8) × Int) ⊕ ((List UInt8))) :=
  if x12 < x11 then
    (idx? x10 x12).bind fun z4 =>
    (r40_row ([119, 114, 105, 116, 101] : List UInt8) [z4.Node]).bind fun r12 =>
    if List.length t4 + List.length r12 ≤ 9223372036854775807 then
      if List.length (t4 ++ r12) + List.length ([32] : List UInt8) ≤ 9223372036854775807 then
        (r40_hex z4.Text).bind fun r13 =>
        if List.length ((t4 ++ r12) ++ ([32] : List UInt8)) + List.length r13 ≤ 9223372036854775807 then
          if List.length (((t4 ++ r12) ++ ([32] : List UInt8)) ++ r13) + List.length ([10] : List UInt8) ≤ 9223372036854775807 then
            some (.inl (((((t4 ++ r12) ++ ([32] : List UInt8)) ++ r13) ++ ([10] : List UInt8)), (wr (x12 + 1))))
          else none
        else none
      else none
    else none
  else
    some (.inr t4)
noncomputable def r40_tick_3 (x10 : List GWrite) (x11 : Int) (t4 : List UInt8) (x12 : Int) : Option ((List UInt8)) :=
  loopO (fun s : (List UInt8) × Int => r40_tick_3_step x10 x11 s.1 s.2) (t4, x12)
@[reducible] def r40_tick_3_st (x10 : List GWrite) (x11 : Int) (t4 : List UInt8) (x12 : Int) : PF.St := ⟨[(3, .str t4), (89, lav GWrite.av x10), (90, iav x11), (91, iav x12)], []⟩
def r40_tick_3_rel (x10 : List GWrite) (x11 : Int) (r : ((List UInt8))) (q : Ex × PF.St) : Prop := (fun r (q : Ex × PF.St) => q = ((.exit 6), ⟨[(3, .str r)], []⟩)) r q
def r40_tick_3_inv (x10 : List GWrite) (x11 : Int) (v : (List UInt8) × Int) (e : PF.St) : Prop := e = r40_tick_3_st x10 x11 v.1 v.2
theorem r40_tick_3_sim (x10 : List GWrite) (x11 : Int) (t4 : List UInt8) (x12 : Int) (s : PF.St) (hk : keep [3, 89, 90, 91] [] s = some (r40_tick_3_st x10 x11 t4 x12)) : Sim (r40_tick_3 x10 x11 t4 x12) (Gv (r40_tick_3_rel x10 x11)) (LM.loop ([3, 89, 90, 91], [], [3], B_r40_tick_3) s) := by
  refine sim_loop M XE (r40_tick_3_inv x10 x11) (r40_tick_3_rel x10 x11) ?_ _ _ _ hk rfl
  clear hk
  rintro S hS hw hw8 R hR ⟨t4, x12⟩ env hp he
  change (⟨env, hp⟩ : PF.St) = r40_tick_3_st x10 x11 t4 x12 at he
  cases he
  show Sim (r40_tick_3_step x10 x11 t4 x12) _ _
  unfold r40_tick_3_step
  simp only [hw]
  refine au (.ite Iff.rfl (fun hc4 => ?_) fun hc4 => ?_)
  · refine au ?_
    refine Sim.ix (by simp) (fun z4 hz4 => ?_)
    refine au ?_
    refine Sim.go (idx_map _ hz4) ?_
    refine au ?_
    refine Sim.kl hS (ys := List.map iav [z4.Node]) rfl ?_
    refine au (cE hR (r40_row_sim _ _) fun r12 => ?_)
    refine au ?_
    first | refine Sim.ite Iff.rfl (fun _ => ?_) (fun _ => Sim.no) | refine Sim.guard (fun _ => ?_)
    refine au ?_
    first | refine Sim.ite Iff.rfl (fun _ => ?_) (fun _ => Sim.no) | refine Sim.guard (fun _ => ?_)
    refine au (cE hR (r40_hex_sim _) fun r13 => ?_)
    refine au ?_
    first | refine Sim.ite Iff.rfl (fun _ => ?_) (fun _ => Sim.no) | refine Sim.guard (fun _ => ?_)
    refine au ?_
    first | refine Sim.ite Iff.rfl (fun _ => ?_) (fun _ => Sim.no) | refine Sim.guard (fun _ => ?_)
    refine au ?_
    exact Sim.ret ⟨_, _, rfl, rfl, rfl⟩
  · exact au (.ret ⟨_, rfl, rfl⟩)
noncomputable def r40_tick (L0 : GTick) : Option ((List UInt8)) :=
  (r40_some ([117, 110, 105, 116, 115] : List UInt8) L0.Units).bind fun r0 =>
  if List.length ([116, 105, 99, 107, 10] : List UInt8) + List.length r0 ≤ 9223372036854775807 then
    (r40_some ([100, 101, 108, 97, 121, 115] : List UInt8) L0.Delays).bind fun r2 =>
    if List.length (([116, 105, 99, 107, 10] : List UInt8) ++ r0) + List.length r2 ≤ 9223372036854775807 then
      (r40_tick_0 L0 L0.Sends (List.length L0.Sends : Int) ((([116, 105, 99, 107, 10] : List UInt8) ++ r0) ++ r2) 0).bind fun r5 =>
      (r40_tick_1 L0 L0.Bursts (List.length L0.Bursts : Int) r5 0).bind fun r8 =>
      (r40_tick_2 L0 L0.Strays (List.length L0.Strays : Int) r8 0).bind fun r11 =>
      (r40_tick_3 L0.Writes (List.length L0.Writes : Int) r11 0).bind fun r14 =>
      some r14
    else none
  else none
theorem r40_tick_sim (L0 : GTick) : Sim (r40_tick L0) (Gv fun r q => q = (.str r, [])) (LM.call n_r40_tick [GTick.av L0] []) := by
  unfold r40_tick
  refine sim_evR M XE rfl rfl fun S hS hw hw8 R hR => ?_
  refine au (cE hR (r40_some_sim _ _) fun r0 => ?_)
  refine au ?_
  first | refine Sim.ite Iff.rfl (fun _ => ?_) (fun _ => Sim.no) | refine Sim.guard (fun _ => ?_)
  refine au (cE hR (r40_some_sim _ _) fun r2 => ?_)
  refine au ?_
  first | refine Sim.ite Iff.rfl (fun _ => ?_) (fun _ => Sim.no) | refine Sim.guard (fun _ => ?_)
  refine au ?_
  refine Sim.ki hS (m := (List.length L0.Sends : Int)) (by simp) ?_
  refine au ?_
  refine Sim.callL hR (r40_tick_0_sim L0 L0.Sends (List.length L0.Sends : Int) ((([116, 105, 99, 107, 10] : List UInt8) ++ r0) ++ r2) 0 _ rfl) ?_
  rintro r5 q rfl
  refine au ?_
  refine Sim.ki hS (m := (List.length L0.Bursts : Int)) (by simp) ?_
  refine au ?_
  refine Sim.callL hR (r40_tick_1_sim L0 L0.Bursts (List.length L0.Bursts : Int) r5 0 _ rfl) ?_
  rintro r8 q rfl
  refine au ?_
  refine Sim.ki hS (m := (List.length L0.Strays : Int)) (by simp) ?_
  refine au ?_
  refine Sim.callL hR (r40_tick_2_sim L0 L0.Strays (List.length L0.Strays : Int) r8 0 _ rfl) ?_
  rintro r11 q rfl
  refine au ?_
  refine Sim.ki hS (m := (List.length L0.Writes : Int)) (by simp) ?_
  refine au ?_
  refine Sim.callL hR (r40_tick_3_sim L0.Writes (List.length L0.Writes : Int) r11 0 _ rfl) ?_
  rintro r14 q rfl
  exact au (.ret ⟨_, rfl, rfl⟩)
noncomputable def r40_Write_0_step (i0 : GScript) (x0 : List (List UInt8)) (x2 : Int) (x4 : GConf) (t0 : List UInt8) (x3 : Int) : Option (((List UInt8) × Int) ⊕ ((List UInt8))) :=
  if x3 < x2 then
    (idx? x0 x3).bind fun z0 =>
    if List.length t0 + List.length ([105, 109, 97, 103, 101, 32] : List UInt8) ≤ 9223372036854775807 then
      (r40_hex z0).bind fun r6 =>
      if List.length (t0 ++ ([105, 109, 97, 103, 101, 32] : List UInt8)) + List.length r6 ≤ 9223372036854775807 then
        if List.length ((t0 ++ ([105, 109, 97, 103, 101, 32] : List UInt8)) ++ r6) + List.length ([10] : List UInt8) ≤ 9223372036854775807 then
          some (.inl ((((t0 ++ ([105, 109, 97, 103, 101, 32] : List UInt8)) ++ r6) ++ ([10] : List UInt8)), (wr (x3 + 1))))
        else none
      else none
    else none
  else
    some (.inr t0)
noncomputable def r40_Write_0 (i0 : GScript) (x0 : List (List UInt8)) (x2 : Int) (x4 : GConf) (t0 : List UInt8) (x3 : Int) : Option ((List UInt8)) :=
  loopO (fun s : (List UInt8) × Int => r40_Write_0_step i0 x0 x2 x4 s.1 s.2) (t0, x3)
@[reducible] def r40_Write_0_st (i0 : GScript) (x0 : List (List UInt8)) (x2 : Int) (x4 : GConf) (t0 : List UInt8) (x3 : Int) : PF.St := ⟨[(1, .ept (GScript.cells i0) 0), (5, .str t0), (49, lav sav x0), (50, iav x2), (51, iav x3)], [(104, ⟨true, GConf.cells x4⟩)]⟩
def r40_Write_0_rel (i0 : GScript) (x0 : List (List UInt8)) (x2 : Int) (x4 : GConf) (r : ((List UInt8))) (q : Ex × PF.St) : Prop := (fun r (q : Ex × PF.St) => q = ((.exit 0), ⟨[(1, .ept (GScript.cells i0) 0), (5, .str r)], [(104, ⟨true, GConf.cells x4⟩)]⟩)) r q
def r40_Write_0_inv (i0 : GScript) (x0 : List (List UInt8)) (x2 : Int) (x4 : GConf) (v : (List UInt8) × Int) (e : PF.St) : Prop := e = r40_Write_0_st i0 x0 x2 x4 v.1 v.2
theorem r40_Write_0_sim (i0 : GScript) (x0 : List (List UInt8)) (x2 : Int) (x4 : GConf) (t0 : List UInt8) (x3 : Int) (s : PF.St) (hk : keep [1, 5, 49, 50, 51] [104] s = some (r40_Write_0_st i0 x0 x2 x4 t0 x3)) : Sim (r40_Write_0 i0 x0 x2 x4 t0 x3) (Gv (r40_Write_0_rel i0 x0 x2 x4)) (LM.loop ([1, 5, 49, 50, 51], [104], [1, 5], B_r40_Write_0) s) := by
  refine sim_loop M XE (r40_Write_0_inv i0 x0 x2 x4) (r40_Write_0_rel i0 x0 x2 x4) ?_ _ _ _ hk rfl
  clear hk
  rintro S hS hw hw8 R hR ⟨t0, x3⟩ env hp he
  change (⟨env, hp⟩ : PF.St) = r40_Write_0_st i0 x0 x2 x4 t0 x3 at he
  cases he
  show Sim (r40_Write_0_step i0 x0 x2 x4 t0 x3) _ _
  unfold r40_Write_0_step
  simp only [hw]
  refine au (.ite Iff.rfl (fun hc2 => ?_) fun hc2 => ?_)
  · refine au ?_
    refine Sim.ix (by simp) (fun z0 hz0 => ?_)
    refine au ?_
    refine Sim.go (idx_map _ hz0) ?_
    refine au ?_
    first | refine Sim.ite Iff.rfl (fun _ => ?_) (fun _ => Sim.no) | refine Sim.guard (fun _ => ?_)
    refine au (cE hR (r40_hex_sim _) fun r6 => ?_)
    refine au ?_
    first | refine Sim.ite Iff.rfl (fun _ => ?_) (fun _ => Sim.no) | refine Sim.guard (fun _ => ?_)
    refine au ?_
    first | refine Sim.ite Iff.rfl (fun _ => ?_) (fun _ => Sim.no) | refine Sim.guard (fun _ => ?_)
    refine au ?_
    exact Sim.ret ⟨_, _, rfl, rfl, rfl⟩
  · exact au (.ret ⟨_, rfl, rfl⟩)
noncomputable def r40_Write_1_step (x5 : List GTick) (x6 : Int) (x8 : GConf) (t2 : List UInt8) (x7 : Int) : Option (((List UInt8) × Int) ⊕ ((List UInt8))) :=
  if x7 < x6 then
    (idx? x5 x7).bind fun z2 =>
    (r40_tick z2).bind fun r8 =>
    if List.length t2 + List.length r8 ≤ 9223372036854775807 then
      some (.inl ((t2 ++ r8), (wr (x7 + 1))))
    else none
  else
    some (.inr t2)
noncomputable def r40_Write_1 (x5 : List GTick) (x6 : Int) (x8 : GConf) (t2 : List UInt8) (x7 : Int) : Option ((List UInt8)) :=
  loopO (fun s : (List UInt8) × Int => r40_Write_1_step x5 x6 x8 s.1 s.2) (t2, x7)
@[reducible] def r40_Write_1_st (x5 : List GTick) (x6 : Int) (x8 : GConf) (t2 : List UInt8) (x7 : Int) : PF.St := ⟨[(5, .str t2), (63, lav GTick.av x5), (64, iav x6), (65, iav x7)], [(104, ⟨true, GConf.cells x8⟩)]⟩
def r40_Write_1_rel (x5 : List GTick) (x6 : Int) (x8 : GConf) (r : ((List UInt8))) (q : Ex × PF.St) : Prop := (fun r (q : Ex × PF.St) => q = ((.exit 2), ⟨[(5, .str r)], [(104, ⟨true, GConf.cells x8⟩)]⟩)) r q
def r40_Write_1_inv (x5 : List GTick) (x6 : Int) (x8 : GConf) (v : (List UInt8) × Int) (e : PF.St) : Prop := e = r40_Write_1_st x5 x6 x8 v.1 v.2
theorem r40_Write_1_sim (x5 : List GTick) (x6 : Int) (x8 : GConf) (t2 : List UInt8) (x7 : Int) (s : PF.St) (hk : keep [5, 63, 64, 65] [104] s = some (r40_Write_1_st x5 x6 x8 t2 x7)) : Sim (r40_Write_1 x5 x6 x8 t2 x7) (Gv (r40_Write_1_rel x5 x6 x8)) (LM.loop ([5, 63, 64, 65], [104], [5], B_r40_Write_1) s) := by
  refine sim_loop M XE (r40_Write_1_inv x5 x6 x8) (r40_Write_1_rel x5 x6 x8) ?_ _ _ _ hk rfl
  clear hk
  rintro S hS hw hw8 R hR ⟨t2, x7⟩ env hp he
  change (⟨env, hp⟩ : PF.St) = r40_Write_1_st x5 x6 x8 t2 x7 at he
  cases he
  show Sim (r40_Write_1_step x5 x6 x8 t2 x7) _ _
  unfold r40_Write_1_step
  simp only [hw]
  refine au (.ite Iff.rfl (fun hc3 => ?_) fun hc3 => ?_)
  · refine au ?_
    refine Sim.ix (by simp) (fun z2 hz2 => ?_)
    refine au ?_
    refine Sim.go (idx_map _ hz2) ?_
    refine au (cE hR (r40_tick_sim _) fun r8 => ?_)
    refine au ?_
    first | refine Sim.ite Iff.rfl (fun _ => ?_) (fun _ => Sim.no) | refine Sim.guard (fun _ => ?_)
    refine au ?_
    exact Sim.ret ⟨_, _, rfl, rfl, rfl⟩
  · exact au (.ret ⟨_, rfl, rfl⟩)
noncomputable def r40_Write (L0 : GScript) : Option ((List UInt8) × Int) :=
  (r33_Right L0).bind fun r0 =>
  if r0 ≠ 0 then
    (r33_Right L0).bind fun r2 =>
    some (([] : List UInt8), r2)
  else
    (r40_row ([99, 111, 110, 102] : List UInt8) [L0.Conf.N, L0.Conf.F, L0.Conf.D, L0.Conf.Period, L0.Conf.Rate, L0.Conf.Drift, L0.Conf.Offset, L0.Conf.Slot, L0.Conf.Mod, L0.Conf.Fresh]).bind fun r3 =>
    if List.length r3 + List.length ([10] : List UInt8) ≤ 9223372036854775807 then
      (r40_some ([116, 97, 98, 108, 101] : List UInt8) L0.Conf.Table).bind fun r4 =>
      if List.length (r3 ++ ([10] : List UInt8)) + List.length r4 ≤ 9223372036854775807 then
        (r40_some ([102, 97, 117, 108, 116, 121] : List UInt8) L0.Faulty).bind fun r5 =>
        if List.length ((r3 ++ ([10] : List UInt8)) ++ r4) + List.length r5 ≤ 9223372036854775807 then
          (r40_Write_0 L0 L0.Images (List.length L0.Images : Int) L0.Conf (((r3 ++ ([10] : List UInt8)) ++ r4) ++ r5) 0).bind fun r7 =>
          (r40_Write_1 L0.Ticks (List.length L0.Ticks : Int) L0.Conf r7 0).bind fun r9 =>
          if List.length r9 + List.length ([101, 110, 100, 10] : List UInt8) ≤ 9223372036854775807 then
            some ((r9 ++ ([101, 110, 100, 10] : List UInt8)), 0)
          else none
        else none
      else none
    else none
theorem r40_Write_sim (L0 : GScript) : Sim (r40_Write L0) (Gv fun r q => q = (.tup [.str r.1, iav r.2], [])) (LM.call n_r40_Write [GScript.av L0] []) := by
  unfold r40_Write
  refine sim_evR M XE rfl rfl fun S hS hw hw8 R hR => ?_
  refine au (cE hR (r33_Right_sim _) fun r0 => ?_)
  refine au (.ite Iff.rfl (fun hc => ?_) fun hc => ?_)
  · refine au (cE hR (r33_Right_sim _) fun r2 => ?_)
    exact au (.ret ⟨_, rfl, rfl⟩)
  · refine au ?_
    refine Sim.kl hS (ys := List.map iav [L0.Conf.N, L0.Conf.F, L0.Conf.D, L0.Conf.Period, L0.Conf.Rate, L0.Conf.Drift, L0.Conf.Offset, L0.Conf.Slot, L0.Conf.Mod, L0.Conf.Fresh]) rfl ?_
    refine au (cE hR (r40_row_sim _ _) fun r3 => ?_)
    refine au ?_
    first | refine Sim.ite Iff.rfl (fun _ => ?_) (fun _ => Sim.no) | refine Sim.guard (fun _ => ?_)
    refine au (cE hR (r40_some_sim _ _) fun r4 => ?_)
    refine au ?_
    first | refine Sim.ite Iff.rfl (fun _ => ?_) (fun _ => Sim.no) | refine Sim.guard (fun _ => ?_)
    refine au (cE hR (r40_some_sim _ _) fun r5 => ?_)
    refine au ?_
    first | refine Sim.ite Iff.rfl (fun _ => ?_) (fun _ => Sim.no) | refine Sim.guard (fun _ => ?_)
    refine au ?_
    refine Sim.ki hS (m := (List.length L0.Images : Int)) (by simp) ?_
    refine au ?_
    refine Sim.callL hR (r40_Write_0_sim L0 L0.Images (List.length L0.Images : Int) L0.Conf (((r3 ++ ([10] : List UInt8)) ++ r4) ++ r5) 0 _ rfl) ?_
    rintro r7 q rfl
    refine au ?_
    refine Sim.ki hS (m := (List.length L0.Ticks : Int)) (by simp) ?_
    refine au ?_
    refine Sim.callL hR (r40_Write_1_sim L0.Ticks (List.length L0.Ticks : Int) L0.Conf r7 0 _ rfl) ?_
    rintro r9 q rfl
    refine au ?_
    first | refine Sim.ite Iff.rfl (fun _ => ?_) (fun _ => Sim.no) | refine Sim.guard (fun _ => ?_)
    exact au (.ret ⟨_, rfl, rfl⟩)
noncomputable def l40_LinesWrites (s0 : GScript) : Option Bool :=
  (r33_Few s0 300).bind fun r0 =>
  if (!r0) = true then
    (l40_known).bind fun r2 =>
    some r2
  else
    (lines_Write s0).bind fun r3 =>
    (r40_Write s0).bind fun r4 =>
    if r3.1 = r4.1 then
      if r3.2 = r4.2 then
        (l40_known).bind fun r5 =>
        some r5
      else
        some false
    else
      some false
theorem l40_LinesWrites_sim (s0 : GScript) : Sim (l40_LinesWrites s0) (Gv fun r q => q = (.bool r, [])) (LM.call n_l40_LinesWrites [GScript.av s0] []) := by
  unfold l40_LinesWrites
  refine sim_evR M XE rfl rfl fun S hS hw hw8 R hR => ?_
  refine au (cE hR (r33_Few_sim _ _) fun r0 => ?_)
  refine au (.iteB (fun hc => ?_) fun hc => ?_)
  · refine au (cE hR (l40_known_sim) fun r2 => ?_)
    exact au (.ret ⟨_, rfl, rfl⟩)
  · refine au (cE hR (lines_Write_sim _) fun r3 => ?_)
    refine au (cE hR (r40_Write_sim _) fun r4 => ?_)
    refine au (.ite Iff.rfl (fun hc2 => ?_) fun hc2 => ?_)
    · refine au (.ite Iff.rfl (fun hc3 => ?_) fun hc3 => ?_)
      · refine au (cE hR (l40_known_sim) fun r5 => ?_)
        exact au (.ret ⟨_, rfl, rfl⟩)
      · exact au (.ret ⟨_, rfl, rfl⟩)
    · exact au (.ret ⟨_, rfl, rfl⟩)
end Go.Proofs.YtfjlpfjpidikjaaGreatDoor
