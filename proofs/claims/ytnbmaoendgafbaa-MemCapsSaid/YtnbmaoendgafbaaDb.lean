/-
  The program's functions as plain functions (printed by a program of mine), each beside the machine's.
-/
import Derived.Test.YtnbmaoendgafbaaDa
set_option linter.unusedVariables false
set_option linter.unusedSimpArgs false
set_option maxRecDepth 100000
set_option maxHeartbeats 4000000
namespace Go.Proofs.Ytnbmaoendgafbaa
open Go.Proofs.PF
noncomputable def r28_digits_0 (s2 : List UInt8) (n2 : Int) (last2 : Int) (out : List UInt8) (i0 : Int) : Option ((List UInt8)) :=
  loopO (fun s : (List UInt8) × Int => r28_digits_0_step s2 n2 last2 s.1 s.2) (out, i0)
def r28_digits_0_rel (s2 : List UInt8) (n2 : Int) (last2 : Int) (r : ((List UInt8))) (q : Ex × PF.St) : Prop := (fun r (q : Ex × PF.St) => q = ((.exit 0), ⟨[(7, .str r)], []⟩)) r q
def r28_digits_0_inv (s2 : List UInt8) (n2 : Int) (last2 : Int) (v : (List UInt8) × Int) (e : PF.St) : Prop := e = ⟨[(0, .str s2), (1, .int .i64 n2), (2, .int .u8 last2), (7, .str v.1), (8, .int .i64 v.2)], []⟩
theorem r28_digits_0_sim (s2 : List UInt8) (n2 : Int) (last2 : Int) (out : List UInt8) (i0 : Int) (s : PF.St) (hk : keep [0, 1, 2, 7, 8] [] s = some ⟨[(0, .str s2), (1, .int .i64 n2), (2, .int .u8 last2), (7, .str out), (8, .int .i64 i0)], []⟩) : Sim (r28_digits_0 s2 n2 last2 out i0) (Gv (r28_digits_0_rel s2 n2 last2)) (LM.loop ([0, 1, 2, 7, 8], [], [7], B_r28_digits_0) s) := by
  refine sim_loop M XE (r28_digits_0_inv s2 n2 last2) (r28_digits_0_rel s2 n2 last2) ?_ _ _ _ hk rfl
  clear hk
  rintro S hS hw hw8 R hR ⟨out, i0⟩ env hp he
  change (⟨env, hp⟩ : PF.St) = ⟨[(0, .str s2), (1, .int .i64 n2), (2, .int .u8 last2), (7, .str out), (8, .int .i64 i0)], []⟩ at he
  cases he
  show Sim (r28_digits_0_step s2 n2 last2 out i0) _ _
  unfold r28_digits_0_step
  simp only [hw]
  conv => arg 3; whnf
  refine Sim.ite Iff.rfl (fun hc => ?_) (fun hc => ?_)
  · conv => arg 3; whnf
    refine Sim.ite Iff.rfl (fun hc2 => ?_) (fun hc2 => ?_)
    · conv => arg 3; whnf
      refine Sim.goB (decide_eq_true hc2) ?_
      conv => arg 3; whnf
      refine Sim.goB (decide_eq_true hc2) ?_
      conv => arg 3; whnf
      refine Sim.ix rfl (fun b0 hb0 => ?_)
      conv => arg 3; whnf
      refine Sim.go hb0 ?_
      conv => arg 3; whnf
      refine Sim.goB (decide_eq_true hc2) ?_
      conv => arg 3; whnf
      refine Sim.goB (decide_eq_true hc2) ?_
      conv => arg 3; whnf
      refine Sim.ite Iff.rfl (fun hc3 => ?_) (fun hc3 => ?_)
      · conv => arg 3; whnf
        refine Sim.goB (decide_eq_true hc3) ?_
        conv => arg 3; whnf
        refine Sim.goB (decide_eq_true hc3) ?_
        conv => arg 3; whnf
        refine Sim.ix rfl (fun b2 hb2 => ?_)
        conv => arg 3; whnf
        refine Sim.go hb2 ?_
        conv => arg 3; whnf
        refine Sim.goB (decide_eq_true hc3) ?_
        conv => arg 3; whnf
        refine Sim.goB (decide_eq_true hc3) ?_
        conv => arg 3; whnf
        refine Sim.goB (decide_eq_true hc3) ?_
        conv => arg 3; whnf
        refine Sim.ite Iff.rfl (fun hc4 => ?_) (fun hc4 => ?_)
        · conv => arg 3; whnf
          first | refine Sim.ite Iff.rfl (fun _ => ?_) (fun _ => Sim.no) | refine Sim.guard (fun _ => ?_)
          conv => arg 3; whnf
          first | refine Sim.ite Iff.rfl (fun _ => ?_) (fun _ => Sim.no) | refine Sim.guard (fun _ => ?_)
          conv => arg 3; whnf
          first | refine Sim.ite Iff.rfl (fun _ => ?_) (fun _ => Sim.no) | refine Sim.guard (fun _ => ?_)
          conv => arg 3; whnf
          exact Sim.ret ⟨_, _, rfl, rfl, rfl⟩
        · conv => arg 3; whnf
          first | refine Sim.ite Iff.rfl (fun _ => ?_) (fun _ => Sim.no) | refine Sim.guard (fun _ => ?_)
          conv => arg 3; whnf
          exact Sim.ret ⟨_, _, rfl, rfl, rfl⟩
      · conv => arg 3; whnf
        refine Sim.goF (decide_eq_false hc3) ?_
        conv => arg 3; whnf
        refine Sim.goF (decide_eq_false hc3) ?_
        conv => arg 3; whnf
        refine Sim.goF (decide_eq_false hc3) ?_
        conv => arg 3; whnf
        refine Sim.goF (decide_eq_false hc3) ?_
        conv => arg 3; whnf
        refine Sim.goF (decide_eq_false hc3) ?_
        conv => arg 3; whnf
        first | refine Sim.ite Iff.rfl (fun _ => ?_) (fun _ => Sim.no) | refine Sim.guard (fun _ => ?_)
        conv => arg 3; whnf
        exact Sim.ret ⟨_, _, rfl, rfl, rfl⟩
    · conv => arg 3; whnf
      refine Sim.goF (decide_eq_false hc2) ?_
      conv => arg 3; whnf
      refine Sim.goF (decide_eq_false hc2) ?_
      conv => arg 3; whnf
      refine Sim.goF (decide_eq_false hc2) ?_
      conv => arg 3; whnf
      refine Sim.goF (decide_eq_false hc2) ?_
      conv => arg 3; whnf
      first | refine Sim.ite Iff.rfl (fun _ => ?_) (fun _ => Sim.no) | refine Sim.guard (fun _ => ?_)
      conv => arg 3; whnf
      exact Sim.ret ⟨_, _, rfl, rfl, rfl⟩
  · conv => arg 3; whnf
    exact Sim.ret ⟨_, rfl, rfl⟩
noncomputable def r28_digits (s0 : List UInt8) (n0 : Int) (last : Int) : Option ((List UInt8)) :=
  (r28_digits_0 s0 n0 last ([] : List UInt8) 0).bind fun r0 =>
  some r0
theorem r28_digits_sim (s0 : List UInt8) (n0 : Int) (last : Int) : Sim (r28_digits s0 n0 last) (Gv fun r q => q = (.str r, [])) (LM.call n_r28_digits [.str s0, .int .i64 n0, .int .u8 last] []) := by
  unfold r28_digits
  refine sim_evR M XE rfl rfl fun S hS hw hw8 R hR => ?_
  conv => arg 3; whnf
  refine Sim.callL hR (r28_digits_0_sim s0 n0 last ([] : List UInt8) 0 _ rfl) ?_
  rintro r0 q rfl
  conv => arg 3; whnf
  exact Sim.ret ⟨_, rfl, rfl⟩
noncomputable def r28_row (s0 : List UInt8) (n0 : Int) (last : Int) : Option ((List UInt8)) :=
  if (List.length s0 : Int) ≠ n0 then
    some ([] : List UInt8)
  else
    (r28_digits s0 n0 last).bind fun r0 =>
    some r0
theorem r28_row_sim (s0 : List UInt8) (n0 : Int) (last : Int) : Sim (r28_row s0 n0 last) (Gv fun r q => q = (.str r, [])) (LM.call n_r28_row [.str s0, .int .i64 n0, .int .u8 last] []) := by
  unfold r28_row
  refine sim_evR M XE rfl rfl fun S hS hw hw8 R hR => ?_
  conv => arg 3; whnf
  refine Sim.ite Iff.rfl (fun hc => ?_) (fun hc => ?_)
  · conv => arg 3; whnf
    exact Sim.ret ⟨_, rfl, rfl⟩
  · conv => arg 3; whnf
    refine Sim.callR hR (r28_digits_sim s0 n0 last) ?_
    rintro r0 q rfl
    conv => arg 3; whnf
    exact Sim.ret ⟨_, rfl, rfl⟩
noncomputable def r23_Has (marks : List UInt8) (at0 : Int) : Option Bool :=
  if 0 ≤ at0 then
    if at0 < (List.length marks : Int) then
      (idx? marks at0).bind fun b0 =>
      some (decide ((UInt8.toNat b0 : Int) = 49))
    else
      some false
  else
    some false
theorem r23_Has_sim (marks : List UInt8) (at0 : Int) : Sim (r23_Has marks at0) (Gv fun r q => q = (.bool r, [])) (LM.call n_r23_Has [.str marks, .int .i64 at0] []) := by
  unfold r23_Has
  refine sim_evR M XE rfl rfl fun S hS hw hw8 R hR => ?_
  conv => arg 3; whnf
  refine Sim.ite Iff.rfl (fun hc => ?_) (fun hc => ?_)
  · conv => arg 3; whnf
    refine Sim.goB (decide_eq_true hc) ?_
    conv => arg 3; whnf
    refine Sim.goB (decide_eq_true hc) ?_
    conv => arg 3; whnf
    refine Sim.goB (decide_eq_true hc) ?_
    conv => arg 3; whnf
    refine Sim.goB (decide_eq_true hc) ?_
    conv => arg 3; whnf
    refine Sim.ite Iff.rfl (fun hc2 => ?_) (fun hc2 => ?_)
    · conv => arg 3; whnf
      refine Sim.goB (decide_eq_true hc2) ?_
      conv => arg 3; whnf
      refine Sim.goB (decide_eq_true hc2) ?_
      conv => arg 3; whnf
      refine Sim.ix rfl (fun b0 hb0 => ?_)
      conv => arg 3; whnf
      refine Sim.go hb0 ?_
      conv => arg 3; whnf
      refine Sim.goB (decide_eq_true hc2) ?_
      conv => arg 3; whnf
      refine Sim.goB (decide_eq_true hc2) ?_
      conv => arg 3; whnf
      exact Sim.ret ⟨_, rfl, rfl⟩
    · conv => arg 3; whnf
      refine Sim.goF (decide_eq_false hc2) ?_
      conv => arg 3; whnf
      refine Sim.goF (decide_eq_false hc2) ?_
      conv => arg 3; whnf
      refine Sim.goF (decide_eq_false hc2) ?_
      conv => arg 3; whnf
      refine Sim.goF (decide_eq_false hc2) ?_
      conv => arg 3; whnf
      exact Sim.ret ⟨_, rfl, rfl⟩
  · conv => arg 3; whnf
    refine Sim.goF (decide_eq_false hc) ?_
    conv => arg 3; whnf
    refine Sim.goF (decide_eq_false hc) ?_
    conv => arg 3; whnf
    refine Sim.goF (decide_eq_false hc) ?_
    conv => arg 3; whnf
    refine Sim.goF (decide_eq_false hc) ?_
    conv => arg 3; whnf
    exact Sim.ret ⟨_, rfl, rfl⟩
noncomputable def r14_In_0_step (l2 : List Int) (n2 : Int) (i0 : Int) : Option ((Int) ⊕ ((Bool) ⊕ (Unit))) :=
  if i0 < (List.length l2 : Int) then
    (idx? l2 i0).bind fun z0 =>
    if z0 = n2 then
      some (.inr (.inl true))
    else
      some (.inl (wr (i0 + 1)))
  else
    some (.inr (.inr ()))
noncomputable def r14_In_0 (l2 : List Int) (n2 : Int) (i0 : Int) : Option ((Bool) ⊕ (Unit)) :=
  loopO (fun s : Int => r14_In_0_step l2 n2 s) i0
def r14_In_0_rel (l2 : List Int) (n2 : Int) (r : ((Bool) ⊕ (Unit))) (q : Ex × PF.St) : Prop := (fun r (q : Ex × PF.St) => Sum.elim (fun r => (fun r (q : Ex × PF.St) => q = (Ex.ret, ⟨[(4, .bool r)], []⟩)) r q) (fun r => (fun r (q : Ex × PF.St) => q = ((.exit 0), ⟨[(4, .undef)], []⟩)) r q) r) r q
def r14_In_0_inv (l2 : List Int) (n2 : Int) (v : Int) (e : PF.St) : Prop := e = ⟨[(0, .lst .no (List.map iav l2)), (1, .int .i64 n2), (5, .int .i64 v)], []⟩
theorem r14_In_0_sim (l2 : List Int) (n2 : Int) (i0 : Int) (s : PF.St) (hk : keep [0, 1, 5] [] s = some ⟨[(0, .lst .no (List.map iav l2)), (1, .int .i64 n2), (5, .int .i64 i0)], []⟩) : Sim (r14_In_0 l2 n2 i0) (Gv (r14_In_0_rel l2 n2)) (LM.loop ([0, 1, 5], [], [4], B_r14_In_0) s) := by
  refine sim_loop M XE (r14_In_0_inv l2 n2) (r14_In_0_rel l2 n2) ?_ _ _ _ hk rfl
  clear hk
  rintro S hS hw hw8 R hR i0 env hp he
  change (⟨env, hp⟩ : PF.St) = ⟨[(0, .lst .no (List.map iav l2)), (1, .int .i64 n2), (5, .int .i64 i0)], []⟩ at he
  cases he
  show Sim (r14_In_0_step l2 n2 i0) _ _
  unfold r14_In_0_step
  simp only [hw]
  conv => arg 3; whnf
  refine Sim.ki hS (m := (List.length l2 : Int)) (by simp) ?_
  conv => arg 3; whnf
  refine Sim.ite Iff.rfl (fun hc => ?_) (fun hc => ?_)
  · conv => arg 3; whnf
    refine Sim.ix (by simp) (fun z0 hz0 => ?_)
    conv => arg 3; whnf
    refine Sim.go (idx_map _ hz0) ?_
    conv => arg 3; whnf
    refine Sim.ite Iff.rfl (fun hc2 => ?_) (fun hc2 => ?_)
    · conv => arg 3; whnf
      exact Sim.ret ⟨_, rfl, rfl⟩
    · conv => arg 3; whnf
      exact Sim.ret ⟨_, _, rfl, rfl, rfl⟩
  · conv => arg 3; whnf
    exact Sim.ret ⟨_, rfl, rfl⟩
noncomputable def r14_In (l0 : List Int) (n0 : Int) : Option Bool :=
  (r14_In_0 l0 n0 0).bind fun r0 =>
  Sum.elim
    (fun r2 =>
      some r2)
    (fun r3 =>
      some false)
    r0
theorem r14_In_sim (l0 : List Int) (n0 : Int) : Sim (r14_In l0 n0) (Gv fun r q => q = (.bool r, [])) (LM.call n_r14_In [.lst .no (List.map iav l0), .int .i64 n0] []) := by
  unfold r14_In
  refine sim_evR M XE rfl rfl fun S hS hw hw8 R hR => ?_
  conv => arg 3; whnf
  refine Sim.callL hR (r14_In_0_sim l0 n0 0 _ rfl) ?_
  rintro r0 q hr
  rcases r0 with r2 | r3
  · cases hr
    conv => arg 3; whnf
    exact Sim.ret ⟨_, rfl, rfl⟩
  · cases hr
    conv => arg 3; whnf
    exact Sim.ret ⟨_, rfl, rfl⟩
noncomputable def r23_Mark_0_step (marks2 : List UInt8) (n2 : Int) (at2 : List Int) (out : List UInt8) (i0 : Int) : Option (((List UInt8) × Int) ⊕ ((List UInt8))) :=
  (r01_Clamp n2 0 64).bind fun r0 =>
  if i0 < r0 then
    (r23_Has marks2 i0).bind fun r2 =>
    if r2 = true then
      if List.length out + List.length ([49] : List UInt8) ≤ 9223372036854775807 then
        some (.inl ((out ++ ([49] : List UInt8)), (wr (i0 + 1))))
      else none
    else
      (r14_In at2 i0).bind fun r3 =>
      if r3 = true then
        if List.length out + List.length ([49] : List UInt8) ≤ 9223372036854775807 then
          some (.inl ((out ++ ([49] : List UInt8)), (wr (i0 + 1))))
        else none
      else
        if List.length out + List.length ([48] : List UInt8) ≤ 9223372036854775807 then
          some (.inl ((out ++ ([48] : List UInt8)), (wr (i0 + 1))))
        else none
  else
    some (.inr out)
noncomputable def r23_Mark_0 (marks2 : List UInt8) (n2 : Int) (at2 : List Int) (out : List UInt8) (i0 : Int) : Option ((List UInt8)) :=
  loopO (fun s : (List UInt8) × Int => r23_Mark_0_step marks2 n2 at2 s.1 s.2) (out, i0)
def r23_Mark_0_rel (marks2 : List UInt8) (n2 : Int) (at2 : List Int) (r : ((List UInt8))) (q : Ex × PF.St) : Prop := (fun r (q : Ex × PF.St) => q = ((.exit 0), ⟨[(7, .str r)], []⟩)) r q
def r23_Mark_0_inv (marks2 : List UInt8) (n2 : Int) (at2 : List Int) (v : (List UInt8) × Int) (e : PF.St) : Prop := e = ⟨[(0, .str marks2), (1, .int .i64 n2), (2, .lst .no (List.map iav at2)), (7, .str v.1), (8, .int .i64 v.2)], []⟩
theorem r23_Mark_0_sim (marks2 : List UInt8) (n2 : Int) (at2 : List Int) (out : List UInt8) (i0 : Int) (s : PF.St) (hk : keep [0, 1, 2, 7, 8] [] s = some ⟨[(0, .str marks2), (1, .int .i64 n2), (2, .lst .no (List.map iav at2)), (7, .str out), (8, .int .i64 i0)], []⟩) : Sim (r23_Mark_0 marks2 n2 at2 out i0) (Gv (r23_Mark_0_rel marks2 n2 at2)) (LM.loop ([0, 1, 2, 7, 8], [], [7], B_r23_Mark_0) s) := by
  refine sim_loop M XE (r23_Mark_0_inv marks2 n2 at2) (r23_Mark_0_rel marks2 n2 at2) ?_ _ _ _ hk rfl
  clear hk
  rintro S hS hw hw8 R hR ⟨out, i0⟩ env hp he
  change (⟨env, hp⟩ : PF.St) = ⟨[(0, .str marks2), (1, .int .i64 n2), (2, .lst .no (List.map iav at2)), (7, .str out), (8, .int .i64 i0)], []⟩ at he
  cases he
  show Sim (r23_Mark_0_step marks2 n2 at2 out i0) _ _
  unfold r23_Mark_0_step
  simp only [hw]
  conv => arg 3; whnf
  refine Sim.callR hR (r01_Clamp_sim n2 0 64) ?_
  rintro r0 q rfl
  conv => arg 3; whnf
  refine Sim.ite Iff.rfl (fun hc => ?_) (fun hc => ?_)
  · conv => arg 3; whnf
    refine Sim.callR hR (r23_Has_sim marks2 i0) ?_
    rintro r2 q rfl
    conv => arg 3; whnf
    refine Sim.iteB (fun hc2 => ?_) (fun hc2 => ?_)
    · conv => arg 3; whnf
      refine Sim.goB hc2 ?_
      conv => arg 3; whnf
      refine Sim.goB hc2 ?_
      conv => arg 3; whnf
      refine Sim.goB hc2 ?_
      conv => arg 3; whnf
      first | refine Sim.ite Iff.rfl (fun _ => ?_) (fun _ => Sim.no) | refine Sim.guard (fun _ => ?_)
      conv => arg 3; whnf
      exact Sim.ret ⟨_, _, rfl, rfl, rfl⟩
    · conv => arg 3; whnf
      refine Sim.goF hc2 ?_
      conv => arg 3; whnf
      refine Sim.goF hc2 ?_
      conv => arg 3; whnf
      refine Sim.callR hR (r14_In_sim at2 i0) ?_
      rintro r3 q rfl
      conv => arg 3; whnf
      refine Sim.goF hc2 ?_
      conv => arg 3; whnf
      refine Sim.iteB (fun hc3 => ?_) (fun hc3 => ?_)
      · conv => arg 3; whnf
        first | refine Sim.ite Iff.rfl (fun _ => ?_) (fun _ => Sim.no) | refine Sim.guard (fun _ => ?_)
        conv => arg 3; whnf
        exact Sim.ret ⟨_, _, rfl, rfl, rfl⟩
      · conv => arg 3; whnf
        first | refine Sim.ite Iff.rfl (fun _ => ?_) (fun _ => Sim.no) | refine Sim.guard (fun _ => ?_)
        conv => arg 3; whnf
        exact Sim.ret ⟨_, _, rfl, rfl, rfl⟩
  · conv => arg 3; whnf
    exact Sim.ret ⟨_, rfl, rfl⟩
noncomputable def r23_Mark (marks : List UInt8) (n0 : Int) (at0 : List Int) : Option ((List UInt8)) :=
  (r23_Mark_0 marks n0 at0 ([] : List UInt8) 0).bind fun r4 =>
  some r4
theorem r23_Mark_sim (marks : List UInt8) (n0 : Int) (at0 : List Int) : Sim (r23_Mark marks n0 at0) (Gv fun r q => q = (.str r, [])) (LM.call n_r23_Mark [.str marks, .int .i64 n0, .lst .no (List.map iav at0)] []) := by
  unfold r23_Mark
  refine sim_evR M XE rfl rfl fun S hS hw hw8 R hR => ?_
  conv => arg 3; whnf
  refine Sim.callL hR (r23_Mark_0_sim marks n0 at0 ([] : List UInt8) 0 _ rfl) ?_
  rintro r4 q rfl
  conv => arg 3; whnf
  exact Sim.ret ⟨_, rfl, rfl⟩
noncomputable def r25_Mark (c0 : GConf) (marks : List UInt8) (nodes : List Int) : Option ((List UInt8)) :=
  (r23_Mark marks c0.N nodes).bind fun r0 =>
  some r0
theorem r25_Mark_sim (c0 : GConf) (marks : List UInt8) (nodes : List Int) : Sim (r25_Mark c0 marks nodes) (Gv fun r q => q = (.str r, [])) (LM.call n_r25_Mark [.agg [.int .i64 c0.N, .int .i64 c0.F, .int .i64 c0.D, .int .i64 c0.Period, .int .i64 c0.Rate, .int .i64 c0.Drift, .int .i64 c0.Offset, .int .i64 c0.Slot, .int .i64 c0.Mod, .int .i64 c0.Fresh, .lst .no (List.map iav c0.Table)], .str marks, .lst .no (List.map iav nodes)] []) := by
  unfold r25_Mark
  refine sim_evR M XE rfl rfl fun S hS hw hw8 R hR => ?_
  conv => arg 3; whnf
  refine Sim.callR hR (r23_Mark_sim marks c0.N nodes) ?_
  rintro r0 q rfl
  conv => arg 3; whnf
  exact Sim.ret ⟨_, rfl, rfl⟩
noncomputable def r28_cut (s0 : List UInt8) (n0 : Int) : Option ((List UInt8)) :=
  if 0 ≤ (min (List.length s0 : Int) n0) ∧ (min (List.length s0 : Int) n0) ≤ ((List.length s0) : Nat) then
    some (List.take (Int.toNat (min (List.length s0 : Int) n0)) s0)
  else none
theorem r28_cut_sim (s0 : List UInt8) (n0 : Int) : Sim (r28_cut s0 n0) (Gv fun r q => q = (.str r, [])) (LM.call n_r28_cut [.str s0, .int .i64 n0] []) := by
  unfold r28_cut
  refine sim_evR M XE rfl rfl fun S hS hw hw8 R hR => ?_
  conv => arg 3; whnf
  first | refine Sim.ite Iff.rfl (fun _ => ?_) (fun _ => Sim.no) | refine Sim.guard (fun _ => ?_)
  conv => arg 3; whnf
  exact Sim.ret ⟨_, rfl, rfl⟩
noncomputable def r26_Blank_0_step (c2 : GConf) (out : List GPort) (i0 : Int) : Option (((List GPort) × Int) ⊕ ((List GPort))) :=
  if i0 < c2.N then
    if List.length out + List.length [(GPort.mk ([] : List UInt8) 0 c2.Fresh)] ≤ lenMax then
      some (.inl ((out ++ [(GPort.mk ([] : List UInt8) 0 c2.Fresh)]), (wr (i0 + 1))))
    else none
  else
    some (.inr out)
noncomputable def r26_Blank_0 (c2 : GConf) (out : List GPort) (i0 : Int) : Option ((List GPort)) :=
  loopO (fun s : (List GPort) × Int => r26_Blank_0_step c2 s.1 s.2) (out, i0)
def r26_Blank_0_rel (c2 : GConf) (r : ((List GPort))) (q : Ex × PF.St) : Prop := (fun r (q : Ex × PF.St) => ∃ g0', q = ((.exit 0), ⟨[(3, .lst g0' (List.map GPort.av r))], [(101, ⟨true, [.int .i64 c2.N, .int .i64 c2.F, .int .i64 c2.D, .int .i64 c2.Period, .int .i64 c2.Rate, .int .i64 c2.Drift, .int .i64 c2.Offset, .int .i64 c2.Slot, .int .i64 c2.Mod, .int .i64 c2.Fresh, .lst .no (List.map iav c2.Table)]⟩)]⟩) ∧ Mg 3 g0') r q
def r26_Blank_0_inv (c2 : GConf) (v : (List GPort) × Int) (e : PF.St) : Prop := ∃ g0, e = ⟨[(1, .ptr 101 0), (3, .lst g0 (List.map GPort.av v.1)), (4, .int .i64 v.2)], [(101, ⟨true, [.int .i64 c2.N, .int .i64 c2.F, .int .i64 c2.D, .int .i64 c2.Period, .int .i64 c2.Rate, .int .i64 c2.Drift, .int .i64 c2.Offset, .int .i64 c2.Slot, .int .i64 c2.Mod, .int .i64 c2.Fresh, .lst .no (List.map iav c2.Table)]⟩)]⟩ ∧ Mg 3 g0
theorem r26_Blank_0_sim (c2 : GConf) (out : List GPort) (i0 : Int) (g0 : Gr) (hg0 : Mg 3 g0) (s : PF.St) (hk : keep [1, 3, 4] [101] s = some ⟨[(1, .ptr 101 0), (3, .lst g0 (List.map GPort.av out)), (4, .int .i64 i0)], [(101, ⟨true, [.int .i64 c2.N, .int .i64 c2.F, .int .i64 c2.D, .int .i64 c2.Period, .int .i64 c2.Rate, .int .i64 c2.Drift, .int .i64 c2.Offset, .int .i64 c2.Slot, .int .i64 c2.Mod, .int .i64 c2.Fresh, .lst .no (List.map iav c2.Table)]⟩)]⟩) : Sim (r26_Blank_0 c2 out i0) (Gv (r26_Blank_0_rel c2)) (LM.loop ([1, 3, 4], [101], [3], B_r26_Blank_0) s) := by
  refine sim_loop M XE (r26_Blank_0_inv c2) (r26_Blank_0_rel c2) ?_ _ _ _ hk ⟨g0, rfl, hg0⟩
  clear hk hg0
  rintro S hS hw hw8 R hR ⟨out, i0⟩ env hp ⟨g0, he, hg0⟩
  change (⟨env, hp⟩ : PF.St) = ⟨[(1, .ptr 101 0), (3, .lst g0 (List.map GPort.av out)), (4, .int .i64 i0)], [(101, ⟨true, [.int .i64 c2.N, .int .i64 c2.F, .int .i64 c2.D, .int .i64 c2.Period, .int .i64 c2.Rate, .int .i64 c2.Drift, .int .i64 c2.Offset, .int .i64 c2.Slot, .int .i64 c2.Mod, .int .i64 c2.Fresh, .lst .no (List.map iav c2.Table)]⟩)]⟩ at he
  cases he
  show Sim (r26_Blank_0_step c2 out i0) _ _
  unfold r26_Blank_0_step
  simp only [hw]
  conv => arg 3; whnf
  refine Sim.ite Iff.rfl (fun hc2 => ?_) (fun hc2 => ?_)
  · conv => arg 3; whnf
    refine Sim.kl hS (ys := List.map GPort.av [(GPort.mk ([] : List UInt8) 0 c2.Fresh)]) rfl ?_
    conv => arg 3; whnf
    first | (refine Sim.goB (may_map (by intro _; rfl) hg0 _) ?_) | skip
    conv => arg 3; whnf
    first | (refine Sim.goB (okE_map (by intro _; exact ⟨rfl, rfl, rfl⟩) _) ?_) | skip
    conv => arg 3; whnf
    first | refine Sim.ite (by simp) (fun _ => ?_) (fun _ => Sim.no) | refine Sim.guard (fun _ => ?_)
    conv => arg 3; whnf
    refine Sim.kl hS (ys := List.map GPort.av (out ++ [(GPort.mk ([] : List UInt8) 0 c2.Fresh)])) (by simp) ?_
    conv => arg 3; whnf
    exact Sim.ret ⟨_, _, rfl, rfl, ⟨_, rfl, Mg.own⟩⟩
  · conv => arg 3; whnf
    exact Sim.ret ⟨_, rfl, ⟨_, rfl, hg0⟩⟩
noncomputable def r26_Blank (c0 : GConf) : Option ((List GPort)) :=
  (r03_Plain c0).bind fun r0 =>
  if r0 ≠ 0 then
    some ([] : List GPort)
  else
    (r26_Blank_0 c0 ([] : List GPort) 0).bind fun r2 =>
    some r2
theorem r26_Blank_sim (c0 : GConf) : Sim (r26_Blank c0) (Gv fun r q => q = (.lst .no (List.map GPort.av r), [])) (LM.call n_r26_Blank [.agg [.int .i64 c0.N, .int .i64 c0.F, .int .i64 c0.D, .int .i64 c0.Period, .int .i64 c0.Rate, .int .i64 c0.Drift, .int .i64 c0.Offset, .int .i64 c0.Slot, .int .i64 c0.Mod, .int .i64 c0.Fresh, .lst .no (List.map iav c0.Table)]] []) := by
  unfold r26_Blank
  refine sim_evR M XE rfl rfl fun S hS hw hw8 R hR => ?_
  conv => arg 3; whnf
  refine Sim.callR hR (r03_Plain_sim c0) ?_
  rintro r0 q rfl
  conv => arg 3; whnf
  refine Sim.ite Iff.rfl (fun hc => ?_) (fun hc => ?_)
  · conv => arg 3; whnf
    exact Sim.ret ⟨_, rfl, rfl⟩
  · conv => arg 3; whnf
    refine Sim.callL hR (r26_Blank_0_sim c0 ([] : List GPort) 0 .full Mg.full _ rfl) ?_
    rintro r2 q ⟨g2, rfl, hg2⟩
    conv => arg 3; whnf
    exact Sim.ret ⟨_, rfl, rfl⟩
noncomputable def r28_ports_0_step (l2 : List GPort) (c2 : GConf) (out : List GPort) (i0 : Int) : Option (((List GPort) × Int) ⊕ ((List GPort))) :=
  if i0 < (List.length l2 : Int) then
    (idx? l2 i0).bind fun z0 =>
    (r28_cut z0.Text 16).bind fun r2 =>
    (idx? l2 i0).bind fun z2 =>
    (r01_Mod z2.Cycle c2.Mod).bind fun r3 =>
    (idx? l2 i0).bind fun z3 =>
    (r01_Clamp z3.Age 0 c2.Fresh).bind fun r4 =>
    if List.length out + List.length [(GPort.mk r2 r3 r4)] ≤ lenMax then
      some (.inl ((out ++ [(GPort.mk r2 r3 r4)]), (wr (i0 + 1))))
    else none
  else
    some (.inr out)
noncomputable def r28_ports_0 (l2 : List GPort) (c2 : GConf) (out : List GPort) (i0 : Int) : Option ((List GPort)) :=
  loopO (fun s : (List GPort) × Int => r28_ports_0_step l2 c2 s.1 s.2) (out, i0)
def r28_ports_0_rel (l2 : List GPort) (c2 : GConf) (r : ((List GPort))) (q : Ex × PF.St) : Prop := (fun r (q : Ex × PF.St) => ∃ g0', q = ((.exit 0), ⟨[(5, .lst g0' (List.map GPort.av r))], [(102, ⟨true, [.int .i64 c2.N, .int .i64 c2.F, .int .i64 c2.D, .int .i64 c2.Period, .int .i64 c2.Rate, .int .i64 c2.Drift, .int .i64 c2.Offset, .int .i64 c2.Slot, .int .i64 c2.Mod, .int .i64 c2.Fresh, .lst .no (List.map iav c2.Table)]⟩)]⟩) ∧ Mg 3 g0') r q
def r28_ports_0_inv (l2 : List GPort) (c2 : GConf) (v : (List GPort) × Int) (e : PF.St) : Prop := ∃ g0, e = ⟨[(1, .lst .no (List.map GPort.av l2)), (2, .ptr 102 0), (5, .lst g0 (List.map GPort.av v.1)), (6, .int .i64 v.2)], [(102, ⟨true, [.int .i64 c2.N, .int .i64 c2.F, .int .i64 c2.D, .int .i64 c2.Period, .int .i64 c2.Rate, .int .i64 c2.Drift, .int .i64 c2.Offset, .int .i64 c2.Slot, .int .i64 c2.Mod, .int .i64 c2.Fresh, .lst .no (List.map iav c2.Table)]⟩)]⟩ ∧ Mg 3 g0
theorem r28_ports_0_sim (l2 : List GPort) (c2 : GConf) (out : List GPort) (i0 : Int) (g0 : Gr) (hg0 : Mg 3 g0) (s : PF.St) (hk : keep [1, 2, 5, 6] [102] s = some ⟨[(1, .lst .no (List.map GPort.av l2)), (2, .ptr 102 0), (5, .lst g0 (List.map GPort.av out)), (6, .int .i64 i0)], [(102, ⟨true, [.int .i64 c2.N, .int .i64 c2.F, .int .i64 c2.D, .int .i64 c2.Period, .int .i64 c2.Rate, .int .i64 c2.Drift, .int .i64 c2.Offset, .int .i64 c2.Slot, .int .i64 c2.Mod, .int .i64 c2.Fresh, .lst .no (List.map iav c2.Table)]⟩)]⟩) : Sim (r28_ports_0 l2 c2 out i0) (Gv (r28_ports_0_rel l2 c2)) (LM.loop ([1, 2, 5, 6], [102], [5], B_r28_ports_0) s) := by
  refine sim_loop M XE (r28_ports_0_inv l2 c2) (r28_ports_0_rel l2 c2) ?_ _ _ _ hk ⟨g0, rfl, hg0⟩
  clear hk hg0
  rintro S hS hw hw8 R hR ⟨out, i0⟩ env hp ⟨g0, he, hg0⟩
  change (⟨env, hp⟩ : PF.St) = ⟨[(1, .lst .no (List.map GPort.av l2)), (2, .ptr 102 0), (5, .lst g0 (List.map GPort.av out)), (6, .int .i64 i0)], [(102, ⟨true, [.int .i64 c2.N, .int .i64 c2.F, .int .i64 c2.D, .int .i64 c2.Period, .int .i64 c2.Rate, .int .i64 c2.Drift, .int .i64 c2.Offset, .int .i64 c2.Slot, .int .i64 c2.Mod, .int .i64 c2.Fresh, .lst .no (List.map iav c2.Table)]⟩)]⟩ at he
  cases he
  show Sim (r28_ports_0_step l2 c2 out i0) _ _
  unfold r28_ports_0_step
  simp only [hw]
  conv => arg 3; whnf
  refine Sim.ki hS (m := (List.length l2 : Int)) (by simp) ?_
  conv => arg 3; whnf
  refine Sim.ite Iff.rfl (fun hc2 => ?_) (fun hc2 => ?_)
  · conv => arg 3; whnf
    refine Sim.ix (by simp) (fun z0 hz0 => ?_)
    conv => arg 3; whnf
    refine Sim.go (idx_map _ hz0) ?_
    conv => arg 3; whnf
    refine Sim.callR hR (r28_cut_sim z0.Text 16) ?_
    rintro r2 q rfl
    conv => arg 3; whnf
    refine Sim.ix (by simp) (fun z2 hz2 => ?_)
    conv => arg 3; whnf
    refine Sim.go (idx_map _ hz2) ?_
    conv => arg 3; whnf
    refine Sim.callR hR (r01_Mod_sim z2.Cycle c2.Mod) ?_
    rintro r3 q rfl
    conv => arg 3; whnf
    refine Sim.ix (by simp) (fun z3 hz3 => ?_)
    conv => arg 3; whnf
    refine Sim.go (idx_map _ hz3) ?_
    conv => arg 3; whnf
    refine Sim.callR hR (r01_Clamp_sim z3.Age 0 c2.Fresh) ?_
    rintro r4 q rfl
    conv => arg 3; whnf
    refine Sim.kl hS (ys := List.map GPort.av [(GPort.mk r2 r3 r4)]) rfl ?_
    conv => arg 3; whnf
    first | (refine Sim.goB (may_map (by intro _; rfl) hg0 _) ?_) | skip
    conv => arg 3; whnf
    first | (refine Sim.goB (okE_map (by intro _; exact ⟨rfl, rfl, rfl⟩) _) ?_) | skip
    conv => arg 3; whnf
    first | refine Sim.ite (by simp) (fun _ => ?_) (fun _ => Sim.no) | refine Sim.guard (fun _ => ?_)
    conv => arg 3; whnf
    refine Sim.kl hS (ys := List.map GPort.av (out ++ [(GPort.mk r2 r3 r4)])) (by simp) ?_
    conv => arg 3; whnf
    exact Sim.ret ⟨_, _, rfl, rfl, ⟨_, rfl, Mg.own⟩⟩
  · conv => arg 3; whnf
    exact Sim.ret ⟨_, rfl, ⟨_, rfl, hg0⟩⟩
noncomputable def r28_ports (c0 : GConf) (l0 : List GPort) : Option ((List GPort)) :=
  if (List.length l0 : Int) ≠ c0.N then
    (r26_Blank c0).bind fun r0 =>
    some r0
  else
    (r28_ports_0 l0 c0 ([] : List GPort) 0).bind fun r5 =>
    some r5
theorem r28_ports_sim (c0 : GConf) (l0 : List GPort) : Sim (r28_ports c0 l0) (Gv fun r q => q = (.lst .no (List.map GPort.av r), [])) (LM.call n_r28_ports [.agg [.int .i64 c0.N, .int .i64 c0.F, .int .i64 c0.D, .int .i64 c0.Period, .int .i64 c0.Rate, .int .i64 c0.Drift, .int .i64 c0.Offset, .int .i64 c0.Slot, .int .i64 c0.Mod, .int .i64 c0.Fresh, .lst .no (List.map iav c0.Table)], .lst .no (List.map GPort.av l0)] []) := by
  unfold r28_ports
  refine sim_evR M XE rfl rfl fun S hS hw hw8 R hR => ?_
  conv => arg 3; whnf
  refine Sim.ki hS (m := (List.length l0 : Int)) (by simp) ?_
  conv => arg 3; whnf
  refine Sim.ite Iff.rfl (fun hc => ?_) (fun hc => ?_)
  · conv => arg 3; whnf
    refine Sim.callR hR (r26_Blank_sim c0) ?_
    rintro r0 q rfl
    conv => arg 3; whnf
    exact Sim.ret ⟨_, rfl, rfl⟩
  · conv => arg 3; whnf
    refine Sim.callL hR (r28_ports_0_sim l0 c0 ([] : List GPort) 0 .full Mg.full _ rfl) ?_
    rintro r5 q ⟨g2, rfl, hg2⟩
    conv => arg 3; whnf
    exact Sim.ret ⟨_, rfl, rfl⟩
noncomputable def r12_Empty_0_step (c2 : GConf) (out : List (List UInt8)) (i0 : Int) : Option (((List (List UInt8)) × Int) ⊕ ((List (List UInt8)))) :=
  if i0 < (wr (c2.N * c2.D)) then
    if List.length out + List.length [([] : List UInt8)] ≤ lenMax then
      some (.inl ((out ++ [([] : List UInt8)]), (wr (i0 + 1))))
    else none
  else
    some (.inr out)
noncomputable def r12_Empty_0 (c2 : GConf) (out : List (List UInt8)) (i0 : Int) : Option ((List (List UInt8))) :=
  loopO (fun s : (List (List UInt8)) × Int => r12_Empty_0_step c2 s.1 s.2) (out, i0)
def r12_Empty_0_rel (c2 : GConf) (r : ((List (List UInt8)))) (q : Ex × PF.St) : Prop := (fun r (q : Ex × PF.St) => ∃ g0', q = ((.exit 0), ⟨[(3, .lst g0' (List.map sav r))], [(101, ⟨true, [.int .i64 c2.N, .int .i64 c2.F, .int .i64 c2.D, .int .i64 c2.Period, .int .i64 c2.Rate, .int .i64 c2.Drift, .int .i64 c2.Offset, .int .i64 c2.Slot, .int .i64 c2.Mod, .int .i64 c2.Fresh, .lst .no (List.map iav c2.Table)]⟩)]⟩) ∧ Mg 1 g0') r q
def r12_Empty_0_inv (c2 : GConf) (v : (List (List UInt8)) × Int) (e : PF.St) : Prop := ∃ g0, e = ⟨[(1, .ptr 101 0), (3, .lst g0 (List.map sav v.1)), (4, .int .i64 v.2)], [(101, ⟨true, [.int .i64 c2.N, .int .i64 c2.F, .int .i64 c2.D, .int .i64 c2.Period, .int .i64 c2.Rate, .int .i64 c2.Drift, .int .i64 c2.Offset, .int .i64 c2.Slot, .int .i64 c2.Mod, .int .i64 c2.Fresh, .lst .no (List.map iav c2.Table)]⟩)]⟩ ∧ Mg 1 g0
theorem r12_Empty_0_sim (c2 : GConf) (out : List (List UInt8)) (i0 : Int) (g0 : Gr) (hg0 : Mg 1 g0) (s : PF.St) (hk : keep [1, 3, 4] [101] s = some ⟨[(1, .ptr 101 0), (3, .lst g0 (List.map sav out)), (4, .int .i64 i0)], [(101, ⟨true, [.int .i64 c2.N, .int .i64 c2.F, .int .i64 c2.D, .int .i64 c2.Period, .int .i64 c2.Rate, .int .i64 c2.Drift, .int .i64 c2.Offset, .int .i64 c2.Slot, .int .i64 c2.Mod, .int .i64 c2.Fresh, .lst .no (List.map iav c2.Table)]⟩)]⟩) : Sim (r12_Empty_0 c2 out i0) (Gv (r12_Empty_0_rel c2)) (LM.loop ([1, 3, 4], [101], [3], B_r12_Empty_0) s) := by
  refine sim_loop M XE (r12_Empty_0_inv c2) (r12_Empty_0_rel c2) ?_ _ _ _ hk ⟨g0, rfl, hg0⟩
  clear hk hg0
  rintro S hS hw hw8 R hR ⟨out, i0⟩ env hp ⟨g0, he, hg0⟩
  change (⟨env, hp⟩ : PF.St) = ⟨[(1, .ptr 101 0), (3, .lst g0 (List.map sav out)), (4, .int .i64 i0)], [(101, ⟨true, [.int .i64 c2.N, .int .i64 c2.F, .int .i64 c2.D, .int .i64 c2.Period, .int .i64 c2.Rate, .int .i64 c2.Drift, .int .i64 c2.Offset, .int .i64 c2.Slot, .int .i64 c2.Mod, .int .i64 c2.Fresh, .lst .no (List.map iav c2.Table)]⟩)]⟩ at he
  cases he
  show Sim (r12_Empty_0_step c2 out i0) _ _
  unfold r12_Empty_0_step
  simp only [hw]
  conv => arg 3; whnf
  refine Sim.ite Iff.rfl (fun hc2 => ?_) (fun hc2 => ?_)
  · conv => arg 3; whnf
    refine Sim.kl hS (ys := List.map sav [([] : List UInt8)]) rfl ?_
    conv => arg 3; whnf
    first | (refine Sim.goB (may_map (by intro _; rfl) hg0 _) ?_) | skip
    conv => arg 3; whnf
    first | (refine Sim.goB (okE_map (by intro _; exact ⟨rfl, rfl, rfl⟩) _) ?_) | skip
    conv => arg 3; whnf
    first | refine Sim.ite (by simp) (fun _ => ?_) (fun _ => Sim.no) | refine Sim.guard (fun _ => ?_)
    conv => arg 3; whnf
    refine Sim.kl hS (ys := List.map sav (out ++ [([] : List UInt8)])) (by simp) ?_
    conv => arg 3; whnf
    exact Sim.ret ⟨_, _, rfl, rfl, ⟨_, rfl, Mg.own⟩⟩
  · conv => arg 3; whnf
    exact Sim.ret ⟨_, rfl, ⟨_, rfl, hg0⟩⟩
noncomputable def r12_Empty (c0 : GConf) : Option ((List (List UInt8))) :=
  (r03_Plain c0).bind fun r0 =>
  if r0 ≠ 0 then
    some ([] : List (List UInt8))
  else
    (r12_Empty_0 c0 ([] : List (List UInt8)) 0).bind fun r2 =>
    some r2
theorem r12_Empty_sim (c0 : GConf) : Sim (r12_Empty c0) (Gv fun r q => q = (.lst .no (List.map sav r), [])) (LM.call n_r12_Empty [.agg [.int .i64 c0.N, .int .i64 c0.F, .int .i64 c0.D, .int .i64 c0.Period, .int .i64 c0.Rate, .int .i64 c0.Drift, .int .i64 c0.Offset, .int .i64 c0.Slot, .int .i64 c0.Mod, .int .i64 c0.Fresh, .lst .no (List.map iav c0.Table)]] []) := by
  unfold r12_Empty
  refine sim_evR M XE rfl rfl fun S hS hw hw8 R hR => ?_
  conv => arg 3; whnf
  refine Sim.callR hR (r03_Plain_sim c0) ?_
  rintro r0 q rfl
  conv => arg 3; whnf
  refine Sim.ite Iff.rfl (fun hc => ?_) (fun hc => ?_)
  · conv => arg 3; whnf
    exact Sim.ret ⟨_, rfl, rfl⟩
  · conv => arg 3; whnf
    refine Sim.callL hR (r12_Empty_0_sim c0 ([] : List (List UInt8)) 0 .full Mg.full _ rfl) ?_
    rintro r2 q ⟨g2, rfl, hg2⟩
    conv => arg 3; whnf
    exact Sim.ret ⟨_, rfl, rfl⟩
noncomputable def r28_held_0_step (l2 : List (List UInt8)) (c2 : GConf) (out : List (List UInt8)) (i0 : Int) : Option (((List (List UInt8)) × Int) ⊕ ((List (List UInt8)))) :=
  if i0 < (List.length l2 : Int) then
    (idx? l2 i0).bind fun z0 =>
    (r28_cut z0 40).bind fun r2 =>
    if List.length out + List.length [r2] ≤ lenMax then
      some (.inl ((out ++ [r2]), (wr (i0 + 1))))
    else none
  else
    some (.inr out)
noncomputable def r28_held_0 (l2 : List (List UInt8)) (c2 : GConf) (out : List (List UInt8)) (i0 : Int) : Option ((List (List UInt8))) :=
  loopO (fun s : (List (List UInt8)) × Int => r28_held_0_step l2 c2 s.1 s.2) (out, i0)
def r28_held_0_rel (l2 : List (List UInt8)) (c2 : GConf) (r : ((List (List UInt8)))) (q : Ex × PF.St) : Prop := (fun r (q : Ex × PF.St) => ∃ g0', q = ((.exit 0), ⟨[(5, .lst g0' (List.map sav r))], [(102, ⟨true, [.int .i64 c2.N, .int .i64 c2.F, .int .i64 c2.D, .int .i64 c2.Period, .int .i64 c2.Rate, .int .i64 c2.Drift, .int .i64 c2.Offset, .int .i64 c2.Slot, .int .i64 c2.Mod, .int .i64 c2.Fresh, .lst .no (List.map iav c2.Table)]⟩)]⟩) ∧ Mg 1 g0') r q
def r28_held_0_inv (l2 : List (List UInt8)) (c2 : GConf) (v : (List (List UInt8)) × Int) (e : PF.St) : Prop := ∃ g0, e = ⟨[(1, .lst .no (List.map sav l2)), (5, .lst g0 (List.map sav v.1)), (6, .int .i64 v.2)], [(102, ⟨true, [.int .i64 c2.N, .int .i64 c2.F, .int .i64 c2.D, .int .i64 c2.Period, .int .i64 c2.Rate, .int .i64 c2.Drift, .int .i64 c2.Offset, .int .i64 c2.Slot, .int .i64 c2.Mod, .int .i64 c2.Fresh, .lst .no (List.map iav c2.Table)]⟩)]⟩ ∧ Mg 1 g0
theorem r28_held_0_sim (l2 : List (List UInt8)) (c2 : GConf) (out : List (List UInt8)) (i0 : Int) (g0 : Gr) (hg0 : Mg 1 g0) (s : PF.St) (hk : keep [1, 5, 6] [102] s = some ⟨[(1, .lst .no (List.map sav l2)), (5, .lst g0 (List.map sav out)), (6, .int .i64 i0)], [(102, ⟨true, [.int .i64 c2.N, .int .i64 c2.F, .int .i64 c2.D, .int .i64 c2.Period, .int .i64 c2.Rate, .int .i64 c2.Drift, .int .i64 c2.Offset, .int .i64 c2.Slot, .int .i64 c2.Mod, .int .i64 c2.Fresh, .lst .no (List.map iav c2.Table)]⟩)]⟩) : Sim (r28_held_0 l2 c2 out i0) (Gv (r28_held_0_rel l2 c2)) (LM.loop ([1, 5, 6], [102], [5], B_r28_held_0) s) := by
  refine sim_loop M XE (r28_held_0_inv l2 c2) (r28_held_0_rel l2 c2) ?_ _ _ _ hk ⟨g0, rfl, hg0⟩
  clear hk hg0
  rintro S hS hw hw8 R hR ⟨out, i0⟩ env hp ⟨g0, he, hg0⟩
  change (⟨env, hp⟩ : PF.St) = ⟨[(1, .lst .no (List.map sav l2)), (5, .lst g0 (List.map sav out)), (6, .int .i64 i0)], [(102, ⟨true, [.int .i64 c2.N, .int .i64 c2.F, .int .i64 c2.D, .int .i64 c2.Period, .int .i64 c2.Rate, .int .i64 c2.Drift, .int .i64 c2.Offset, .int .i64 c2.Slot, .int .i64 c2.Mod, .int .i64 c2.Fresh, .lst .no (List.map iav c2.Table)]⟩)]⟩ at he
  cases he
  show Sim (r28_held_0_step l2 c2 out i0) _ _
  unfold r28_held_0_step
  simp only [hw]
  conv => arg 3; whnf
  refine Sim.ki hS (m := (List.length l2 : Int)) (by simp) ?_
  conv => arg 3; whnf
  refine Sim.ite Iff.rfl (fun hc2 => ?_) (fun hc2 => ?_)
  · conv => arg 3; whnf
    refine Sim.ix (by simp) (fun z0 hz0 => ?_)
    conv => arg 3; whnf
    refine Sim.go (idx_map _ hz0) ?_
    conv => arg 3; whnf
    refine Sim.callR hR (r28_cut_sim z0 40) ?_
    rintro r2 q rfl
    conv => arg 3; whnf
    refine Sim.kl hS (ys := List.map sav [r2]) rfl ?_
    conv => arg 3; whnf
    first | (refine Sim.goB (may_map (by intro _; rfl) hg0 _) ?_) | skip
    conv => arg 3; whnf
    first | (refine Sim.goB (okE_map (by intro _; exact ⟨rfl, rfl, rfl⟩) _) ?_) | skip
    conv => arg 3; whnf
    first | refine Sim.ite (by simp) (fun _ => ?_) (fun _ => Sim.no) | refine Sim.guard (fun _ => ?_)
    conv => arg 3; whnf
    refine Sim.kl hS (ys := List.map sav (out ++ [r2])) (by simp) ?_
    conv => arg 3; whnf
    exact Sim.ret ⟨_, _, rfl, rfl, ⟨_, rfl, Mg.own⟩⟩
  · conv => arg 3; whnf
    exact Sim.ret ⟨_, rfl, ⟨_, rfl, hg0⟩⟩
noncomputable def r28_held (c0 : GConf) (l0 : List (List UInt8)) : Option ((List (List UInt8))) :=
  if (List.length l0 : Int) ≠ (wr (c0.N * c0.D)) then
    (r12_Empty c0).bind fun r0 =>
    some r0
  else
    (r28_held_0 l0 c0 ([] : List (List UInt8)) 0).bind fun r3 =>
    some r3
theorem r28_held_sim (c0 : GConf) (l0 : List (List UInt8)) : Sim (r28_held c0 l0) (Gv fun r q => q = (.lst .no (List.map sav r), [])) (LM.call n_r28_held [.agg [.int .i64 c0.N, .int .i64 c0.F, .int .i64 c0.D, .int .i64 c0.Period, .int .i64 c0.Rate, .int .i64 c0.Drift, .int .i64 c0.Offset, .int .i64 c0.Slot, .int .i64 c0.Mod, .int .i64 c0.Fresh, .lst .no (List.map iav c0.Table)], .lst .no (List.map sav l0)] []) := by
  unfold r28_held
  refine sim_evR M XE rfl rfl fun S hS hw hw8 R hR => ?_
  simp only [hw]
  conv => arg 3; whnf
  refine Sim.ki hS (m := (List.length l0 : Int)) (by simp) ?_
  conv => arg 3; whnf
  refine Sim.ite Iff.rfl (fun hc => ?_) (fun hc => ?_)
  · conv => arg 3; whnf
    refine Sim.callR hR (r12_Empty_sim c0) ?_
    rintro r0 q rfl
    conv => arg 3; whnf
    exact Sim.ret ⟨_, rfl, rfl⟩
  · conv => arg 3; whnf
    refine Sim.callL hR (r28_held_0_sim l0 c0 ([] : List (List UInt8)) 0 .full Mg.full _ rfl) ?_
    rintro r3 q ⟨g2, rfl, hg2⟩
    conv => arg 3; whnf
    exact Sim.ret ⟨_, rfl, rfl⟩
noncomputable def r28_notes_0_step (l2 : List GEntry) (c2 : GConf) (out : List GEntry) (i0 : Int) : Option (((List GEntry) × Int) ⊕ ((List GEntry))) :=
  if i0 < (List.length l2 : Int) then
    (idx? l2 i0).bind fun z0 =>
    if 0 ≤ z0.From then
      (idx? l2 i0).bind fun z2 =>
      if z2.From < c2.N then
        (idx? l2 i0).bind fun z3 =>
        (idx? l2 i0).bind fun z4 =>
        (r05_Put z4.At).bind fun r0 =>
        if List.length out + List.length [(GEntry.mk z3.From r0)] ≤ lenMax then
          some (.inl ((out ++ [(GEntry.mk z3.From r0)]), (wr (i0 + 1))))
        else none
      else
        some (.inl (out, (wr (i0 + 1))))
    else
      some (.inl (out, (wr (i0 + 1))))
  else
    some (.inr out)
noncomputable def r28_notes_0 (l2 : List GEntry) (c2 : GConf) (out : List GEntry) (i0 : Int) : Option ((List GEntry)) :=
  loopO (fun s : (List GEntry) × Int => r28_notes_0_step l2 c2 s.1 s.2) (out, i0)
def r28_notes_0_rel (l2 : List GEntry) (c2 : GConf) (r : ((List GEntry))) (q : Ex × PF.St) : Prop := (fun r (q : Ex × PF.St) => ∃ g0', q = ((.exit 0), ⟨[(5, .lst g0' (List.map GEntry.av r))], [(102, ⟨true, [.int .i64 c2.N, .int .i64 c2.F, .int .i64 c2.D, .int .i64 c2.Period, .int .i64 c2.Rate, .int .i64 c2.Drift, .int .i64 c2.Offset, .int .i64 c2.Slot, .int .i64 c2.Mod, .int .i64 c2.Fresh, .lst .no (List.map iav c2.Table)]⟩)]⟩) ∧ Mg 2 g0') r q
def r28_notes_0_inv (l2 : List GEntry) (c2 : GConf) (v : (List GEntry) × Int) (e : PF.St) : Prop := ∃ g0, e = ⟨[(1, .lst .no (List.map GEntry.av l2)), (2, .ptr 102 0), (5, .lst g0 (List.map GEntry.av v.1)), (6, .int .i64 v.2)], [(102, ⟨true, [.int .i64 c2.N, .int .i64 c2.F, .int .i64 c2.D, .int .i64 c2.Period, .int .i64 c2.Rate, .int .i64 c2.Drift, .int .i64 c2.Offset, .int .i64 c2.Slot, .int .i64 c2.Mod, .int .i64 c2.Fresh, .lst .no (List.map iav c2.Table)]⟩)]⟩ ∧ Mg 2 g0
theorem r28_notes_0_sim (l2 : List GEntry) (c2 : GConf) (out : List GEntry) (i0 : Int) (g0 : Gr) (hg0 : Mg 2 g0) (s : PF.St) (hk : keep [1, 2, 5, 6] [102] s = some ⟨[(1, .lst .no (List.map GEntry.av l2)), (2, .ptr 102 0), (5, .lst g0 (List.map GEntry.av out)), (6, .int .i64 i0)], [(102, ⟨true, [.int .i64 c2.N, .int .i64 c2.F, .int .i64 c2.D, .int .i64 c2.Period, .int .i64 c2.Rate, .int .i64 c2.Drift, .int .i64 c2.Offset, .int .i64 c2.Slot, .int .i64 c2.Mod, .int .i64 c2.Fresh, .lst .no (List.map iav c2.Table)]⟩)]⟩) : Sim (r28_notes_0 l2 c2 out i0) (Gv (r28_notes_0_rel l2 c2)) (LM.loop ([1, 2, 5, 6], [102], [5], B_r28_notes_0) s) := by
  refine sim_loop M XE (r28_notes_0_inv l2 c2) (r28_notes_0_rel l2 c2) ?_ _ _ _ hk ⟨g0, rfl, hg0⟩
  clear hk hg0
  rintro S hS hw hw8 R hR ⟨out, i0⟩ env hp ⟨g0, he, hg0⟩
  change (⟨env, hp⟩ : PF.St) = ⟨[(1, .lst .no (List.map GEntry.av l2)), (2, .ptr 102 0), (5, .lst g0 (List.map GEntry.av out)), (6, .int .i64 i0)], [(102, ⟨true, [.int .i64 c2.N, .int .i64 c2.F, .int .i64 c2.D, .int .i64 c2.Period, .int .i64 c2.Rate, .int .i64 c2.Drift, .int .i64 c2.Offset, .int .i64 c2.Slot, .int .i64 c2.Mod, .int .i64 c2.Fresh, .lst .no (List.map iav c2.Table)]⟩)]⟩ at he
  cases he
  show Sim (r28_notes_0_step l2 c2 out i0) _ _
  unfold r28_notes_0_step
  simp only [hw]
  conv => arg 3; whnf
  refine Sim.ki hS (m := (List.length l2 : Int)) (by simp) ?_
  conv => arg 3; whnf
  refine Sim.ite Iff.rfl (fun hc => ?_) (fun hc => ?_)
  · conv => arg 3; whnf
    refine Sim.ix (by simp) (fun z0 hz0 => ?_)
    conv => arg 3; whnf
    refine Sim.go (idx_map _ hz0) ?_
    conv => arg 3; whnf
    refine Sim.ite Iff.rfl (fun hc2 => ?_) (fun hc2 => ?_)
    · conv => arg 3; whnf
      refine Sim.goB (decide_eq_true hc2) ?_
      conv => arg 3; whnf
      refine Sim.goB (decide_eq_true hc2) ?_
      conv => arg 3; whnf
      refine Sim.ix (by simp) (fun z2 hz2 => ?_)
      conv => arg 3; whnf
      refine Sim.go (idx_map _ hz2) ?_
      conv => arg 3; whnf
      refine Sim.goB (decide_eq_true hc2) ?_
      conv => arg 3; whnf
      refine Sim.goB (decide_eq_true hc2) ?_
      conv => arg 3; whnf
      refine Sim.goB (decide_eq_true hc2) ?_
      conv => arg 3; whnf
      refine Sim.goB (decide_eq_true hc2) ?_
      conv => arg 3; whnf
      refine Sim.goB (decide_eq_true hc2) ?_
      conv => arg 3; whnf
      refine Sim.goB (decide_eq_true hc2) ?_
      conv => arg 3; whnf
      refine Sim.ite Iff.rfl (fun hc3 => ?_) (fun hc3 => ?_)
      · conv => arg 3; whnf
        refine Sim.ix (by simp) (fun z3 hz3 => ?_)
        conv => arg 3; whnf
        refine Sim.go (idx_map _ hz3) ?_
        conv => arg 3; whnf
        refine Sim.ix (by simp) (fun z4 hz4 => ?_)
        conv => arg 3; whnf
        refine Sim.go (idx_map _ hz4) ?_
        conv => arg 3; whnf
        refine Sim.callR hR (r05_Put_sim z4.At) ?_
        rintro r0 q rfl
        conv => arg 3; whnf
        refine Sim.kl hS (ys := List.map GEntry.av [(GEntry.mk z3.From r0)]) rfl ?_
        conv => arg 3; whnf
        first | (refine Sim.goB (may_map (by intro _; rfl) hg0 _) ?_) | skip
        conv => arg 3; whnf
        first | (refine Sim.goB (okE_map (by intro _; exact ⟨rfl, rfl, rfl⟩) _) ?_) | skip
        conv => arg 3; whnf
        first | refine Sim.ite (by simp) (fun _ => ?_) (fun _ => Sim.no) | refine Sim.guard (fun _ => ?_)
        conv => arg 3; whnf
        refine Sim.kl hS (ys := List.map GEntry.av (out ++ [(GEntry.mk z3.From r0)])) (by simp) ?_
        conv => arg 3; whnf
        exact Sim.ret ⟨_, _, rfl, rfl, ⟨_, rfl, Mg.own⟩⟩
      · conv => arg 3; whnf
        exact Sim.ret ⟨_, _, rfl, rfl, ⟨_, rfl, hg0⟩⟩
    · conv => arg 3; whnf
      refine Sim.goF (decide_eq_false hc2) ?_
      conv => arg 3; whnf
      refine Sim.goF (decide_eq_false hc2) ?_
      conv => arg 3; whnf
      refine Sim.goF (decide_eq_false hc2) ?_
      conv => arg 3; whnf
      refine Sim.goF (decide_eq_false hc2) ?_
      conv => arg 3; whnf
      refine Sim.goF (decide_eq_false hc2) ?_
      conv => arg 3; whnf
      refine Sim.goF (decide_eq_false hc2) ?_
      conv => arg 3; whnf
      refine Sim.goF (decide_eq_false hc2) ?_
      conv => arg 3; whnf
      refine Sim.goF (decide_eq_false hc2) ?_
      conv => arg 3; whnf
      exact Sim.ret ⟨_, _, rfl, rfl, ⟨_, rfl, hg0⟩⟩
  · conv => arg 3; whnf
    exact Sim.ret ⟨_, rfl, ⟨_, rfl, hg0⟩⟩
noncomputable def r28_notes (c0 : GConf) (l0 : List GEntry) : Option ((List GEntry)) :=
  (r28_notes_0 l0 c0 ([] : List GEntry) (max 0 (wr ((List.length l0 : Int) - 64)))).bind fun r2 =>
  some r2
theorem r28_notes_sim (c0 : GConf) (l0 : List GEntry) : Sim (r28_notes c0 l0) (Gv fun r q => q = (.lst .no (List.map GEntry.av r), [])) (LM.call n_r28_notes [.agg [.int .i64 c0.N, .int .i64 c0.F, .int .i64 c0.D, .int .i64 c0.Period, .int .i64 c0.Rate, .int .i64 c0.Drift, .int .i64 c0.Offset, .int .i64 c0.Slot, .int .i64 c0.Mod, .int .i64 c0.Fresh, .lst .no (List.map iav c0.Table)], .lst .no (List.map GEntry.av l0)] []) := by
  unfold r28_notes
  refine sim_evR M XE rfl rfl fun S hS hw hw8 R hR => ?_
  simp only [hw]
  conv => arg 3; whnf
  refine Sim.ki hS (m := (List.length l0 : Int)) (by simp) ?_
  conv => arg 3; whnf
  refine Sim.callL hR (r28_notes_0_sim l0 c0 ([] : List GEntry) (max 0 (S.wr ((List.length l0 : Int) - 64))) .full Mg.full _ rfl) ?_
  rintro r2 q ⟨g2, rfl, hg2⟩
  conv => arg 3; whnf
  exact Sim.ret ⟨_, rfl, rfl⟩
noncomputable def r09_Clean_0_step (x0 : Ar6 Int) (i0 : Int) (d2 : Ar6 Int) : Option ((Int × (Ar6 Int)) ⊕ ((Ar6 Int))) :=
  if i0 < 6 then
    if 0 ≤ i0 ∧ i0 < (6 : Nat) then
      (Ar6.get? (Ar6.mk d2.a0 d2.a1 d2.a2 d2.a3 d2.a4 d2.a5) (Int.toNat i0)).bind fun z0 =>
      (r01_Clamp z0 0 65535).bind fun r0 =>
      if 0 ≤ i0 ∧ i0 < (6 : Nat) then
        (Ar6.set? d2 (Int.toNat i0) r0).bind fun y0 =>
        some (.inl ((wr (i0 + 1)), y0))
      else none
    else none
  else
    some (.inr d2)
noncomputable def r09_Clean_0 (x0 : Ar6 Int) (i0 : Int) (d2 : Ar6 Int) : Option ((Ar6 Int)) :=
  loopO (fun s : Int × (Ar6 Int) => r09_Clean_0_step x0 s.1 s.2) (i0, d2)
def r09_Clean_0_rel (x0 : Ar6 Int) (r : ((Ar6 Int))) (q : Ex × PF.St) : Prop := (fun r (q : Ex × PF.St) => q = ((.exit 0), ⟨[(1, .ptr 101 0), (2, .ptr 102 0)], [(102, ⟨true, [.int .i64 x0.a0, .int .i64 x0.a1, .int .i64 x0.a2, .int .i64 x0.a3, .int .i64 x0.a4, .int .i64 x0.a5]⟩), (101, ⟨true, [.int .i64 r.a0, .int .i64 r.a1, .int .i64 r.a2, .int .i64 r.a3, .int .i64 r.a4, .int .i64 r.a5]⟩)]⟩)) r q
def r09_Clean_0_inv (x0 : Ar6 Int) (v : Int × (Ar6 Int)) (e : PF.St) : Prop := e = ⟨[(1, .ptr 101 0), (2, .ptr 102 0), (3, .int .i64 v.1)], [(102, ⟨true, [.int .i64 x0.a0, .int .i64 x0.a1, .int .i64 x0.a2, .int .i64 x0.a3, .int .i64 x0.a4, .int .i64 x0.a5]⟩), (101, ⟨true, [.int .i64 v.2.a0, .int .i64 v.2.a1, .int .i64 v.2.a2, .int .i64 v.2.a3, .int .i64 v.2.a4, .int .i64 v.2.a5]⟩)]⟩
theorem r09_Clean_0_sim (x0 : Ar6 Int) (i0 : Int) (d2 : Ar6 Int) (s : PF.St) (hk : keep [1, 2, 3] [101, 102] s = some ⟨[(1, .ptr 101 0), (2, .ptr 102 0), (3, .int .i64 i0)], [(102, ⟨true, [.int .i64 x0.a0, .int .i64 x0.a1, .int .i64 x0.a2, .int .i64 x0.a3, .int .i64 x0.a4, .int .i64 x0.a5]⟩), (101, ⟨true, [.int .i64 d2.a0, .int .i64 d2.a1, .int .i64 d2.a2, .int .i64 d2.a3, .int .i64 d2.a4, .int .i64 d2.a5]⟩)]⟩) : Sim (r09_Clean_0 x0 i0 d2) (Gv (r09_Clean_0_rel x0)) (LM.loop ([1, 2, 3], [101, 102], [1, 2], B_r09_Clean_0) s) := by
  refine sim_loop M XE (r09_Clean_0_inv x0) (r09_Clean_0_rel x0) ?_ _ _ _ hk rfl
  clear hk
  rintro S hS hw hw8 R hR ⟨i0, d2⟩ env hp he
  change (⟨env, hp⟩ : PF.St) = ⟨[(1, .ptr 101 0), (2, .ptr 102 0), (3, .int .i64 i0)], [(102, ⟨true, [.int .i64 x0.a0, .int .i64 x0.a1, .int .i64 x0.a2, .int .i64 x0.a3, .int .i64 x0.a4, .int .i64 x0.a5]⟩), (101, ⟨true, [.int .i64 d2.a0, .int .i64 d2.a1, .int .i64 d2.a2, .int .i64 d2.a3, .int .i64 d2.a4, .int .i64 d2.a5]⟩)]⟩ at he
  cases he
  show Sim (r09_Clean_0_step x0 i0 d2) _ _
  unfold r09_Clean_0_step
  simp only [hw]
  conv => arg 3; whnf
  refine Sim.ite Iff.rfl (fun hc => ?_) (fun hc => ?_)
  · conv => arg 3; whnf
    first | refine Sim.ite Iff.rfl (fun hb => ?_) (fun _ => Sim.no) | refine Sim.guard (fun hb => ?_)
    conv => arg 3; whnf
    refine Sim.opt (f := iav) (by have hb' : (Int.toNat i0) < 6 := (by omega); generalize (Int.toNat i0) = j at hb' ⊢; rcases j with _|_|_|_|_|_|j <;> first | rfl | exact absurd hb' (by omega)) (fun z0 _ => ?_)
    conv => arg 3; whnf
    refine Sim.callR hR (r01_Clamp_sim z0 0 65535) ?_
    rintro r0 q rfl
    conv => arg 3; whnf
    first | refine Sim.ite Iff.rfl (fun hb2 => ?_) (fun _ => Sim.no) | refine Sim.guard (fun hb2 => ?_)
    conv => arg 3; whnf
    refine Sim.opt (f := fun y0 => [.int .i64 y0.a0, .int .i64 y0.a1, .int .i64 y0.a2, .int .i64 y0.a3, .int .i64 y0.a4, .int .i64 y0.a5]) (by have hb' : (Int.toNat i0) < 6 := (by omega); generalize (Int.toNat i0) = j at hb' ⊢; rcases j with _|_|_|_|_|_|j <;> first | rfl | exact absurd hb' (by omega)) (fun y0 _ => ?_)
    conv => arg 3; whnf
    exact Sim.ret ⟨_, _, rfl, rfl, rfl⟩
  · conv => arg 3; whnf
    exact Sim.ret ⟨_, rfl, rfl⟩
noncomputable def r09_Clean (d0 : Ar6 Int) : Option ((Ar6 Int)) :=
  (r09_Clean_0 (Ar6.mk 0 0 0 0 0 0) 0 d0).bind fun r2 =>
  some r2
theorem r09_Clean_sim (d0 : Ar6 Int) : Sim (r09_Clean d0) (Gv fun r q => q = (.agg [.int .i64 r.a0, .int .i64 r.a1, .int .i64 r.a2, .int .i64 r.a3, .int .i64 r.a4, .int .i64 r.a5], [])) (LM.call n_r09_Clean [.agg [.int .i64 d0.a0, .int .i64 d0.a1, .int .i64 d0.a2, .int .i64 d0.a3, .int .i64 d0.a4, .int .i64 d0.a5]] []) := by
  unfold r09_Clean
  refine sim_evR M XE rfl rfl fun S hS hw hw8 R hR => ?_
  conv => arg 3; whnf
  refine Sim.callL hR (r09_Clean_0_sim (Ar6.mk 0 0 0 0 0 0) 0 d0 _ rfl) ?_
  rintro r2 q rfl
  conv => arg 3; whnf
  exact Sim.ret ⟨_, rfl, rfl⟩
noncomputable def r28_Mend (L0 : GConf) (i0 : GMem) : Option GMem :=
  (r03_Plain L0).bind fun r0 =>
  if r0 ≠ 0 then
    some (GMem.mk 0 0 0 ([] : List UInt8) 0 ([] : List UInt8) ([] : List UInt8) 0 0 ([] : List UInt8) ([] : List UInt8) ([] : List UInt8) ([] : List UInt8) ([] : List UInt8) ([] : List UInt8) ([] : List GPort) ([] : List (List UInt8)) ([] : List GEntry) (Ar6.mk 0 0 0 0 0 0))
  else
    (r05_Put i0.Clock).bind fun r2 =>
    (r05_Put i0.Anchor).bind fun r3 =>
    (r01_Clamp i0.Since 0 L0.Period).bind fun r4 =>
    (r03_Length L0).bind fun r5 =>
    (r28_digits i0.Pipe r5 53).bind fun r6 =>
    (r03_Length L0).bind fun r7 =>
    (r01_Clamp i0.Age 0 r7).bind fun r8 =>
    (r03_Bits L0).bind fun r9 =>
    (r28_row i0.Vec r9 53).bind fun r10 =>
    (r03_Bits L0).bind fun r11 =>
    (r28_row i0.Agreed r11 49).bind fun r12 =>
    (r01_Mod i0.Number L0.Mod).bind fun r13 =>
    (r01_Clamp i0.Regular 0 2).bind fun r14 =>
    (r25_Mark L0 i0.Members ([] : List Int)).bind fun r15 =>
    (r25_Mark L0 i0.Seen ([] : List Int)).bind fun r16 =>
    (r23_Mark i0.Heard (List.length L0.Table : Int) ([] : List Int)).bind fun r17 =>
    (r23_Mark i0.Sent (List.length L0.Table : Int) ([] : List Int)).bind fun r18 =>
    (r28_cut i0.Out 16).bind fun r19 =>
    (r28_cut i0.Line 16).bind fun r20 =>
    (r28_ports L0 i0.Ports).bind fun r21 =>
    (r28_held L0 i0.Hold).bind fun r22 =>
    (r28_notes L0 i0.Log).bind fun r23 =>
    (r09_Clean i0.Diag).bind fun r24 =>
    some (GMem.mk r2 r3 r4 r6 r8 r10 r12 r13 r14 r15 r16 r17 r18 r19 r20 r21 r22 r23 r24)
theorem r28_Mend_sim (L0 : GConf) (i0 : GMem) : Sim (r28_Mend L0 i0) (Gv fun r q => q = (.agg [.int .i64 r.Clock, .int .i64 r.Anchor, .int .i64 r.Since, .str r.Pipe, .int .i64 r.Age, .str r.Vec, .str r.Agreed, .int .i64 r.Number, .int .i64 r.Regular, .str r.Members, .str r.Seen, .str r.Heard, .str r.Sent, .str r.Out, .str r.Line, .lst .no (List.map GPort.av r.Ports), .lst .no (List.map sav r.Hold), .lst .no (List.map GEntry.av r.Log), .int .i64 r.Diag.a0, .int .i64 r.Diag.a1, .int .i64 r.Diag.a2, .int .i64 r.Diag.a3, .int .i64 r.Diag.a4, .int .i64 r.Diag.a5], [])) (LM.call n_r28_Mend [.agg [.int .i64 L0.N, .int .i64 L0.F, .int .i64 L0.D, .int .i64 L0.Period, .int .i64 L0.Rate, .int .i64 L0.Drift, .int .i64 L0.Offset, .int .i64 L0.Slot, .int .i64 L0.Mod, .int .i64 L0.Fresh, .lst .no (List.map iav L0.Table)], .agg [.int .i64 i0.Clock, .int .i64 i0.Anchor, .int .i64 i0.Since, .str i0.Pipe, .int .i64 i0.Age, .str i0.Vec, .str i0.Agreed, .int .i64 i0.Number, .int .i64 i0.Regular, .str i0.Members, .str i0.Seen, .str i0.Heard, .str i0.Sent, .str i0.Out, .str i0.Line, .lst .no (List.map GPort.av i0.Ports), .lst .no (List.map sav i0.Hold), .lst .no (List.map GEntry.av i0.Log), .int .i64 i0.Diag.a0, .int .i64 i0.Diag.a1, .int .i64 i0.Diag.a2, .int .i64 i0.Diag.a3, .int .i64 i0.Diag.a4, .int .i64 i0.Diag.a5]] []) := by
  unfold r28_Mend
  refine sim_evR M XE rfl rfl fun S hS hw hw8 R hR => ?_
  conv => arg 3; whnf
  refine Sim.callR hR (r03_Plain_sim L0) ?_
  rintro r0 q rfl
  conv => arg 3; whnf
  refine Sim.ite Iff.rfl (fun hc => ?_) (fun hc => ?_)
  · conv => arg 3; whnf
    exact Sim.ret ⟨_, rfl, rfl⟩
  · conv => arg 3; whnf
    refine Sim.callR hR (r05_Put_sim i0.Clock) ?_
    rintro r2 q rfl
    conv => arg 3; whnf
    refine Sim.callR hR (r05_Put_sim i0.Anchor) ?_
    rintro r3 q rfl
    conv => arg 3; whnf
    refine Sim.callR hR (r01_Clamp_sim i0.Since 0 L0.Period) ?_
    rintro r4 q rfl
    conv => arg 3; whnf
    refine Sim.callR hR (r03_Length_sim L0) ?_
    rintro r5 q rfl
    conv => arg 3; whnf
    refine Sim.callR hR (r28_digits_sim i0.Pipe r5 53) ?_
    rintro r6 q rfl
    conv => arg 3; whnf
    refine Sim.callR hR (r03_Length_sim L0) ?_
    rintro r7 q rfl
    conv => arg 3; whnf
    refine Sim.callR hR (r01_Clamp_sim i0.Age 0 r7) ?_
    rintro r8 q rfl
    conv => arg 3; whnf
    refine Sim.callR hR (r03_Bits_sim L0) ?_
    rintro r9 q rfl
    conv => arg 3; whnf
    refine Sim.callR hR (r28_row_sim i0.Vec r9 53) ?_
    rintro r10 q rfl
    conv => arg 3; whnf
    refine Sim.callR hR (r03_Bits_sim L0) ?_
    rintro r11 q rfl
    conv => arg 3; whnf
    refine Sim.callR hR (r28_row_sim i0.Agreed r11 49) ?_
    rintro r12 q rfl
    conv => arg 3; whnf
    refine Sim.callR hR (r01_Mod_sim i0.Number L0.Mod) ?_
    rintro r13 q rfl
    conv => arg 3; whnf
    refine Sim.callR hR (r01_Clamp_sim i0.Regular 0 2) ?_
    rintro r14 q rfl
    conv => arg 3; whnf
    refine Sim.callR hR (r25_Mark_sim L0 i0.Members ([] : List Int)) ?_
    rintro r15 q rfl
    conv => arg 3; whnf
    refine Sim.callR hR (r25_Mark_sim L0 i0.Seen ([] : List Int)) ?_
    rintro r16 q rfl
    conv => arg 3; whnf
    refine Sim.ki hS (m := (List.length L0.Table : Int)) (by simp) ?_
    conv => arg 3; whnf
    refine Sim.callR hR (r23_Mark_sim i0.Heard (List.length L0.Table : Int) ([] : List Int)) ?_
    rintro r17 q rfl
    conv => arg 3; whnf
    refine Sim.ki hS (m := (List.length L0.Table : Int)) (by simp) ?_
    conv => arg 3; whnf
    refine Sim.callR hR (r23_Mark_sim i0.Sent (List.length L0.Table : Int) ([] : List Int)) ?_
    rintro r18 q rfl
    conv => arg 3; whnf
    refine Sim.callR hR (r28_cut_sim i0.Out 16) ?_
    rintro r19 q rfl
    conv => arg 3; whnf
    refine Sim.callR hR (r28_cut_sim i0.Line 16) ?_
    rintro r20 q rfl
    conv => arg 3; whnf
    refine Sim.callR hR (r28_ports_sim L0 i0.Ports) ?_
    rintro r21 q rfl
    conv => arg 3; whnf
    refine Sim.callR hR (r28_held_sim L0 i0.Hold) ?_
    rintro r22 q rfl
    conv => arg 3; whnf
    refine Sim.callR hR (r28_notes_sim L0 i0.Log) ?_
    rintro r23 q rfl
    conv => arg 3; whnf
    refine Sim.callR hR (r09_Clean_sim i0.Diag) ?_
    rintro r24 q rfl
    conv => arg 3; whnf
    exact Sim.ret ⟨_, rfl, rfl⟩
noncomputable def r28_Blank (c0 : GConf) : Option GMem :=
  (r28_Mend c0 (GMem.mk 0 0 0 ([] : List UInt8) 0 ([] : List UInt8) ([] : List UInt8) 0 0 ([] : List UInt8) ([] : List UInt8) ([] : List UInt8) ([] : List UInt8) ([] : List UInt8) ([] : List UInt8) ([] : List GPort) ([] : List (List UInt8)) ([] : List GEntry) (Ar6.mk 0 0 0 0 0 0))).bind fun r0 =>
  (r03_Plain c0).bind fun r2 =>
  if r2 = 0 then
    some (GMem.mk r0.Clock r0.Anchor c0.Period r0.Pipe r0.Age r0.Vec r0.Agreed r0.Number r0.Regular r0.Members r0.Seen r0.Heard r0.Sent r0.Out r0.Line r0.Ports r0.Hold r0.Log r0.Diag)
  else
    some r0
theorem r28_Blank_sim (c0 : GConf) : Sim (r28_Blank c0) (Gv fun r q => q = (.agg [.int .i64 r.Clock, .int .i64 r.Anchor, .int .i64 r.Since, .str r.Pipe, .int .i64 r.Age, .str r.Vec, .str r.Agreed, .int .i64 r.Number, .int .i64 r.Regular, .str r.Members, .str r.Seen, .str r.Heard, .str r.Sent, .str r.Out, .str r.Line, .lst .no (List.map GPort.av r.Ports), .lst .no (List.map sav r.Hold), .lst .no (List.map GEntry.av r.Log), .int .i64 r.Diag.a0, .int .i64 r.Diag.a1, .int .i64 r.Diag.a2, .int .i64 r.Diag.a3, .int .i64 r.Diag.a4, .int .i64 r.Diag.a5], [])) (LM.call n_r28_Blank [.agg [.int .i64 c0.N, .int .i64 c0.F, .int .i64 c0.D, .int .i64 c0.Period, .int .i64 c0.Rate, .int .i64 c0.Drift, .int .i64 c0.Offset, .int .i64 c0.Slot, .int .i64 c0.Mod, .int .i64 c0.Fresh, .lst .no (List.map iav c0.Table)]] []) := by
  unfold r28_Blank
  refine sim_evR M XE rfl rfl fun S hS hw hw8 R hR => ?_
  conv => arg 3; whnf
  refine Sim.callR hR (r28_Mend_sim c0 (GMem.mk 0 0 0 ([] : List UInt8) 0 ([] : List UInt8) ([] : List UInt8) 0 0 ([] : List UInt8) ([] : List UInt8) ([] : List UInt8) ([] : List UInt8) ([] : List UInt8) ([] : List UInt8) ([] : List GPort) ([] : List (List UInt8)) ([] : List GEntry) (Ar6.mk 0 0 0 0 0 0))) ?_
  rintro r0 q rfl
  conv => arg 3; whnf
  refine Sim.callR hR (r03_Plain_sim c0) ?_
  rintro r2 q rfl
  conv => arg 3; whnf
  refine Sim.ite Iff.rfl (fun hc => ?_) (fun hc => ?_)
  · conv => arg 3; whnf
    exact Sim.ret ⟨_, rfl, rfl⟩
  · conv => arg 3; whnf
    exact Sim.ret ⟨_, rfl, rfl⟩
noncomputable def l28_MemMends (c0 : GConf) (m0 : GMem) (text : List UInt8) : Option Bool :=
  (r28_Few m0).bind fun r0 =>
  if (!r0) = true then
    (l28_known).bind fun r2 =>
    some r2
  else
    (mem_Host c0 m0 text).bind fun r3 =>
    (r28_Host c0 m0 text).bind fun r4 =>
    (mem_Blank c0).bind fun r5 =>
    (r28_Blank c0).bind fun r6 =>
    (r28_Same r5 r6).bind fun r7 =>
    if r7 = true then
      (mem_Mend c0 m0).bind fun r8 =>
      (r28_Mend c0 m0).bind fun r9 =>
      (r28_Same r8 r9).bind fun r10 =>
      if r10 = true then
        (r28_Same r3.1 r4.1).bind fun r11 =>
        if r11 = true then
          if r3.2 = r4.2 then
            (l28_known).bind fun r12 =>
            some r12
          else
            some false
        else
          some false
      else
        some false
    else
      some false
theorem l28_MemMends_sim (c0 : GConf) (m0 : GMem) (text : List UInt8) : Sim (l28_MemMends c0 m0 text) (Gv fun r q => q = (.bool r, [])) (LM.call n_l28_MemMends [.agg [.int .i64 c0.N, .int .i64 c0.F, .int .i64 c0.D, .int .i64 c0.Period, .int .i64 c0.Rate, .int .i64 c0.Drift, .int .i64 c0.Offset, .int .i64 c0.Slot, .int .i64 c0.Mod, .int .i64 c0.Fresh, .lst .no (List.map iav c0.Table)], .agg [.int .i64 m0.Clock, .int .i64 m0.Anchor, .int .i64 m0.Since, .str m0.Pipe, .int .i64 m0.Age, .str m0.Vec, .str m0.Agreed, .int .i64 m0.Number, .int .i64 m0.Regular, .str m0.Members, .str m0.Seen, .str m0.Heard, .str m0.Sent, .str m0.Out, .str m0.Line, .lst .no (List.map GPort.av m0.Ports), .lst .no (List.map sav m0.Hold), .lst .no (List.map GEntry.av m0.Log), .int .i64 m0.Diag.a0, .int .i64 m0.Diag.a1, .int .i64 m0.Diag.a2, .int .i64 m0.Diag.a3, .int .i64 m0.Diag.a4, .int .i64 m0.Diag.a5], .str text] []) := by
  unfold l28_MemMends
  refine sim_evR M XE rfl rfl fun S hS hw hw8 R hR => ?_
  conv => arg 3; whnf
  refine Sim.callR hR (r28_Few_sim m0) ?_
  rintro r0 q rfl
  conv => arg 3; whnf
  refine Sim.iteB (fun hc => ?_) (fun hc => ?_)
  · conv => arg 3; whnf
    refine Sim.callR hR (l28_known_sim) ?_
    rintro r2 q rfl
    conv => arg 3; whnf
    exact Sim.ret ⟨_, rfl, rfl⟩
  · conv => arg 3; whnf
    refine Sim.callR hR (mem_Host_sim c0 m0 text) ?_
    rintro r3 q rfl
    conv => arg 3; whnf
    refine Sim.callR hR (r28_Host_sim c0 m0 text) ?_
    rintro r4 q rfl
    conv => arg 3; whnf
    refine Sim.callR hR (mem_Blank_sim c0) ?_
    rintro r5 q rfl
    conv => arg 3; whnf
    refine Sim.callR hR (r28_Blank_sim c0) ?_
    rintro r6 q rfl
    conv => arg 3; whnf
    refine Sim.callR hR (r28_Same_sim r5 r6) ?_
    rintro r7 q rfl
    conv => arg 3; whnf
    refine Sim.iteB (fun hc2 => ?_) (fun hc2 => ?_)
    · conv => arg 3; whnf
      refine Sim.goB hc2 ?_
      conv => arg 3; whnf
      refine Sim.goB hc2 ?_
      conv => arg 3; whnf
      refine Sim.callR hR (mem_Mend_sim c0 m0) ?_
      rintro r8 q rfl
      conv => arg 3; whnf
      refine Sim.goB hc2 ?_
      conv => arg 3; whnf
      refine Sim.goB hc2 ?_
      conv => arg 3; whnf
      refine Sim.goB hc2 ?_
      conv => arg 3; whnf
      refine Sim.callR hR (r28_Mend_sim c0 m0) ?_
      rintro r9 q rfl
      conv => arg 3; whnf
      refine Sim.goB hc2 ?_
      conv => arg 3; whnf
      refine Sim.callR hR (r28_Same_sim r8 r9) ?_
      rintro r10 q rfl
      conv => arg 3; whnf
      refine Sim.goB hc2 ?_
      conv => arg 3; whnf
      refine Sim.iteB (fun hc3 => ?_) (fun hc3 => ?_)
      · conv => arg 3; whnf
        refine Sim.goB hc3 ?_
        conv => arg 3; whnf
        refine Sim.goB hc3 ?_
        conv => arg 3; whnf
        refine Sim.callR hR (r28_Same_sim r3.1 r4.1) ?_
        rintro r11 q rfl
        conv => arg 3; whnf
        refine Sim.goB hc3 ?_
        conv => arg 3; whnf
        refine Sim.iteB (fun hc4 => ?_) (fun hc4 => ?_)
        · conv => arg 3; whnf
          refine Sim.goB hc4 ?_
          conv => arg 3; whnf
          refine Sim.goB hc4 ?_
          conv => arg 3; whnf
          refine Sim.goB hc4 ?_
          conv => arg 3; whnf
          refine Sim.ite Iff.rfl (fun hc5 => ?_) (fun hc5 => ?_)
          · conv => arg 3; whnf
            refine Sim.callR hR (l28_known_sim) ?_
            rintro r12 q rfl
            conv => arg 3; whnf
            refine Sim.goB (decide_eq_true hc5) ?_
            conv => arg 3; whnf
            exact Sim.ret ⟨_, rfl, rfl⟩
          · conv => arg 3; whnf
            refine Sim.goF (decide_eq_false hc5) ?_
            conv => arg 3; whnf
            exact Sim.ret ⟨_, rfl, rfl⟩
        · conv => arg 3; whnf
          refine Sim.goF hc4 ?_
          conv => arg 3; whnf
          refine Sim.goF hc4 ?_
          conv => arg 3; whnf
          refine Sim.goF hc4 ?_
          conv => arg 3; whnf
          exact Sim.ret ⟨_, rfl, rfl⟩
      · conv => arg 3; whnf
        refine Sim.goF hc3 ?_
        conv => arg 3; whnf
        refine Sim.goF hc3 ?_
        conv => arg 3; whnf
        refine Sim.goF hc3 ?_
        conv => arg 3; whnf
        exact Sim.ret ⟨_, rfl, rfl⟩
    · conv => arg 3; whnf
      refine Sim.goF hc2 ?_
      conv => arg 3; whnf
      refine Sim.goF hc2 ?_
      conv => arg 3; whnf
      refine Sim.goF hc2 ?_
      conv => arg 3; whnf
      refine Sim.goF hc2 ?_
      conv => arg 3; whnf
      refine Sim.goF hc2 ?_
      conv => arg 3; whnf
      refine Sim.goF hc2 ?_
      conv => arg 3; whnf
      refine Sim.goF hc2 ?_
      conv => arg 3; whnf
      exact Sim.ret ⟨_, rfl, rfl⟩
noncomputable def r28_Well (c0 : GConf) (m0 : GMem) : Option Bool :=
  (r03_Plain c0).bind fun r0 =>
  if r0 = 0 then
    (r28_Mend c0 m0).bind fun r2 =>
    (r28_Same r2 m0).bind fun r3 =>
    some r3
  else
    some false
theorem r28_Well_sim (c0 : GConf) (m0 : GMem) : Sim (r28_Well c0 m0) (Gv fun r q => q = (.bool r, [])) (LM.call n_r28_Well [.agg [.int .i64 c0.N, .int .i64 c0.F, .int .i64 c0.D, .int .i64 c0.Period, .int .i64 c0.Rate, .int .i64 c0.Drift, .int .i64 c0.Offset, .int .i64 c0.Slot, .int .i64 c0.Mod, .int .i64 c0.Fresh, .lst .no (List.map iav c0.Table)], .agg [.int .i64 m0.Clock, .int .i64 m0.Anchor, .int .i64 m0.Since, .str m0.Pipe, .int .i64 m0.Age, .str m0.Vec, .str m0.Agreed, .int .i64 m0.Number, .int .i64 m0.Regular, .str m0.Members, .str m0.Seen, .str m0.Heard, .str m0.Sent, .str m0.Out, .str m0.Line, .lst .no (List.map GPort.av m0.Ports), .lst .no (List.map sav m0.Hold), .lst .no (List.map GEntry.av m0.Log), .int .i64 m0.Diag.a0, .int .i64 m0.Diag.a1, .int .i64 m0.Diag.a2, .int .i64 m0.Diag.a3, .int .i64 m0.Diag.a4, .int .i64 m0.Diag.a5]] []) := by
  unfold r28_Well
  refine sim_evR M XE rfl rfl fun S hS hw hw8 R hR => ?_
  conv => arg 3; whnf
  refine Sim.callR hR (r03_Plain_sim c0) ?_
  rintro r0 q rfl
  conv => arg 3; whnf
  refine Sim.ite Iff.rfl (fun hc => ?_) (fun hc => ?_)
  · conv => arg 3; whnf
    refine Sim.goB (decide_eq_true hc) ?_
    conv => arg 3; whnf
    refine Sim.goB (decide_eq_true hc) ?_
    conv => arg 3; whnf
    refine Sim.callR hR (r28_Mend_sim c0 m0) ?_
    rintro r2 q rfl
    conv => arg 3; whnf
    refine Sim.goB (decide_eq_true hc) ?_
    conv => arg 3; whnf
    refine Sim.goB (decide_eq_true hc) ?_
    conv => arg 3; whnf
    refine Sim.callR hR (r28_Same_sim r2 m0) ?_
    rintro r3 q rfl
    conv => arg 3; whnf
    refine Sim.goB (decide_eq_true hc) ?_
    conv => arg 3; whnf
    exact Sim.ret ⟨_, rfl, rfl⟩
  · conv => arg 3; whnf
    refine Sim.goF (decide_eq_false hc) ?_
    conv => arg 3; whnf
    refine Sim.goF (decide_eq_false hc) ?_
    conv => arg 3; whnf
    refine Sim.goF (decide_eq_false hc) ?_
    conv => arg 3; whnf
    refine Sim.goF (decide_eq_false hc) ?_
    conv => arg 3; whnf
    refine Sim.goF (decide_eq_false hc) ?_
    conv => arg 3; whnf
    exact Sim.ret ⟨_, rfl, rfl⟩
noncomputable def l28_MemWell (c0 : GConf) (a0 : GMem) (b0 : GMem) : Option Bool :=
  (r28_Few a0).bind fun r0 =>
  if (!r0) = true then
    (l28_known).bind fun r2 =>
    some r2
  else
    (r28_Few b0).bind fun r3 =>
    if (!r3) = true then
      (l28_known).bind fun r4 =>
      some r4
    else
      (mem_Same a0 b0).bind fun r5 =>
      (r28_Same a0 b0).bind fun r6 =>
      if (r5 == r6) = true then
        (mem_Same a0 a0).bind fun r7 =>
        if r7 = true then
          (mem_Same a0 b0).bind fun r8 =>
          (mem_Same b0 a0).bind fun r9 =>
          if (r8 == r9) = true then
            (mem_Well c0 a0).bind fun r10 =>
            (r28_Well c0 a0).bind fun r11 =>
            if (r10 == r11) = true then
              (l28_known).bind fun r12 =>
              some r12
            else
              some false
          else
            some false
        else
          some false
      else
        some false
theorem l28_MemWell_sim (c0 : GConf) (a0 : GMem) (b0 : GMem) : Sim (l28_MemWell c0 a0 b0) (Gv fun r q => q = (.bool r, [])) (LM.call n_l28_MemWell [.agg [.int .i64 c0.N, .int .i64 c0.F, .int .i64 c0.D, .int .i64 c0.Period, .int .i64 c0.Rate, .int .i64 c0.Drift, .int .i64 c0.Offset, .int .i64 c0.Slot, .int .i64 c0.Mod, .int .i64 c0.Fresh, .lst .no (List.map iav c0.Table)], .agg [.int .i64 a0.Clock, .int .i64 a0.Anchor, .int .i64 a0.Since, .str a0.Pipe, .int .i64 a0.Age, .str a0.Vec, .str a0.Agreed, .int .i64 a0.Number, .int .i64 a0.Regular, .str a0.Members, .str a0.Seen, .str a0.Heard, .str a0.Sent, .str a0.Out, .str a0.Line, .lst .no (List.map GPort.av a0.Ports), .lst .no (List.map sav a0.Hold), .lst .no (List.map GEntry.av a0.Log), .int .i64 a0.Diag.a0, .int .i64 a0.Diag.a1, .int .i64 a0.Diag.a2, .int .i64 a0.Diag.a3, .int .i64 a0.Diag.a4, .int .i64 a0.Diag.a5], .agg [.int .i64 b0.Clock, .int .i64 b0.Anchor, .int .i64 b0.Since, .str b0.Pipe, .int .i64 b0.Age, .str b0.Vec, .str b0.Agreed, .int .i64 b0.Number, .int .i64 b0.Regular, .str b0.Members, .str b0.Seen, .str b0.Heard, .str b0.Sent, .str b0.Out, .str b0.Line, .lst .no (List.map GPort.av b0.Ports), .lst .no (List.map sav b0.Hold), .lst .no (List.map GEntry.av b0.Log), .int .i64 b0.Diag.a0, .int .i64 b0.Diag.a1, .int .i64 b0.Diag.a2, .int .i64 b0.Diag.a3, .int .i64 b0.Diag.a4, .int .i64 b0.Diag.a5]] []) := by
  unfold l28_MemWell
  refine sim_evR M XE rfl rfl fun S hS hw hw8 R hR => ?_
  conv => arg 3; whnf
  refine Sim.callR hR (r28_Few_sim a0) ?_
  rintro r0 q rfl
  conv => arg 3; whnf
  refine Sim.iteB (fun hc => ?_) (fun hc => ?_)
  · conv => arg 3; whnf
    refine Sim.goB hc ?_
    conv => arg 3; whnf
    refine Sim.goB hc ?_
    conv => arg 3; whnf
    refine Sim.goB hc ?_
    conv => arg 3; whnf
    refine Sim.callR hR (l28_known_sim) ?_
    rintro r2 q rfl
    conv => arg 3; whnf
    exact Sim.ret ⟨_, rfl, rfl⟩
  · conv => arg 3; whnf
    refine Sim.goF hc ?_
    conv => arg 3; whnf
    refine Sim.callR hR (r28_Few_sim b0) ?_
    rintro r3 q rfl
    conv => arg 3; whnf
    refine Sim.goF hc ?_
    conv => arg 3; whnf
    refine Sim.goF hc ?_
    conv => arg 3; whnf
    refine Sim.iteB (fun hc2 => ?_) (fun hc2 => ?_)
    · conv => arg 3; whnf
      refine Sim.callR hR (l28_known_sim) ?_
      rintro r4 q rfl
      conv => arg 3; whnf
      exact Sim.ret ⟨_, rfl, rfl⟩
    · conv => arg 3; whnf
      refine Sim.callR hR (mem_Same_sim a0 b0) ?_
      rintro r5 q rfl
      conv => arg 3; whnf
      refine Sim.callR hR (r28_Same_sim a0 b0) ?_
      rintro r6 q rfl
      conv => arg 3; whnf
      refine Sim.iteB (fun hc3 => ?_) (fun hc3 => ?_)
      · conv => arg 3; whnf
        refine Sim.goB hc3 ?_
        conv => arg 3; whnf
        refine Sim.goB hc3 ?_
        conv => arg 3; whnf
        refine Sim.callR hR (mem_Same_sim a0 a0) ?_
        rintro r7 q rfl
        conv => arg 3; whnf
        refine Sim.goB hc3 ?_
        conv => arg 3; whnf
        refine Sim.iteB (fun hc4 => ?_) (fun hc4 => ?_)
        · conv => arg 3; whnf
          refine Sim.goB hc4 ?_
          conv => arg 3; whnf
          refine Sim.goB hc4 ?_
          conv => arg 3; whnf
          refine Sim.callR hR (mem_Same_sim a0 b0) ?_
          rintro r8 q rfl
          conv => arg 3; whnf
          refine Sim.goB hc4 ?_
          conv => arg 3; whnf
          refine Sim.goB hc4 ?_
          conv => arg 3; whnf
          refine Sim.goB hc4 ?_
          conv => arg 3; whnf
          refine Sim.callR hR (mem_Same_sim b0 a0) ?_
          rintro r9 q rfl
          conv => arg 3; whnf
          refine Sim.goB hc4 ?_
          conv => arg 3; whnf
          refine Sim.goB hc4 ?_
          conv => arg 3; whnf
          refine Sim.iteB (fun hc5 => ?_) (fun hc5 => ?_)
          · conv => arg 3; whnf
            refine Sim.goB hc5 ?_
            conv => arg 3; whnf
            refine Sim.goB hc5 ?_
            conv => arg 3; whnf
            refine Sim.callR hR (mem_Well_sim c0 a0) ?_
            rintro r10 q rfl
            conv => arg 3; whnf
            refine Sim.goB hc5 ?_
            conv => arg 3; whnf
            refine Sim.goB hc5 ?_
            conv => arg 3; whnf
            refine Sim.goB hc5 ?_
            conv => arg 3; whnf
            refine Sim.callR hR (r28_Well_sim c0 a0) ?_
            rintro r11 q rfl
            conv => arg 3; whnf
            refine Sim.goB hc5 ?_
            conv => arg 3; whnf
            refine Sim.goB hc5 ?_
            conv => arg 3; whnf
            refine Sim.iteB (fun hc6 => ?_) (fun hc6 => ?_)
            · conv => arg 3; whnf
              refine Sim.callR hR (l28_known_sim) ?_
              rintro r12 q rfl
              conv => arg 3; whnf
              refine Sim.goB hc6 ?_
              conv => arg 3; whnf
              exact Sim.ret ⟨_, rfl, rfl⟩
            · conv => arg 3; whnf
              refine Sim.goF hc6 ?_
              conv => arg 3; whnf
              exact Sim.ret ⟨_, rfl, rfl⟩
          · conv => arg 3; whnf
            refine Sim.goF hc5 ?_
            conv => arg 3; whnf
            refine Sim.goF hc5 ?_
            conv => arg 3; whnf
            refine Sim.goF hc5 ?_
            conv => arg 3; whnf
            refine Sim.goF hc5 ?_
            conv => arg 3; whnf
            refine Sim.goF hc5 ?_
            conv => arg 3; whnf
            refine Sim.goF hc5 ?_
            conv => arg 3; whnf
            refine Sim.goF hc5 ?_
            conv => arg 3; whnf
            exact Sim.ret ⟨_, rfl, rfl⟩
        · conv => arg 3; whnf
          refine Sim.goF hc4 ?_
          conv => arg 3; whnf
          refine Sim.goF hc4 ?_
          conv => arg 3; whnf
          refine Sim.goF hc4 ?_
          conv => arg 3; whnf
          refine Sim.goF hc4 ?_
          conv => arg 3; whnf
          refine Sim.goF hc4 ?_
          conv => arg 3; whnf
          refine Sim.goF hc4 ?_
          conv => arg 3; whnf
          refine Sim.goF hc4 ?_
          conv => arg 3; whnf
          exact Sim.ret ⟨_, rfl, rfl⟩
      · conv => arg 3; whnf
        refine Sim.goF hc3 ?_
        conv => arg 3; whnf
        refine Sim.goF hc3 ?_
        conv => arg 3; whnf
        refine Sim.goF hc3 ?_
        conv => arg 3; whnf
        exact Sim.ret ⟨_, rfl, rfl⟩
noncomputable def l28_MemTwice (L0 : GConf) (i0 : GMem) (s0 : List UInt8) : Option Bool :=
  (r03_Plain L0).bind fun r0 =>
  if r0 ≠ 0 then
    (mem_Well (GConf.mk 0 0 0 0 0 0 0 0 0 0 ([] : List Int)) i0).bind fun r2 =>
    if (!r2) = true then
      (l28_known).bind fun r3 =>
      some r3
    else
      some false
  else
    (r28_Few i0).bind fun r4 =>
    if (!r4) = true then
      (mem_Well (GConf.mk 0 0 0 0 0 0 0 0 0 0 ([] : List Int)) i0).bind fun r5 =>
      if (!r5) = true then
        (l28_known).bind fun r6 =>
        some r6
      else
        some false
    else
      (mem_Mend L0 i0).bind fun r7 =>
      (mem_Well L0 r7).bind fun r8 =>
      if (!r8) = true then
        some false
      else
        (mem_Mend L0 r7).bind fun r9 =>
        (r28_Same r9 r7).bind fun r10 =>
        if (!r10) = true then
          some false
        else
          (mem_Blank L0).bind fun r11 =>
          (mem_Well L0 r11).bind fun r12 =>
          if (!r12) = true then
            some false
          else
            (mem_Well L0 i0).bind fun r13 =>
            if r13 = true then
              (r28_Same r7 i0).bind fun r14 =>
              if (!r14) = true then
                some false
              else
                (mem_Host L0 r7 s0).bind fun r15 =>
                if ((decide (r15.2 = 0)) == (decide ((List.length s0 : Int) ≤ 16))) = true then
                  if r15.2 ≠ 0 then
                    (l28_known).bind fun r16 =>
                    some r16
                  else
                    (mem_Well L0 r15.1).bind fun r17 =>
                    if r17 = true then
                      if r15.1.Out = s0 then
                        (l28_known).bind fun r18 =>
                        some r18
                      else
                        some false
                    else
                      some false
                else
                  some false
            else
              (mem_Host L0 r7 s0).bind fun r19 =>
              if ((decide (r19.2 = 0)) == (decide ((List.length s0 : Int) ≤ 16))) = true then
                if r19.2 ≠ 0 then
                  (l28_known).bind fun r20 =>
                  some r20
                else
                  (mem_Well L0 r19.1).bind fun r21 =>
                  if r21 = true then
                    if r19.1.Out = s0 then
                      (l28_known).bind fun r22 =>
                      some r22
                    else
                      some false
                  else
                    some false
              else
                some false
theorem l28_MemTwice_sim (L0 : GConf) (i0 : GMem) (s0 : List UInt8) : Sim (l28_MemTwice L0 i0 s0) (Gv fun r q => q = (.bool r, [])) (LM.call n_l28_MemTwice [.agg [.int .i64 L0.N, .int .i64 L0.F, .int .i64 L0.D, .int .i64 L0.Period, .int .i64 L0.Rate, .int .i64 L0.Drift, .int .i64 L0.Offset, .int .i64 L0.Slot, .int .i64 L0.Mod, .int .i64 L0.Fresh, .lst .no (List.map iav L0.Table)], .agg [.int .i64 i0.Clock, .int .i64 i0.Anchor, .int .i64 i0.Since, .str i0.Pipe, .int .i64 i0.Age, .str i0.Vec, .str i0.Agreed, .int .i64 i0.Number, .int .i64 i0.Regular, .str i0.Members, .str i0.Seen, .str i0.Heard, .str i0.Sent, .str i0.Out, .str i0.Line, .lst .no (List.map GPort.av i0.Ports), .lst .no (List.map sav i0.Hold), .lst .no (List.map GEntry.av i0.Log), .int .i64 i0.Diag.a0, .int .i64 i0.Diag.a1, .int .i64 i0.Diag.a2, .int .i64 i0.Diag.a3, .int .i64 i0.Diag.a4, .int .i64 i0.Diag.a5], .str s0] []) := by
  unfold l28_MemTwice
  refine sim_evR M XE rfl rfl fun S hS hw hw8 R hR => ?_
  conv => arg 3; whnf
  refine Sim.callR hR (r03_Plain_sim L0) ?_
  rintro r0 q rfl
  conv => arg 3; whnf
  refine Sim.ite Iff.rfl (fun hc => ?_) (fun hc => ?_)
  · conv => arg 3; whnf
    refine Sim.goB (decide_eq_true hc) ?_
    conv => arg 3; whnf
    refine Sim.goB (decide_eq_true hc) ?_
    conv => arg 3; whnf
    refine Sim.goB (decide_eq_true hc) ?_
    conv => arg 3; whnf
    refine Sim.callR hR (mem_Well_sim (GConf.mk 0 0 0 0 0 0 0 0 0 0 ([] : List Int)) i0) ?_
    rintro r2 q rfl
    conv => arg 3; whnf
    refine Sim.iteB (fun hc2 => ?_) (fun hc2 => ?_)
    · conv => arg 3; whnf
      refine Sim.callR hR (l28_known_sim) ?_
      rintro r3 q rfl
      conv => arg 3; whnf
      refine Sim.goB hc2 ?_
      conv => arg 3; whnf
      exact Sim.ret ⟨_, rfl, rfl⟩
    · conv => arg 3; whnf
      refine Sim.goF hc2 ?_
      conv => arg 3; whnf
      exact Sim.ret ⟨_, rfl, rfl⟩
  · conv => arg 3; whnf
    refine Sim.goF (decide_eq_false hc) ?_
    conv => arg 3; whnf
    refine Sim.callR hR (r28_Few_sim i0) ?_
    rintro r4 q rfl
    conv => arg 3; whnf
    refine Sim.goF (decide_eq_false hc) ?_
    conv => arg 3; whnf
    refine Sim.goF (decide_eq_false hc) ?_
    conv => arg 3; whnf
    refine Sim.iteB (fun hc3 => ?_) (fun hc3 => ?_)
    · conv => arg 3; whnf
      refine Sim.callR hR (mem_Well_sim (GConf.mk 0 0 0 0 0 0 0 0 0 0 ([] : List Int)) i0) ?_
      rintro r5 q rfl
      conv => arg 3; whnf
      refine Sim.iteB (fun hc4 => ?_) (fun hc4 => ?_)
      · conv => arg 3; whnf
        refine Sim.callR hR (l28_known_sim) ?_
        rintro r6 q rfl
        conv => arg 3; whnf
        refine Sim.goB hc4 ?_
        conv => arg 3; whnf
        exact Sim.ret ⟨_, rfl, rfl⟩
      · conv => arg 3; whnf
        refine Sim.goF hc4 ?_
        conv => arg 3; whnf
        exact Sim.ret ⟨_, rfl, rfl⟩
    · conv => arg 3; whnf
      refine Sim.callR hR (mem_Mend_sim L0 i0) ?_
      rintro r7 q rfl
      conv => arg 3; whnf
      refine Sim.callR hR (mem_Well_sim L0 r7) ?_
      rintro r8 q rfl
      conv => arg 3; whnf
      refine Sim.iteB (fun hc5 => ?_) (fun hc5 => ?_)
      · conv => arg 3; whnf
        refine Sim.goB hc5 ?_
        conv => arg 3; whnf
        refine Sim.goB hc5 ?_
        conv => arg 3; whnf
        refine Sim.goB hc5 ?_
        conv => arg 3; whnf
        refine Sim.goB hc5 ?_
        conv => arg 3; whnf
        refine Sim.goB hc5 ?_
        conv => arg 3; whnf
        refine Sim.goB hc5 ?_
        conv => arg 3; whnf
        exact Sim.ret ⟨_, rfl, rfl⟩
      · conv => arg 3; whnf
        refine Sim.goF hc5 ?_
        conv => arg 3; whnf
        refine Sim.goF hc5 ?_
        conv => arg 3; whnf
        refine Sim.callR hR (mem_Mend_sim L0 r7) ?_
        rintro r9 q rfl
        conv => arg 3; whnf
        refine Sim.goF hc5 ?_
        conv => arg 3; whnf
        refine Sim.goF hc5 ?_
        conv => arg 3; whnf
        refine Sim.callR hR (r28_Same_sim r9 r7) ?_
        rintro r10 q rfl
        conv => arg 3; whnf
        refine Sim.goF hc5 ?_
        conv => arg 3; whnf
        refine Sim.goF hc5 ?_
        conv => arg 3; whnf
        refine Sim.iteB (fun hc6 => ?_) (fun hc6 => ?_)
        · conv => arg 3; whnf
          refine Sim.goB hc6 ?_
          conv => arg 3; whnf
          refine Sim.goB hc6 ?_
          conv => arg 3; whnf
          refine Sim.goB hc6 ?_
          conv => arg 3; whnf
          refine Sim.goB hc6 ?_
          conv => arg 3; whnf
          refine Sim.goB hc6 ?_
          conv => arg 3; whnf
          exact Sim.ret ⟨_, rfl, rfl⟩
        · conv => arg 3; whnf
          refine Sim.goF hc6 ?_
          conv => arg 3; whnf
          refine Sim.goF hc6 ?_
          conv => arg 3; whnf
          refine Sim.callR hR (mem_Blank_sim L0) ?_
          rintro r11 q rfl
          conv => arg 3; whnf
          refine Sim.goF hc6 ?_
          conv => arg 3; whnf
          refine Sim.callR hR (mem_Well_sim L0 r11) ?_
          rintro r12 q rfl
          conv => arg 3; whnf
          refine Sim.goF hc6 ?_
          conv => arg 3; whnf
          refine Sim.goF hc6 ?_
          conv => arg 3; whnf
          refine Sim.iteB (fun hc7 => ?_) (fun hc7 => ?_)
          · conv => arg 3; whnf
            refine Sim.goB hc7 ?_
            conv => arg 3; whnf
            refine Sim.goB hc7 ?_
            conv => arg 3; whnf
            refine Sim.goB hc7 ?_
            conv => arg 3; whnf
            refine Sim.goB hc7 ?_
            conv => arg 3; whnf
            refine Sim.goB hc7 ?_
            conv => arg 3; whnf
            exact Sim.ret ⟨_, rfl, rfl⟩
          · conv => arg 3; whnf
            refine Sim.goF hc7 ?_
            conv => arg 3; whnf
            refine Sim.goF hc7 ?_
            conv => arg 3; whnf
            refine Sim.callR hR (mem_Well_sim L0 i0) ?_
            rintro r13 q rfl
            conv => arg 3; whnf
            refine Sim.goF hc7 ?_
            conv => arg 3; whnf
            refine Sim.iteB (fun hc8 => ?_) (fun hc8 => ?_)
            · conv => arg 3; whnf
              refine Sim.goB hc8 ?_
              conv => arg 3; whnf
              refine Sim.goB hc8 ?_
              conv => arg 3; whnf
              refine Sim.callR hR (r28_Same_sim r7 i0) ?_
              rintro r14 q rfl
              conv => arg 3; whnf
              refine Sim.goB hc8 ?_
              conv => arg 3; whnf
              refine Sim.goF hc7 ?_
              conv => arg 3; whnf
              refine Sim.goB hc8 ?_
              conv => arg 3; whnf
              refine Sim.goF hc7 ?_
              conv => arg 3; whnf
              refine Sim.iteB (fun hc9 => ?_) (fun hc9 => ?_)
              · conv => arg 3; whnf
                exact Sim.ret ⟨_, rfl, rfl⟩
              · conv => arg 3; whnf
                refine Sim.callR hR (mem_Host_sim L0 r7 s0) ?_
                rintro r15 q rfl
                conv => arg 3; whnf
                refine Sim.iteB (fun hc10 => ?_) (fun hc10 => ?_)
                · conv => arg 3; whnf
                  refine Sim.goB hc10 ?_
                  conv => arg 3; whnf
                  refine Sim.goB hc10 ?_
                  conv => arg 3; whnf
                  refine Sim.ite Iff.rfl (fun hc11 => ?_) (fun hc11 => ?_)
                  · conv => arg 3; whnf
                    refine Sim.goB (decide_eq_true hc11) ?_
                    conv => arg 3; whnf
                    refine Sim.goB (decide_eq_true hc11) ?_
                    conv => arg 3; whnf
                    refine Sim.goB (decide_eq_true hc11) ?_
                    conv => arg 3; whnf
                    refine Sim.goB (decide_eq_true hc11) ?_
                    conv => arg 3; whnf
                    refine Sim.goB hc10 ?_
                    conv => arg 3; whnf
                    refine Sim.goB (decide_eq_true hc11) ?_
                    conv => arg 3; whnf
                    refine Sim.goB hc10 ?_
                    conv => arg 3; whnf
                    refine Sim.callR hR (l28_known_sim) ?_
                    rintro r16 q rfl
                    conv => arg 3; whnf
                    exact Sim.ret ⟨_, rfl, rfl⟩
                  · conv => arg 3; whnf
                    refine Sim.goF (decide_eq_false hc11) ?_
                    conv => arg 3; whnf
                    refine Sim.goF (decide_eq_false hc11) ?_
                    conv => arg 3; whnf
                    refine Sim.callR hR (mem_Well_sim L0 r15.1) ?_
                    rintro r17 q rfl
                    conv => arg 3; whnf
                    refine Sim.goF (decide_eq_false hc11) ?_
                    conv => arg 3; whnf
                    refine Sim.iteB (fun hc12 => ?_) (fun hc12 => ?_)
                    · conv => arg 3; whnf
                      refine Sim.goB hc12 ?_
                      conv => arg 3; whnf
                      refine Sim.goB hc12 ?_
                      conv => arg 3; whnf
                      refine Sim.goB hc12 ?_
                      conv => arg 3; whnf
                      refine Sim.goF (decide_eq_false hc11) ?_
                      conv => arg 3; whnf
                      refine Sim.goB hc12 ?_
                      conv => arg 3; whnf
                      refine Sim.goB hc10 ?_
                      conv => arg 3; whnf
                      refine Sim.goF (decide_eq_false hc11) ?_
                      conv => arg 3; whnf
                      refine Sim.goB hc10 ?_
                      conv => arg 3; whnf
                      refine Sim.ite Iff.rfl (fun hc13 => ?_) (fun hc13 => ?_)
                      · conv => arg 3; whnf
                        refine Sim.callR hR (l28_known_sim) ?_
                        rintro r18 q rfl
                        conv => arg 3; whnf
                        refine Sim.goB (decide_eq_true hc13) ?_
                        conv => arg 3; whnf
                        exact Sim.ret ⟨_, rfl, rfl⟩
                      · conv => arg 3; whnf
                        refine Sim.goF (decide_eq_false hc13) ?_
                        conv => arg 3; whnf
                        exact Sim.ret ⟨_, rfl, rfl⟩
                    · conv => arg 3; whnf
                      refine Sim.goF hc12 ?_
                      conv => arg 3; whnf
                      refine Sim.goF hc12 ?_
                      conv => arg 3; whnf
                      refine Sim.goF hc12 ?_
                      conv => arg 3; whnf
                      refine Sim.goF (decide_eq_false hc11) ?_
                      conv => arg 3; whnf
                      refine Sim.goF hc12 ?_
                      conv => arg 3; whnf
                      refine Sim.goB hc10 ?_
                      conv => arg 3; whnf
                      refine Sim.goF (decide_eq_false hc11) ?_
                      conv => arg 3; whnf
                      refine Sim.goB hc10 ?_
                      conv => arg 3; whnf
                      exact Sim.ret ⟨_, rfl, rfl⟩
                · conv => arg 3; whnf
                  refine Sim.goF hc10 ?_
                  conv => arg 3; whnf
                  refine Sim.goF hc10 ?_
                  conv => arg 3; whnf
                  refine Sim.goF hc10 ?_
                  conv => arg 3; whnf
                  refine Sim.goF hc10 ?_
                  conv => arg 3; whnf
                  exact Sim.ret ⟨_, rfl, rfl⟩
            · conv => arg 3; whnf
              refine Sim.goF hc8 ?_
              conv => arg 3; whnf
              refine Sim.goF hc8 ?_
              conv => arg 3; whnf
              refine Sim.goF hc8 ?_
              conv => arg 3; whnf
              refine Sim.goF hc7 ?_
              conv => arg 3; whnf
              refine Sim.goF hc8 ?_
              conv => arg 3; whnf
              refine Sim.goF hc7 ?_
              conv => arg 3; whnf
              refine Sim.callR hR (mem_Host_sim L0 r7 s0) ?_
              rintro r19 q rfl
              conv => arg 3; whnf
              refine Sim.iteB (fun hc14 => ?_) (fun hc14 => ?_)
              · conv => arg 3; whnf
                refine Sim.goB hc14 ?_
                conv => arg 3; whnf
                refine Sim.goB hc14 ?_
                conv => arg 3; whnf
                refine Sim.ite Iff.rfl (fun hc15 => ?_) (fun hc15 => ?_)
                · conv => arg 3; whnf
                  refine Sim.goB (decide_eq_true hc15) ?_
                  conv => arg 3; whnf
                  refine Sim.goB (decide_eq_true hc15) ?_
                  conv => arg 3; whnf
                  refine Sim.goB (decide_eq_true hc15) ?_
                  conv => arg 3; whnf
                  refine Sim.goB (decide_eq_true hc15) ?_
                  conv => arg 3; whnf
                  refine Sim.goB hc14 ?_
                  conv => arg 3; whnf
                  refine Sim.goB (decide_eq_true hc15) ?_
                  conv => arg 3; whnf
                  refine Sim.goB hc14 ?_
                  conv => arg 3; whnf
                  refine Sim.callR hR (l28_known_sim) ?_
                  rintro r20 q rfl
                  conv => arg 3; whnf
                  exact Sim.ret ⟨_, rfl, rfl⟩
                · conv => arg 3; whnf
                  refine Sim.goF (decide_eq_false hc15) ?_
                  conv => arg 3; whnf
                  refine Sim.goF (decide_eq_false hc15) ?_
                  conv => arg 3; whnf
                  refine Sim.callR hR (mem_Well_sim L0 r19.1) ?_
                  rintro r21 q rfl
                  conv => arg 3; whnf
                  refine Sim.goF (decide_eq_false hc15) ?_
                  conv => arg 3; whnf
                  refine Sim.iteB (fun hc16 => ?_) (fun hc16 => ?_)
                  · conv => arg 3; whnf
                    refine Sim.goB hc16 ?_
                    conv => arg 3; whnf
                    refine Sim.goB hc16 ?_
                    conv => arg 3; whnf
                    refine Sim.goB hc16 ?_
                    conv => arg 3; whnf
                    refine Sim.goF (decide_eq_false hc15) ?_
                    conv => arg 3; whnf
                    refine Sim.goB hc16 ?_
                    conv => arg 3; whnf
                    refine Sim.goB hc14 ?_
                    conv => arg 3; whnf
                    refine Sim.goF (decide_eq_false hc15) ?_
                    conv => arg 3; whnf
                    refine Sim.goB hc14 ?_
                    conv => arg 3; whnf
                    refine Sim.ite Iff.rfl (fun hc17 => ?_) (fun hc17 => ?_)
                    · conv => arg 3; whnf
                      refine Sim.callR hR (l28_known_sim) ?_
                      rintro r22 q rfl
                      conv => arg 3; whnf
                      refine Sim.goB (decide_eq_true hc17) ?_
                      conv => arg 3; whnf
                      exact Sim.ret ⟨_, rfl, rfl⟩
                    · conv => arg 3; whnf
                      refine Sim.goF (decide_eq_false hc17) ?_
                      conv => arg 3; whnf
                      exact Sim.ret ⟨_, rfl, rfl⟩
                  · conv => arg 3; whnf
                    refine Sim.goF hc16 ?_
                    conv => arg 3; whnf
                    refine Sim.goF hc16 ?_
                    conv => arg 3; whnf
                    refine Sim.goF hc16 ?_
                    conv => arg 3; whnf
                    refine Sim.goF (decide_eq_false hc15) ?_
                    conv => arg 3; whnf
                    refine Sim.goF hc16 ?_
                    conv => arg 3; whnf
                    refine Sim.goB hc14 ?_
                    conv => arg 3; whnf
                    refine Sim.goF (decide_eq_false hc15) ?_
                    conv => arg 3; whnf
                    refine Sim.goB hc14 ?_
                    conv => arg 3; whnf
                    exact Sim.ret ⟨_, rfl, rfl⟩
              · conv => arg 3; whnf
                refine Sim.goF hc14 ?_
                conv => arg 3; whnf
                refine Sim.goF hc14 ?_
                conv => arg 3; whnf
                refine Sim.goF hc14 ?_
                conv => arg 3; whnf
                refine Sim.goF hc14 ?_
                conv => arg 3; whnf
                exact Sim.ret ⟨_, rfl, rfl⟩
noncomputable def l28_lists_0_step (t2 : GMem) (s0 : GConf) (t0 : Int) : Option ((Int) ⊕ ((Bool) ⊕ (Unit))) :=
  if t0 < (List.length t2.Ports : Int) then
    (idx? t2.Ports t0).bind fun z0 =>
    if 16 < (List.length z0.Text : Int) then
      some (.inr (.inl false))
    else
      if z0.Cycle < 0 then
        some (.inr (.inl false))
      else
        if s0.Mod ≤ z0.Cycle then
          some (.inr (.inl false))
        else
          if z0.Age < 0 then
            some (.inr (.inl false))
          else
            if s0.Fresh < z0.Age then
              some (.inr (.inl false))
            else
              some (.inl (wr (t0 + 1)))
  else
    some (.inr (.inr ()))
noncomputable def l28_lists_0 (t2 : GMem) (s0 : GConf) (t0 : Int) : Option ((Bool) ⊕ (Unit)) :=
  loopO (fun s : Int => l28_lists_0_step t2 s0 s) t0
def l28_lists_0_rel (t2 : GMem) (s0 : GConf) (r : ((Bool) ⊕ (Unit))) (q : Ex × PF.St) : Prop := (fun r (q : Ex × PF.St) => Sum.elim (fun r => (fun r (q : Ex × PF.St) => q = (Ex.ret, ⟨[(2, .ptr 102 0), (3, .ptr 103 0), (4, .bool r)], [(103, ⟨true, [.int .i64 t2.Clock, .int .i64 t2.Anchor, .int .i64 t2.Since, .str t2.Pipe, .int .i64 t2.Age, .str t2.Vec, .str t2.Agreed, .int .i64 t2.Number, .int .i64 t2.Regular, .str t2.Members, .str t2.Seen, .str t2.Heard, .str t2.Sent, .str t2.Out, .str t2.Line, .lst .no (List.map GPort.av t2.Ports), .lst .no (List.map sav t2.Hold), .lst .no (List.map GEntry.av t2.Log), .int .i64 t2.Diag.a0, .int .i64 t2.Diag.a1, .int .i64 t2.Diag.a2, .int .i64 t2.Diag.a3, .int .i64 t2.Diag.a4, .int .i64 t2.Diag.a5]⟩), (102, ⟨true, [.int .i64 s0.N, .int .i64 s0.F, .int .i64 s0.D, .int .i64 s0.Period, .int .i64 s0.Rate, .int .i64 s0.Drift, .int .i64 s0.Offset, .int .i64 s0.Slot, .int .i64 s0.Mod, .int .i64 s0.Fresh, .lst .no (List.map iav s0.Table)]⟩)]⟩)) r q) (fun r => (fun r (q : Ex × PF.St) => q = ((.exit 0), ⟨[(2, .ptr 102 0), (3, .ptr 103 0), (4, .undef)], [(103, ⟨true, [.int .i64 t2.Clock, .int .i64 t2.Anchor, .int .i64 t2.Since, .str t2.Pipe, .int .i64 t2.Age, .str t2.Vec, .str t2.Agreed, .int .i64 t2.Number, .int .i64 t2.Regular, .str t2.Members, .str t2.Seen, .str t2.Heard, .str t2.Sent, .str t2.Out, .str t2.Line, .lst .no (List.map GPort.av t2.Ports), .lst .no (List.map sav t2.Hold), .lst .no (List.map GEntry.av t2.Log), .int .i64 t2.Diag.a0, .int .i64 t2.Diag.a1, .int .i64 t2.Diag.a2, .int .i64 t2.Diag.a3, .int .i64 t2.Diag.a4, .int .i64 t2.Diag.a5]⟩), (102, ⟨true, [.int .i64 s0.N, .int .i64 s0.F, .int .i64 s0.D, .int .i64 s0.Period, .int .i64 s0.Rate, .int .i64 s0.Drift, .int .i64 s0.Offset, .int .i64 s0.Slot, .int .i64 s0.Mod, .int .i64 s0.Fresh, .lst .no (List.map iav s0.Table)]⟩)]⟩)) r q) r) r q
def l28_lists_0_inv (t2 : GMem) (s0 : GConf) (v : Int) (e : PF.St) : Prop := e = ⟨[(2, .ptr 102 0), (3, .ptr 103 0), (5, .int .i64 v)], [(103, ⟨true, [.int .i64 t2.Clock, .int .i64 t2.Anchor, .int .i64 t2.Since, .str t2.Pipe, .int .i64 t2.Age, .str t2.Vec, .str t2.Agreed, .int .i64 t2.Number, .int .i64 t2.Regular, .str t2.Members, .str t2.Seen, .str t2.Heard, .str t2.Sent, .str t2.Out, .str t2.Line, .lst .no (List.map GPort.av t2.Ports), .lst .no (List.map sav t2.Hold), .lst .no (List.map GEntry.av t2.Log), .int .i64 t2.Diag.a0, .int .i64 t2.Diag.a1, .int .i64 t2.Diag.a2, .int .i64 t2.Diag.a3, .int .i64 t2.Diag.a4, .int .i64 t2.Diag.a5]⟩), (102, ⟨true, [.int .i64 s0.N, .int .i64 s0.F, .int .i64 s0.D, .int .i64 s0.Period, .int .i64 s0.Rate, .int .i64 s0.Drift, .int .i64 s0.Offset, .int .i64 s0.Slot, .int .i64 s0.Mod, .int .i64 s0.Fresh, .lst .no (List.map iav s0.Table)]⟩)]⟩
theorem l28_lists_0_sim (t2 : GMem) (s0 : GConf) (t0 : Int) (s : PF.St) (hk : keep [2, 3, 5] [102, 103] s = some ⟨[(2, .ptr 102 0), (3, .ptr 103 0), (5, .int .i64 t0)], [(103, ⟨true, [.int .i64 t2.Clock, .int .i64 t2.Anchor, .int .i64 t2.Since, .str t2.Pipe, .int .i64 t2.Age, .str t2.Vec, .str t2.Agreed, .int .i64 t2.Number, .int .i64 t2.Regular, .str t2.Members, .str t2.Seen, .str t2.Heard, .str t2.Sent, .str t2.Out, .str t2.Line, .lst .no (List.map GPort.av t2.Ports), .lst .no (List.map sav t2.Hold), .lst .no (List.map GEntry.av t2.Log), .int .i64 t2.Diag.a0, .int .i64 t2.Diag.a1, .int .i64 t2.Diag.a2, .int .i64 t2.Diag.a3, .int .i64 t2.Diag.a4, .int .i64 t2.Diag.a5]⟩), (102, ⟨true, [.int .i64 s0.N, .int .i64 s0.F, .int .i64 s0.D, .int .i64 s0.Period, .int .i64 s0.Rate, .int .i64 s0.Drift, .int .i64 s0.Offset, .int .i64 s0.Slot, .int .i64 s0.Mod, .int .i64 s0.Fresh, .lst .no (List.map iav s0.Table)]⟩)]⟩) : Sim (l28_lists_0 t2 s0 t0) (Gv (l28_lists_0_rel t2 s0)) (LM.loop ([2, 3, 5], [102, 103], [2, 3, 4], B_l28_lists_0) s) := by
  refine sim_loop M XE (l28_lists_0_inv t2 s0) (l28_lists_0_rel t2 s0) ?_ _ _ _ hk rfl
  clear hk
  rintro S hS hw hw8 R hR t0 env hp he
  change (⟨env, hp⟩ : PF.St) = ⟨[(2, .ptr 102 0), (3, .ptr 103 0), (5, .int .i64 t0)], [(103, ⟨true, [.int .i64 t2.Clock, .int .i64 t2.Anchor, .int .i64 t2.Since, .str t2.Pipe, .int .i64 t2.Age, .str t2.Vec, .str t2.Agreed, .int .i64 t2.Number, .int .i64 t2.Regular, .str t2.Members, .str t2.Seen, .str t2.Heard, .str t2.Sent, .str t2.Out, .str t2.Line, .lst .no (List.map GPort.av t2.Ports), .lst .no (List.map sav t2.Hold), .lst .no (List.map GEntry.av t2.Log), .int .i64 t2.Diag.a0, .int .i64 t2.Diag.a1, .int .i64 t2.Diag.a2, .int .i64 t2.Diag.a3, .int .i64 t2.Diag.a4, .int .i64 t2.Diag.a5]⟩), (102, ⟨true, [.int .i64 s0.N, .int .i64 s0.F, .int .i64 s0.D, .int .i64 s0.Period, .int .i64 s0.Rate, .int .i64 s0.Drift, .int .i64 s0.Offset, .int .i64 s0.Slot, .int .i64 s0.Mod, .int .i64 s0.Fresh, .lst .no (List.map iav s0.Table)]⟩)]⟩ at he
  cases he
  show Sim (l28_lists_0_step t2 s0 t0) _ _
  unfold l28_lists_0_step
  simp only [hw]
  conv => arg 3; whnf
  refine Sim.ki hS (m := (List.length t2.Ports : Int)) (by simp) ?_
  conv => arg 3; whnf
  refine Sim.ite Iff.rfl (fun hc => ?_) (fun hc => ?_)
  · conv => arg 3; whnf
    refine Sim.ix (by simp) (fun z0 hz0 => ?_)
    conv => arg 3; whnf
    refine Sim.go (idx_map _ hz0) ?_
    conv => arg 3; whnf
    refine Sim.ite Iff.rfl (fun hc2 => ?_) (fun hc2 => ?_)
    · conv => arg 3; whnf
      refine Sim.goB (decide_eq_true hc2) ?_
      conv => arg 3; whnf
      refine Sim.goB (decide_eq_true hc2) ?_
      conv => arg 3; whnf
      refine Sim.goB (decide_eq_true hc2) ?_
      conv => arg 3; whnf
      exact Sim.ret ⟨_, rfl, rfl⟩
    · conv => arg 3; whnf
      refine Sim.goF (decide_eq_false hc2) ?_
      conv => arg 3; whnf
      refine Sim.goF (decide_eq_false hc2) ?_
      conv => arg 3; whnf
      refine Sim.goF (decide_eq_false hc2) ?_
      conv => arg 3; whnf
      refine Sim.ite Iff.rfl (fun hc3 => ?_) (fun hc3 => ?_)
      · conv => arg 3; whnf
        refine Sim.goB (decide_eq_true hc3) ?_
        conv => arg 3; whnf
        refine Sim.goB (decide_eq_true hc3) ?_
        conv => arg 3; whnf
        refine Sim.goB (decide_eq_true hc3) ?_
        conv => arg 3; whnf
        refine Sim.goB (decide_eq_true hc3) ?_
        conv => arg 3; whnf
        refine Sim.goB (decide_eq_true hc3) ?_
        conv => arg 3; whnf
        exact Sim.ret ⟨_, rfl, rfl⟩
      · conv => arg 3; whnf
        refine Sim.goF (decide_eq_false hc3) ?_
        conv => arg 3; whnf
        refine Sim.goF (decide_eq_false hc3) ?_
        conv => arg 3; whnf
        refine Sim.goF (decide_eq_false hc3) ?_
        conv => arg 3; whnf
        refine Sim.goF (decide_eq_false hc3) ?_
        conv => arg 3; whnf
        refine Sim.goF (decide_eq_false hc3) ?_
        conv => arg 3; whnf
        refine Sim.ite Iff.rfl (fun hc4 => ?_) (fun hc4 => ?_)
        · conv => arg 3; whnf
          refine Sim.goB (decide_eq_true hc4) ?_
          conv => arg 3; whnf
          refine Sim.goB (decide_eq_true hc4) ?_
          conv => arg 3; whnf
          refine Sim.goB (decide_eq_true hc4) ?_
          conv => arg 3; whnf
          exact Sim.ret ⟨_, rfl, rfl⟩
        · conv => arg 3; whnf
          refine Sim.goF (decide_eq_false hc4) ?_
          conv => arg 3; whnf
          refine Sim.goF (decide_eq_false hc4) ?_
          conv => arg 3; whnf
          refine Sim.goF (decide_eq_false hc4) ?_
          conv => arg 3; whnf
          refine Sim.ite Iff.rfl (fun hc5 => ?_) (fun hc5 => ?_)
          · conv => arg 3; whnf
            refine Sim.goB (decide_eq_true hc5) ?_
            conv => arg 3; whnf
            refine Sim.goB (decide_eq_true hc5) ?_
            conv => arg 3; whnf
            refine Sim.goB (decide_eq_true hc5) ?_
            conv => arg 3; whnf
            refine Sim.goB (decide_eq_true hc5) ?_
            conv => arg 3; whnf
            refine Sim.goB (decide_eq_true hc5) ?_
            conv => arg 3; whnf
            exact Sim.ret ⟨_, rfl, rfl⟩
          · conv => arg 3; whnf
            refine Sim.goF (decide_eq_false hc5) ?_
            conv => arg 3; whnf
            refine Sim.goF (decide_eq_false hc5) ?_
            conv => arg 3; whnf
            refine Sim.goF (decide_eq_false hc5) ?_
            conv => arg 3; whnf
            refine Sim.goF (decide_eq_false hc5) ?_
            conv => arg 3; whnf
            refine Sim.goF (decide_eq_false hc5) ?_
            conv => arg 3; whnf
            refine Sim.ite Iff.rfl (fun hc6 => ?_) (fun hc6 => ?_)
            · conv => arg 3; whnf
              exact Sim.ret ⟨_, rfl, rfl⟩
            · conv => arg 3; whnf
              exact Sim.ret ⟨_, _, rfl, rfl, rfl⟩
  · conv => arg 3; whnf
    exact Sim.ret ⟨_, rfl, rfl⟩
noncomputable def l28_lists_1_step (t3 : GMem) (s2 : GConf) (A0 : Int) : Option ((Int) ⊕ ((Bool) ⊕ (Unit))) :=
  if A0 < (List.length t3.Hold : Int) then
    (idx? t3.Hold A0).bind fun z2 =>
    if 40 < (List.length z2 : Int) then
      some (.inr (.inl false))
    else
      some (.inl (wr (A0 + 1)))
  else
    some (.inr (.inr ()))
noncomputable def l28_lists_1 (t3 : GMem) (s2 : GConf) (A0 : Int) : Option ((Bool) ⊕ (Unit)) :=
  loopO (fun s : Int => l28_lists_1_step t3 s2 s) A0
def l28_lists_1_rel (t3 : GMem) (s2 : GConf) (r : ((Bool) ⊕ (Unit))) (q : Ex × PF.St) : Prop := (fun r (q : Ex × PF.St) => Sum.elim (fun r => (fun r (q : Ex × PF.St) => q = (Ex.ret, ⟨[(2, .ptr 102 0), (3, .ptr 103 0), (4, .bool r)], [(103, ⟨true, [.int .i64 t3.Clock, .int .i64 t3.Anchor, .int .i64 t3.Since, .str t3.Pipe, .int .i64 t3.Age, .str t3.Vec, .str t3.Agreed, .int .i64 t3.Number, .int .i64 t3.Regular, .str t3.Members, .str t3.Seen, .str t3.Heard, .str t3.Sent, .str t3.Out, .str t3.Line, .lst .no (List.map GPort.av t3.Ports), .lst .no (List.map sav t3.Hold), .lst .no (List.map GEntry.av t3.Log), .int .i64 t3.Diag.a0, .int .i64 t3.Diag.a1, .int .i64 t3.Diag.a2, .int .i64 t3.Diag.a3, .int .i64 t3.Diag.a4, .int .i64 t3.Diag.a5]⟩), (102, ⟨true, [.int .i64 s2.N, .int .i64 s2.F, .int .i64 s2.D, .int .i64 s2.Period, .int .i64 s2.Rate, .int .i64 s2.Drift, .int .i64 s2.Offset, .int .i64 s2.Slot, .int .i64 s2.Mod, .int .i64 s2.Fresh, .lst .no (List.map iav s2.Table)]⟩)]⟩)) r q) (fun r => (fun r (q : Ex × PF.St) => q = ((.exit 2), ⟨[(2, .ptr 102 0), (3, .ptr 103 0), (4, .undef)], [(103, ⟨true, [.int .i64 t3.Clock, .int .i64 t3.Anchor, .int .i64 t3.Since, .str t3.Pipe, .int .i64 t3.Age, .str t3.Vec, .str t3.Agreed, .int .i64 t3.Number, .int .i64 t3.Regular, .str t3.Members, .str t3.Seen, .str t3.Heard, .str t3.Sent, .str t3.Out, .str t3.Line, .lst .no (List.map GPort.av t3.Ports), .lst .no (List.map sav t3.Hold), .lst .no (List.map GEntry.av t3.Log), .int .i64 t3.Diag.a0, .int .i64 t3.Diag.a1, .int .i64 t3.Diag.a2, .int .i64 t3.Diag.a3, .int .i64 t3.Diag.a4, .int .i64 t3.Diag.a5]⟩), (102, ⟨true, [.int .i64 s2.N, .int .i64 s2.F, .int .i64 s2.D, .int .i64 s2.Period, .int .i64 s2.Rate, .int .i64 s2.Drift, .int .i64 s2.Offset, .int .i64 s2.Slot, .int .i64 s2.Mod, .int .i64 s2.Fresh, .lst .no (List.map iav s2.Table)]⟩)]⟩)) r q) r) r q
def l28_lists_1_inv (t3 : GMem) (s2 : GConf) (v : Int) (e : PF.St) : Prop := e = ⟨[(2, .ptr 102 0), (3, .ptr 103 0), (7, .int .i64 v)], [(103, ⟨true, [.int .i64 t3.Clock, .int .i64 t3.Anchor, .int .i64 t3.Since, .str t3.Pipe, .int .i64 t3.Age, .str t3.Vec, .str t3.Agreed, .int .i64 t3.Number, .int .i64 t3.Regular, .str t3.Members, .str t3.Seen, .str t3.Heard, .str t3.Sent, .str t3.Out, .str t3.Line, .lst .no (List.map GPort.av t3.Ports), .lst .no (List.map sav t3.Hold), .lst .no (List.map GEntry.av t3.Log), .int .i64 t3.Diag.a0, .int .i64 t3.Diag.a1, .int .i64 t3.Diag.a2, .int .i64 t3.Diag.a3, .int .i64 t3.Diag.a4, .int .i64 t3.Diag.a5]⟩), (102, ⟨true, [.int .i64 s2.N, .int .i64 s2.F, .int .i64 s2.D, .int .i64 s2.Period, .int .i64 s2.Rate, .int .i64 s2.Drift, .int .i64 s2.Offset, .int .i64 s2.Slot, .int .i64 s2.Mod, .int .i64 s2.Fresh, .lst .no (List.map iav s2.Table)]⟩)]⟩
theorem l28_lists_1_sim (t3 : GMem) (s2 : GConf) (A0 : Int) (s : PF.St) (hk : keep [2, 3, 7] [102, 103] s = some ⟨[(2, .ptr 102 0), (3, .ptr 103 0), (7, .int .i64 A0)], [(103, ⟨true, [.int .i64 t3.Clock, .int .i64 t3.Anchor, .int .i64 t3.Since, .str t3.Pipe, .int .i64 t3.Age, .str t3.Vec, .str t3.Agreed, .int .i64 t3.Number, .int .i64 t3.Regular, .str t3.Members, .str t3.Seen, .str t3.Heard, .str t3.Sent, .str t3.Out, .str t3.Line, .lst .no (List.map GPort.av t3.Ports), .lst .no (List.map sav t3.Hold), .lst .no (List.map GEntry.av t3.Log), .int .i64 t3.Diag.a0, .int .i64 t3.Diag.a1, .int .i64 t3.Diag.a2, .int .i64 t3.Diag.a3, .int .i64 t3.Diag.a4, .int .i64 t3.Diag.a5]⟩), (102, ⟨true, [.int .i64 s2.N, .int .i64 s2.F, .int .i64 s2.D, .int .i64 s2.Period, .int .i64 s2.Rate, .int .i64 s2.Drift, .int .i64 s2.Offset, .int .i64 s2.Slot, .int .i64 s2.Mod, .int .i64 s2.Fresh, .lst .no (List.map iav s2.Table)]⟩)]⟩) : Sim (l28_lists_1 t3 s2 A0) (Gv (l28_lists_1_rel t3 s2)) (LM.loop ([2, 3, 7], [102, 103], [2, 3, 4], B_l28_lists_1) s) := by
  refine sim_loop M XE (l28_lists_1_inv t3 s2) (l28_lists_1_rel t3 s2) ?_ _ _ _ hk rfl
  clear hk
  rintro S hS hw hw8 R hR A0 env hp he
  change (⟨env, hp⟩ : PF.St) = ⟨[(2, .ptr 102 0), (3, .ptr 103 0), (7, .int .i64 A0)], [(103, ⟨true, [.int .i64 t3.Clock, .int .i64 t3.Anchor, .int .i64 t3.Since, .str t3.Pipe, .int .i64 t3.Age, .str t3.Vec, .str t3.Agreed, .int .i64 t3.Number, .int .i64 t3.Regular, .str t3.Members, .str t3.Seen, .str t3.Heard, .str t3.Sent, .str t3.Out, .str t3.Line, .lst .no (List.map GPort.av t3.Ports), .lst .no (List.map sav t3.Hold), .lst .no (List.map GEntry.av t3.Log), .int .i64 t3.Diag.a0, .int .i64 t3.Diag.a1, .int .i64 t3.Diag.a2, .int .i64 t3.Diag.a3, .int .i64 t3.Diag.a4, .int .i64 t3.Diag.a5]⟩), (102, ⟨true, [.int .i64 s2.N, .int .i64 s2.F, .int .i64 s2.D, .int .i64 s2.Period, .int .i64 s2.Rate, .int .i64 s2.Drift, .int .i64 s2.Offset, .int .i64 s2.Slot, .int .i64 s2.Mod, .int .i64 s2.Fresh, .lst .no (List.map iav s2.Table)]⟩)]⟩ at he
  cases he
  show Sim (l28_lists_1_step t3 s2 A0) _ _
  unfold l28_lists_1_step
  simp only [hw]
  conv => arg 3; whnf
  refine Sim.ki hS (m := (List.length t3.Hold : Int)) (by simp) ?_
  conv => arg 3; whnf
  refine Sim.ite Iff.rfl (fun hc7 => ?_) (fun hc7 => ?_)
  · conv => arg 3; whnf
    refine Sim.ix (by simp) (fun z2 hz2 => ?_)
    conv => arg 3; whnf
    refine Sim.go (idx_map _ hz2) ?_
    conv => arg 3; whnf
    refine Sim.ite Iff.rfl (fun hc8 => ?_) (fun hc8 => ?_)
    · conv => arg 3; whnf
      exact Sim.ret ⟨_, rfl, rfl⟩
    · conv => arg 3; whnf
      exact Sim.ret ⟨_, _, rfl, rfl, rfl⟩
  · conv => arg 3; whnf
    exact Sim.ret ⟨_, rfl, rfl⟩
noncomputable def l28_lists_2_step (t4 : GMem) (s3 : GConf) (r7 : Int) : Option ((Int) ⊕ ((Bool) ⊕ (Unit))) :=
  if r7 < (List.length t4.Log : Int) then
    (idx? t4.Log r7).bind fun z3 =>
    if z3.From < 0 then
      some (.inr (.inl false))
    else
      (idx? t4.Log r7).bind fun z4 =>
      if s3.N ≤ z4.From then
        some (.inr (.inl false))
      else
        (idx? t4.Log r7).bind fun z5 =>
        if z5.At < 0 then
          some (.inr (.inl false))
        else
          (idx? t4.Log r7).bind fun z6 =>
          if 65536 ≤ z6.At then
            some (.inr (.inl false))
          else
            some (.inl (wr (r7 + 1)))
  else
    some (.inr (.inr ()))
noncomputable def l28_lists_2 (t4 : GMem) (s3 : GConf) (r7 : Int) : Option ((Bool) ⊕ (Unit)) :=
  loopO (fun s : Int => l28_lists_2_step t4 s3 s) r7
def l28_lists_2_rel (t4 : GMem) (s3 : GConf) (r : ((Bool) ⊕ (Unit))) (q : Ex × PF.St) : Prop := (fun r (q : Ex × PF.St) => Sum.elim (fun r => (fun r (q : Ex × PF.St) => q = (Ex.ret, ⟨[(3, .ptr 103 0), (4, .bool r)], [(103, ⟨true, [.int .i64 t4.Clock, .int .i64 t4.Anchor, .int .i64 t4.Since, .str t4.Pipe, .int .i64 t4.Age, .str t4.Vec, .str t4.Agreed, .int .i64 t4.Number, .int .i64 t4.Regular, .str t4.Members, .str t4.Seen, .str t4.Heard, .str t4.Sent, .str t4.Out, .str t4.Line, .lst .no (List.map GPort.av t4.Ports), .lst .no (List.map sav t4.Hold), .lst .no (List.map GEntry.av t4.Log), .int .i64 t4.Diag.a0, .int .i64 t4.Diag.a1, .int .i64 t4.Diag.a2, .int .i64 t4.Diag.a3, .int .i64 t4.Diag.a4, .int .i64 t4.Diag.a5]⟩), (102, ⟨true, [.int .i64 s3.N, .int .i64 s3.F, .int .i64 s3.D, .int .i64 s3.Period, .int .i64 s3.Rate, .int .i64 s3.Drift, .int .i64 s3.Offset, .int .i64 s3.Slot, .int .i64 s3.Mod, .int .i64 s3.Fresh, .lst .no (List.map iav s3.Table)]⟩)]⟩)) r q) (fun r => (fun r (q : Ex × PF.St) => q = ((.exit 4), ⟨[(3, .ptr 103 0), (4, .undef)], [(103, ⟨true, [.int .i64 t4.Clock, .int .i64 t4.Anchor, .int .i64 t4.Since, .str t4.Pipe, .int .i64 t4.Age, .str t4.Vec, .str t4.Agreed, .int .i64 t4.Number, .int .i64 t4.Regular, .str t4.Members, .str t4.Seen, .str t4.Heard, .str t4.Sent, .str t4.Out, .str t4.Line, .lst .no (List.map GPort.av t4.Ports), .lst .no (List.map sav t4.Hold), .lst .no (List.map GEntry.av t4.Log), .int .i64 t4.Diag.a0, .int .i64 t4.Diag.a1, .int .i64 t4.Diag.a2, .int .i64 t4.Diag.a3, .int .i64 t4.Diag.a4, .int .i64 t4.Diag.a5]⟩), (102, ⟨true, [.int .i64 s3.N, .int .i64 s3.F, .int .i64 s3.D, .int .i64 s3.Period, .int .i64 s3.Rate, .int .i64 s3.Drift, .int .i64 s3.Offset, .int .i64 s3.Slot, .int .i64 s3.Mod, .int .i64 s3.Fresh, .lst .no (List.map iav s3.Table)]⟩)]⟩)) r q) r) r q
def l28_lists_2_inv (t4 : GMem) (s3 : GConf) (v : Int) (e : PF.St) : Prop := e = ⟨[(2, .ptr 102 0), (3, .ptr 103 0), (8, .int .i64 v)], [(103, ⟨true, [.int .i64 t4.Clock, .int .i64 t4.Anchor, .int .i64 t4.Since, .str t4.Pipe, .int .i64 t4.Age, .str t4.Vec, .str t4.Agreed, .int .i64 t4.Number, .int .i64 t4.Regular, .str t4.Members, .str t4.Seen, .str t4.Heard, .str t4.Sent, .str t4.Out, .str t4.Line, .lst .no (List.map GPort.av t4.Ports), .lst .no (List.map sav t4.Hold), .lst .no (List.map GEntry.av t4.Log), .int .i64 t4.Diag.a0, .int .i64 t4.Diag.a1, .int .i64 t4.Diag.a2, .int .i64 t4.Diag.a3, .int .i64 t4.Diag.a4, .int .i64 t4.Diag.a5]⟩), (102, ⟨true, [.int .i64 s3.N, .int .i64 s3.F, .int .i64 s3.D, .int .i64 s3.Period, .int .i64 s3.Rate, .int .i64 s3.Drift, .int .i64 s3.Offset, .int .i64 s3.Slot, .int .i64 s3.Mod, .int .i64 s3.Fresh, .lst .no (List.map iav s3.Table)]⟩)]⟩
theorem l28_lists_2_sim (t4 : GMem) (s3 : GConf) (r7 : Int) (s : PF.St) (hk : keep [2, 3, 8] [102, 103] s = some ⟨[(2, .ptr 102 0), (3, .ptr 103 0), (8, .int .i64 r7)], [(103, ⟨true, [.int .i64 t4.Clock, .int .i64 t4.Anchor, .int .i64 t4.Since, .str t4.Pipe, .int .i64 t4.Age, .str t4.Vec, .str t4.Agreed, .int .i64 t4.Number, .int .i64 t4.Regular, .str t4.Members, .str t4.Seen, .str t4.Heard, .str t4.Sent, .str t4.Out, .str t4.Line, .lst .no (List.map GPort.av t4.Ports), .lst .no (List.map sav t4.Hold), .lst .no (List.map GEntry.av t4.Log), .int .i64 t4.Diag.a0, .int .i64 t4.Diag.a1, .int .i64 t4.Diag.a2, .int .i64 t4.Diag.a3, .int .i64 t4.Diag.a4, .int .i64 t4.Diag.a5]⟩), (102, ⟨true, [.int .i64 s3.N, .int .i64 s3.F, .int .i64 s3.D, .int .i64 s3.Period, .int .i64 s3.Rate, .int .i64 s3.Drift, .int .i64 s3.Offset, .int .i64 s3.Slot, .int .i64 s3.Mod, .int .i64 s3.Fresh, .lst .no (List.map iav s3.Table)]⟩)]⟩) : Sim (l28_lists_2 t4 s3 r7) (Gv (l28_lists_2_rel t4 s3)) (LM.loop ([2, 3, 8], [102, 103], [3, 4], B_l28_lists_2) s) := by
  refine sim_loop M XE (l28_lists_2_inv t4 s3) (l28_lists_2_rel t4 s3) ?_ _ _ _ hk rfl
  clear hk
  rintro S hS hw hw8 R hR r7 env hp he
  change (⟨env, hp⟩ : PF.St) = ⟨[(2, .ptr 102 0), (3, .ptr 103 0), (8, .int .i64 r7)], [(103, ⟨true, [.int .i64 t4.Clock, .int .i64 t4.Anchor, .int .i64 t4.Since, .str t4.Pipe, .int .i64 t4.Age, .str t4.Vec, .str t4.Agreed, .int .i64 t4.Number, .int .i64 t4.Regular, .str t4.Members, .str t4.Seen, .str t4.Heard, .str t4.Sent, .str t4.Out, .str t4.Line, .lst .no (List.map GPort.av t4.Ports), .lst .no (List.map sav t4.Hold), .lst .no (List.map GEntry.av t4.Log), .int .i64 t4.Diag.a0, .int .i64 t4.Diag.a1, .int .i64 t4.Diag.a2, .int .i64 t4.Diag.a3, .int .i64 t4.Diag.a4, .int .i64 t4.Diag.a5]⟩), (102, ⟨true, [.int .i64 s3.N, .int .i64 s3.F, .int .i64 s3.D, .int .i64 s3.Period, .int .i64 s3.Rate, .int .i64 s3.Drift, .int .i64 s3.Offset, .int .i64 s3.Slot, .int .i64 s3.Mod, .int .i64 s3.Fresh, .lst .no (List.map iav s3.Table)]⟩)]⟩ at he
  cases he
  show Sim (l28_lists_2_step t4 s3 r7) _ _
  unfold l28_lists_2_step
  simp only [hw]
  conv => arg 3; whnf
  refine Sim.ki hS (m := (List.length t4.Log : Int)) (by simp) ?_
  conv => arg 3; whnf
  refine Sim.ite Iff.rfl (fun hc9 => ?_) (fun hc9 => ?_)
  · conv => arg 3; whnf
    refine Sim.ix (by simp) (fun z3 hz3 => ?_)
    conv => arg 3; whnf
    refine Sim.go (idx_map _ hz3) ?_
    conv => arg 3; whnf
    refine Sim.ite Iff.rfl (fun hc10 => ?_) (fun hc10 => ?_)
    · conv => arg 3; whnf
      refine Sim.goB (decide_eq_true hc10) ?_
      conv => arg 3; whnf
      refine Sim.goB (decide_eq_true hc10) ?_
      conv => arg 3; whnf
      refine Sim.goB (decide_eq_true hc10) ?_
      conv => arg 3; whnf
      refine Sim.goB (decide_eq_true hc10) ?_
      conv => arg 3; whnf
      refine Sim.goB (decide_eq_true hc10) ?_
      conv => arg 3; whnf
      refine Sim.goB (decide_eq_true hc10) ?_
      conv => arg 3; whnf
      refine Sim.goB (decide_eq_true hc10) ?_
      conv => arg 3; whnf
      refine Sim.goB (decide_eq_true hc10) ?_
      conv => arg 3; whnf
      refine Sim.goB (decide_eq_true hc10) ?_
      conv => arg 3; whnf
      exact Sim.ret ⟨_, rfl, rfl⟩
    · conv => arg 3; whnf
      refine Sim.goF (decide_eq_false hc10) ?_
      conv => arg 3; whnf
      refine Sim.goF (decide_eq_false hc10) ?_
      conv => arg 3; whnf
      refine Sim.goF (decide_eq_false hc10) ?_
      conv => arg 3; whnf
      refine Sim.ix (by simp) (fun z4 hz4 => ?_)
      conv => arg 3; whnf
      refine Sim.go (idx_map _ hz4) ?_
      conv => arg 3; whnf
      refine Sim.goF (decide_eq_false hc10) ?_
      conv => arg 3; whnf
      refine Sim.goF (decide_eq_false hc10) ?_
      conv => arg 3; whnf
      refine Sim.goF (decide_eq_false hc10) ?_
      conv => arg 3; whnf
      refine Sim.goF (decide_eq_false hc10) ?_
      conv => arg 3; whnf
      refine Sim.goF (decide_eq_false hc10) ?_
      conv => arg 3; whnf
      refine Sim.goF (decide_eq_false hc10) ?_
      conv => arg 3; whnf
      refine Sim.ite Iff.rfl (fun hc11 => ?_) (fun hc11 => ?_)
      · conv => arg 3; whnf
        refine Sim.goB (decide_eq_true hc11) ?_
        conv => arg 3; whnf
        refine Sim.goB (decide_eq_true hc11) ?_
        conv => arg 3; whnf
        refine Sim.goB (decide_eq_true hc11) ?_
        conv => arg 3; whnf
        refine Sim.goB (decide_eq_true hc11) ?_
        conv => arg 3; whnf
        refine Sim.goB (decide_eq_true hc11) ?_
        conv => arg 3; whnf
        refine Sim.goB (decide_eq_true hc11) ?_
        conv => arg 3; whnf
        refine Sim.goB (decide_eq_true hc11) ?_
        conv => arg 3; whnf
        exact Sim.ret ⟨_, rfl, rfl⟩
      · conv => arg 3; whnf
        refine Sim.goF (decide_eq_false hc11) ?_
        conv => arg 3; whnf
        refine Sim.goF (decide_eq_false hc11) ?_
        conv => arg 3; whnf
        refine Sim.goF (decide_eq_false hc11) ?_
        conv => arg 3; whnf
        refine Sim.ix (by simp) (fun z5 hz5 => ?_)
        conv => arg 3; whnf
        refine Sim.go (idx_map _ hz5) ?_
        conv => arg 3; whnf
        refine Sim.goF (decide_eq_false hc11) ?_
        conv => arg 3; whnf
        refine Sim.goF (decide_eq_false hc11) ?_
        conv => arg 3; whnf
        refine Sim.goF (decide_eq_false hc11) ?_
        conv => arg 3; whnf
        refine Sim.goF (decide_eq_false hc11) ?_
        conv => arg 3; whnf
        refine Sim.ite Iff.rfl (fun hc12 => ?_) (fun hc12 => ?_)
        · conv => arg 3; whnf
          refine Sim.goB (decide_eq_true hc12) ?_
          conv => arg 3; whnf
          refine Sim.goB (decide_eq_true hc12) ?_
          conv => arg 3; whnf
          refine Sim.goB (decide_eq_true hc12) ?_
          conv => arg 3; whnf
          refine Sim.goB (decide_eq_true hc12) ?_
          conv => arg 3; whnf
          refine Sim.goB (decide_eq_true hc12) ?_
          conv => arg 3; whnf
          refine Sim.goB (decide_eq_true hc12) ?_
          conv => arg 3; whnf
          refine Sim.goB (decide_eq_true hc12) ?_
          conv => arg 3; whnf
          exact Sim.ret ⟨_, rfl, rfl⟩
        · conv => arg 3; whnf
          refine Sim.goF (decide_eq_false hc12) ?_
          conv => arg 3; whnf
          refine Sim.goF (decide_eq_false hc12) ?_
          conv => arg 3; whnf
          refine Sim.goF (decide_eq_false hc12) ?_
          conv => arg 3; whnf
          refine Sim.ix (by simp) (fun z6 hz6 => ?_)
          conv => arg 3; whnf
          refine Sim.go (idx_map _ hz6) ?_
          conv => arg 3; whnf
          refine Sim.goF (decide_eq_false hc12) ?_
          conv => arg 3; whnf
          refine Sim.goF (decide_eq_false hc12) ?_
          conv => arg 3; whnf
          refine Sim.goF (decide_eq_false hc12) ?_
          conv => arg 3; whnf
          refine Sim.goF (decide_eq_false hc12) ?_
          conv => arg 3; whnf
          refine Sim.ite Iff.rfl (fun hc13 => ?_) (fun hc13 => ?_)
          · conv => arg 3; whnf
            exact Sim.ret ⟨_, rfl, rfl⟩
          · conv => arg 3; whnf
            exact Sim.ret ⟨_, _, rfl, rfl, rfl⟩
  · conv => arg 3; whnf
    exact Sim.ret ⟨_, rfl, rfl⟩
noncomputable def l28_lists_3_step (t5 : GMem) (s4 : GConf) (r11 : Int) : Option ((Int) ⊕ ((Bool) ⊕ (Unit))) :=
  if r11 < 6 then
    if 0 ≤ r11 ∧ r11 < (6 : Nat) then
      (Ar6.get? (Ar6.mk t5.Diag.a0 t5.Diag.a1 t5.Diag.a2 t5.Diag.a3 t5.Diag.a4 t5.Diag.a5) (Int.toNat r11)).bind fun z7 =>
      if z7 < 0 then
        some (.inr (.inl false))
      else
        if 0 ≤ r11 ∧ r11 < (6 : Nat) then
          (Ar6.get? (Ar6.mk t5.Diag.a0 t5.Diag.a1 t5.Diag.a2 t5.Diag.a3 t5.Diag.a4 t5.Diag.a5) (Int.toNat r11)).bind fun z8 =>
          if 65535 < z8 then
            some (.inr (.inl false))
          else
            some (.inl (wr (r11 + 1)))
        else none
    else none
  else
    some (.inr (.inr ()))
noncomputable def l28_lists_3 (t5 : GMem) (s4 : GConf) (r11 : Int) : Option ((Bool) ⊕ (Unit)) :=
  loopO (fun s : Int => l28_lists_3_step t5 s4 s) r11
def l28_lists_3_rel (t5 : GMem) (s4 : GConf) (r : ((Bool) ⊕ (Unit))) (q : Ex × PF.St) : Prop := (fun r (q : Ex × PF.St) => Sum.elim (fun r => (fun r (q : Ex × PF.St) => q = (Ex.ret, ⟨[(4, .bool r)], [(103, ⟨true, [.int .i64 t5.Clock, .int .i64 t5.Anchor, .int .i64 t5.Since, .str t5.Pipe, .int .i64 t5.Age, .str t5.Vec, .str t5.Agreed, .int .i64 t5.Number, .int .i64 t5.Regular, .str t5.Members, .str t5.Seen, .str t5.Heard, .str t5.Sent, .str t5.Out, .str t5.Line, .lst .no (List.map GPort.av t5.Ports), .lst .no (List.map sav t5.Hold), .lst .no (List.map GEntry.av t5.Log), .int .i64 t5.Diag.a0, .int .i64 t5.Diag.a1, .int .i64 t5.Diag.a2, .int .i64 t5.Diag.a3, .int .i64 t5.Diag.a4, .int .i64 t5.Diag.a5]⟩), (102, ⟨true, [.int .i64 s4.N, .int .i64 s4.F, .int .i64 s4.D, .int .i64 s4.Period, .int .i64 s4.Rate, .int .i64 s4.Drift, .int .i64 s4.Offset, .int .i64 s4.Slot, .int .i64 s4.Mod, .int .i64 s4.Fresh, .lst .no (List.map iav s4.Table)]⟩)]⟩)) r q) (fun r => (fun r (q : Ex × PF.St) => q = ((.exit 6), ⟨[(4, .undef)], [(103, ⟨true, [.int .i64 t5.Clock, .int .i64 t5.Anchor, .int .i64 t5.Since, .str t5.Pipe, .int .i64 t5.Age, .str t5.Vec, .str t5.Agreed, .int .i64 t5.Number, .int .i64 t5.Regular, .str t5.Members, .str t5.Seen, .str t5.Heard, .str t5.Sent, .str t5.Out, .str t5.Line, .lst .no (List.map GPort.av t5.Ports), .lst .no (List.map sav t5.Hold), .lst .no (List.map GEntry.av t5.Log), .int .i64 t5.Diag.a0, .int .i64 t5.Diag.a1, .int .i64 t5.Diag.a2, .int .i64 t5.Diag.a3, .int .i64 t5.Diag.a4, .int .i64 t5.Diag.a5]⟩), (102, ⟨true, [.int .i64 s4.N, .int .i64 s4.F, .int .i64 s4.D, .int .i64 s4.Period, .int .i64 s4.Rate, .int .i64 s4.Drift, .int .i64 s4.Offset, .int .i64 s4.Slot, .int .i64 s4.Mod, .int .i64 s4.Fresh, .lst .no (List.map iav s4.Table)]⟩)]⟩)) r q) r) r q
def l28_lists_3_inv (t5 : GMem) (s4 : GConf) (v : Int) (e : PF.St) : Prop := e = ⟨[(3, .ptr 103 0), (9, .int .i64 v)], [(103, ⟨true, [.int .i64 t5.Clock, .int .i64 t5.Anchor, .int .i64 t5.Since, .str t5.Pipe, .int .i64 t5.Age, .str t5.Vec, .str t5.Agreed, .int .i64 t5.Number, .int .i64 t5.Regular, .str t5.Members, .str t5.Seen, .str t5.Heard, .str t5.Sent, .str t5.Out, .str t5.Line, .lst .no (List.map GPort.av t5.Ports), .lst .no (List.map sav t5.Hold), .lst .no (List.map GEntry.av t5.Log), .int .i64 t5.Diag.a0, .int .i64 t5.Diag.a1, .int .i64 t5.Diag.a2, .int .i64 t5.Diag.a3, .int .i64 t5.Diag.a4, .int .i64 t5.Diag.a5]⟩), (102, ⟨true, [.int .i64 s4.N, .int .i64 s4.F, .int .i64 s4.D, .int .i64 s4.Period, .int .i64 s4.Rate, .int .i64 s4.Drift, .int .i64 s4.Offset, .int .i64 s4.Slot, .int .i64 s4.Mod, .int .i64 s4.Fresh, .lst .no (List.map iav s4.Table)]⟩)]⟩
theorem l28_lists_3_sim (t5 : GMem) (s4 : GConf) (r11 : Int) (s : PF.St) (hk : keep [3, 9] [102, 103] s = some ⟨[(3, .ptr 103 0), (9, .int .i64 r11)], [(103, ⟨true, [.int .i64 t5.Clock, .int .i64 t5.Anchor, .int .i64 t5.Since, .str t5.Pipe, .int .i64 t5.Age, .str t5.Vec, .str t5.Agreed, .int .i64 t5.Number, .int .i64 t5.Regular, .str t5.Members, .str t5.Seen, .str t5.Heard, .str t5.Sent, .str t5.Out, .str t5.Line, .lst .no (List.map GPort.av t5.Ports), .lst .no (List.map sav t5.Hold), .lst .no (List.map GEntry.av t5.Log), .int .i64 t5.Diag.a0, .int .i64 t5.Diag.a1, .int .i64 t5.Diag.a2, .int .i64 t5.Diag.a3, .int .i64 t5.Diag.a4, .int .i64 t5.Diag.a5]⟩), (102, ⟨true, [.int .i64 s4.N, .int .i64 s4.F, .int .i64 s4.D, .int .i64 s4.Period, .int .i64 s4.Rate, .int .i64 s4.Drift, .int .i64 s4.Offset, .int .i64 s4.Slot, .int .i64 s4.Mod, .int .i64 s4.Fresh, .lst .no (List.map iav s4.Table)]⟩)]⟩) : Sim (l28_lists_3 t5 s4 r11) (Gv (l28_lists_3_rel t5 s4)) (LM.loop ([3, 9], [102, 103], [4], B_l28_lists_3) s) := by
  refine sim_loop M XE (l28_lists_3_inv t5 s4) (l28_lists_3_rel t5 s4) ?_ _ _ _ hk rfl
  clear hk
  rintro S hS hw hw8 R hR r11 env hp he
  change (⟨env, hp⟩ : PF.St) = ⟨[(3, .ptr 103 0), (9, .int .i64 r11)], [(103, ⟨true, [.int .i64 t5.Clock, .int .i64 t5.Anchor, .int .i64 t5.Since, .str t5.Pipe, .int .i64 t5.Age, .str t5.Vec, .str t5.Agreed, .int .i64 t5.Number, .int .i64 t5.Regular, .str t5.Members, .str t5.Seen, .str t5.Heard, .str t5.Sent, .str t5.Out, .str t5.Line, .lst .no (List.map GPort.av t5.Ports), .lst .no (List.map sav t5.Hold), .lst .no (List.map GEntry.av t5.Log), .int .i64 t5.Diag.a0, .int .i64 t5.Diag.a1, .int .i64 t5.Diag.a2, .int .i64 t5.Diag.a3, .int .i64 t5.Diag.a4, .int .i64 t5.Diag.a5]⟩), (102, ⟨true, [.int .i64 s4.N, .int .i64 s4.F, .int .i64 s4.D, .int .i64 s4.Period, .int .i64 s4.Rate, .int .i64 s4.Drift, .int .i64 s4.Offset, .int .i64 s4.Slot, .int .i64 s4.Mod, .int .i64 s4.Fresh, .lst .no (List.map iav s4.Table)]⟩)]⟩ at he
  cases he
  show Sim (l28_lists_3_step t5 s4 r11) _ _
  unfold l28_lists_3_step
  simp only [hw]
  conv => arg 3; whnf
  refine Sim.ite Iff.rfl (fun hc14 => ?_) (fun hc14 => ?_)
  · conv => arg 3; whnf
    first | refine Sim.ite Iff.rfl (fun hb => ?_) (fun _ => Sim.no) | refine Sim.guard (fun hb => ?_)
    conv => arg 3; whnf
    refine Sim.opt (f := iav) (by have hb' : (Int.toNat r11) < 6 := (by omega); generalize (Int.toNat r11) = j at hb' ⊢; rcases j with _|_|_|_|_|_|j <;> first | rfl | exact absurd hb' (by omega)) (fun z7 _ => ?_)
    conv => arg 3; whnf
    refine Sim.ite Iff.rfl (fun hc15 => ?_) (fun hc15 => ?_)
    · conv => arg 3; whnf
      refine Sim.goB (decide_eq_true hc15) ?_
      conv => arg 3; whnf
      refine Sim.goB (decide_eq_true hc15) ?_
      conv => arg 3; whnf
      refine Sim.goB (decide_eq_true hc15) ?_
      conv => arg 3; whnf
      refine Sim.goB (decide_eq_true hc15) ?_
      conv => arg 3; whnf
      refine Sim.goB (decide_eq_true hc15) ?_
      conv => arg 3; whnf
      exact Sim.ret ⟨_, rfl, rfl⟩
    · conv => arg 3; whnf
      refine Sim.goF (decide_eq_false hc15) ?_
      conv => arg 3; whnf
      refine Sim.goF (decide_eq_false hc15) ?_
      conv => arg 3; whnf
      first | refine Sim.ite Iff.rfl (fun hb2 => ?_) (fun _ => Sim.no) | refine Sim.guard (fun hb2 => ?_)
      conv => arg 3; whnf
      refine Sim.goF (decide_eq_false hc15) ?_
      conv => arg 3; whnf
      refine Sim.opt (f := iav) (by have hb' : (Int.toNat r11) < 6 := (by omega); generalize (Int.toNat r11) = j at hb' ⊢; rcases j with _|_|_|_|_|_|j <;> first | rfl | exact absurd hb' (by omega)) (fun z8 _ => ?_)
      conv => arg 3; whnf
      refine Sim.goF (decide_eq_false hc15) ?_
      conv => arg 3; whnf
      refine Sim.goF (decide_eq_false hc15) ?_
      conv => arg 3; whnf
      refine Sim.ite Iff.rfl (fun hc16 => ?_) (fun hc16 => ?_)
      · conv => arg 3; whnf
        exact Sim.ret ⟨_, rfl, rfl⟩
      · conv => arg 3; whnf
        exact Sim.ret ⟨_, _, rfl, rfl, rfl⟩
  · conv => arg 3; whnf
    exact Sim.ret ⟨_, rfl, rfl⟩
noncomputable def l28_lists (L0 : GConf) (i0 : GMem) : Option Bool :=
  (l28_lists_0 i0 L0 0).bind fun r0 =>
  Sum.elim
    (fun r2 =>
      some r2)
    (fun r3 =>
      (l28_lists_1 i0 L0 0).bind fun r4 =>
      Sum.elim
        (fun r5 =>
          some r5)
        (fun r6 =>
          (l28_lists_2 i0 L0 0).bind fun r8 =>
          Sum.elim
            (fun r9 =>
              some r9)
            (fun r10 =>
              (l28_lists_3 i0 L0 0).bind fun r12 =>
              Sum.elim
                (fun r13 =>
                  some r13)
                (fun r14 =>
                  some true)
                r12)
            r8)
        r4)
    r0
theorem l28_lists_sim (L0 : GConf) (i0 : GMem) : Sim (l28_lists L0 i0) (Gv fun r q => q = (.bool r, [])) (LM.call n_l28_lists [.agg [.int .i64 L0.N, .int .i64 L0.F, .int .i64 L0.D, .int .i64 L0.Period, .int .i64 L0.Rate, .int .i64 L0.Drift, .int .i64 L0.Offset, .int .i64 L0.Slot, .int .i64 L0.Mod, .int .i64 L0.Fresh, .lst .no (List.map iav L0.Table)], .agg [.int .i64 i0.Clock, .int .i64 i0.Anchor, .int .i64 i0.Since, .str i0.Pipe, .int .i64 i0.Age, .str i0.Vec, .str i0.Agreed, .int .i64 i0.Number, .int .i64 i0.Regular, .str i0.Members, .str i0.Seen, .str i0.Heard, .str i0.Sent, .str i0.Out, .str i0.Line, .lst .no (List.map GPort.av i0.Ports), .lst .no (List.map sav i0.Hold), .lst .no (List.map GEntry.av i0.Log), .int .i64 i0.Diag.a0, .int .i64 i0.Diag.a1, .int .i64 i0.Diag.a2, .int .i64 i0.Diag.a3, .int .i64 i0.Diag.a4, .int .i64 i0.Diag.a5]] []) := by
  unfold l28_lists
  refine sim_evR M XE rfl rfl fun S hS hw hw8 R hR => ?_
  conv => arg 3; whnf
  refine Sim.callL hR (l28_lists_0_sim i0 L0 0 _ rfl) ?_
  rintro r0 q hr
  rcases r0 with r2 | r3
  · cases hr
    conv => arg 3; whnf
    exact Sim.ret ⟨_, rfl, rfl⟩
  · cases hr
    conv => arg 3; whnf
    refine Sim.callL hR (l28_lists_1_sim i0 L0 0 _ rfl) ?_
    rintro r4 q hr
    rcases r4 with r5 | r6
    · cases hr
      conv => arg 3; whnf
      exact Sim.ret ⟨_, rfl, rfl⟩
    · cases hr
      conv => arg 3; whnf
      refine Sim.callL hR (l28_lists_2_sim i0 L0 0 _ rfl) ?_
      rintro r8 q hr
      rcases r8 with r9 | r10
      · cases hr
        conv => arg 3; whnf
        exact Sim.ret ⟨_, rfl, rfl⟩
      · cases hr
        conv => arg 3; whnf
        refine Sim.callL hR (l28_lists_3_sim i0 L0 0 _ rfl) ?_
        rintro r12 q hr
        rcases r12 with r13 | r14
        · cases hr
          conv => arg 3; whnf
          exact Sim.ret ⟨_, rfl, rfl⟩
        · cases hr
          conv => arg 3; whnf
          exact Sim.ret ⟨_, rfl, rfl⟩
noncomputable def l28_MemCaps (L0 : GConf) (i0 : GMem) : Option Bool :=
  (r03_Plain L0).bind fun r0 =>
  if r0 ≠ 0 then
    (l28_known).bind fun r2 =>
    some r2
  else
    (r28_Few i0).bind fun r3 =>
    if (!r3) = true then
      (l28_known).bind fun r4 =>
      some r4
    else
      (mem_Mend L0 i0).bind fun r5 =>
      if r5.Clock < 0 then
        some false
      else
        if 65536 ≤ r5.Clock then
          some false
        else
          if r5.Anchor < 0 then
            some false
          else
            if 65536 ≤ r5.Anchor then
              some false
            else
              if r5.Since < 0 then
                some false
              else
                if L0.Period < r5.Since then
                  some false
                else
                  if r5.Age < 0 then
                    some false
                  else
                    (r03_Length L0).bind fun r6 =>
                    if r6 < r5.Age then
                      some false
                    else
                      if r5.Number < 0 then
                        some false
                      else
                        if L0.Mod ≤ r5.Number then
                          some false
                        else
                          if r5.Regular < 0 then
                            some false
                          else
                            if 2 < r5.Regular then
                              some false
                            else
                              (r03_Length L0).bind fun r7 =>
                              if (List.length r5.Pipe : Int) ≠ r7 then
                                some false
                              else
                                if (List.length r5.Members : Int) ≠ L0.N then
                                  some false
                                else
                                  if (List.length r5.Seen : Int) ≠ L0.N then
                                    some false
                                  else
                                    if (List.length r5.Heard : Int) ≠ (List.length L0.Table : Int) then
                                      some false
                                    else
                                      if (List.length r5.Sent : Int) ≠ (List.length L0.Table : Int) then
                                        some false
                                      else
                                        if 16 < (List.length r5.Out : Int) then
                                          some false
                                        else
                                          if 16 < (List.length r5.Line : Int) then
                                            some false
                                          else
                                            if r5.Vec ≠ ([] : List UInt8) then
                                              (r03_Bits L0).bind fun r8 =>
                                              if (List.length r5.Vec : Int) ≠ r8 then
                                                some false
                                              else
                                                if r5.Agreed ≠ ([] : List UInt8) then
                                                  (r03_Bits L0).bind fun r9 =>
                                                  if (List.length r5.Agreed : Int) ≠ r9 then
                                                    some false
                                                  else
                                                    if (List.length r5.Ports : Int) ≠ L0.N then
                                                      some false
                                                    else
                                                      if (List.length r5.Hold : Int) ≠ (wr (L0.N * L0.D)) then
                                                        some false
                                                      else
                                                        if 64 < (List.length r5.Log : Int) then
                                                          some false
                                                        else
                                                          (l28_lists L0 r5).bind fun r10 =>
                                                          if r10 = true then
                                                            (l28_known).bind fun r11 =>
                                                            some r11
                                                          else
                                                            some false
                                                else
                                                  if (List.length r5.Ports : Int) ≠ L0.N then
                                                    some false
                                                  else
                                                    if (List.length r5.Hold : Int) ≠ (wr (L0.N * L0.D)) then
                                                      some false
                                                    else
                                                      if 64 < (List.length r5.Log : Int) then
                                                        some false
                                                      else
                                                        (l28_lists L0 r5).bind fun r12 =>
                                                        if r12 = true then
                                                          (l28_known).bind fun r13 =>
                                                          some r13
                                                        else
                                                          some false
                                            else
                                              if r5.Agreed ≠ ([] : List UInt8) then
                                                (r03_Bits L0).bind fun r14 =>
                                                if (List.length r5.Agreed : Int) ≠ r14 then
                                                  some false
                                                else
                                                  if (List.length r5.Ports : Int) ≠ L0.N then
                                                    some false
                                                  else
                                                    if (List.length r5.Hold : Int) ≠ (wr (L0.N * L0.D)) then
                                                      some false
                                                    else
                                                      if 64 < (List.length r5.Log : Int) then
                                                        some false
                                                      else
                                                        (l28_lists L0 r5).bind fun r15 =>
                                                        if r15 = true then
                                                          (l28_known).bind fun r16 =>
                                                          some r16
                                                        else
                                                          some false
                                              else
                                                if (List.length r5.Ports : Int) ≠ L0.N then
                                                  some false
                                                else
                                                  if (List.length r5.Hold : Int) ≠ (wr (L0.N * L0.D)) then
                                                    some false
                                                  else
                                                    if 64 < (List.length r5.Log : Int) then
                                                      some false
                                                    else
                                                      (l28_lists L0 r5).bind fun r17 =>
                                                      if r17 = true then
                                                        (l28_known).bind fun r18 =>
                                                        some r18
                                                      else
                                                        some false
theorem l28_MemCaps_sim (L0 : GConf) (i0 : GMem) : Sim (l28_MemCaps L0 i0) (Gv fun r q => q = (.bool r, [])) (LM.call n_l28_MemCaps [.agg [.int .i64 L0.N, .int .i64 L0.F, .int .i64 L0.D, .int .i64 L0.Period, .int .i64 L0.Rate, .int .i64 L0.Drift, .int .i64 L0.Offset, .int .i64 L0.Slot, .int .i64 L0.Mod, .int .i64 L0.Fresh, .lst .no (List.map iav L0.Table)], .agg [.int .i64 i0.Clock, .int .i64 i0.Anchor, .int .i64 i0.Since, .str i0.Pipe, .int .i64 i0.Age, .str i0.Vec, .str i0.Agreed, .int .i64 i0.Number, .int .i64 i0.Regular, .str i0.Members, .str i0.Seen, .str i0.Heard, .str i0.Sent, .str i0.Out, .str i0.Line, .lst .no (List.map GPort.av i0.Ports), .lst .no (List.map sav i0.Hold), .lst .no (List.map GEntry.av i0.Log), .int .i64 i0.Diag.a0, .int .i64 i0.Diag.a1, .int .i64 i0.Diag.a2, .int .i64 i0.Diag.a3, .int .i64 i0.Diag.a4, .int .i64 i0.Diag.a5]] []) := by
  unfold l28_MemCaps
  refine sim_evR M XE rfl rfl fun S hS hw hw8 R hR => ?_
  simp only [hw]
  conv => arg 3; whnf
  refine Sim.callR hR (r03_Plain_sim L0) ?_
  rintro r0 q rfl
  conv => arg 3; whnf
  refine Sim.ite Iff.rfl (fun hc => ?_) (fun hc => ?_)
  · conv => arg 3; whnf
    refine Sim.goB (decide_eq_true hc) ?_
    conv => arg 3; whnf
    refine Sim.goB (decide_eq_true hc) ?_
    conv => arg 3; whnf
    refine Sim.goB (decide_eq_true hc) ?_
    conv => arg 3; whnf
    refine Sim.callR hR (l28_known_sim) ?_
    rintro r2 q rfl
    conv => arg 3; whnf
    exact Sim.ret ⟨_, rfl, rfl⟩
  · conv => arg 3; whnf
    refine Sim.goF (decide_eq_false hc) ?_
    conv => arg 3; whnf
    refine Sim.callR hR (r28_Few_sim i0) ?_
    rintro r3 q rfl
    conv => arg 3; whnf
    refine Sim.goF (decide_eq_false hc) ?_
    conv => arg 3; whnf
    refine Sim.goF (decide_eq_false hc) ?_
    conv => arg 3; whnf
    refine Sim.iteB (fun hc2 => ?_) (fun hc2 => ?_)
    · conv => arg 3; whnf
      refine Sim.callR hR (l28_known_sim) ?_
      rintro r4 q rfl
      conv => arg 3; whnf
      exact Sim.ret ⟨_, rfl, rfl⟩
    · conv => arg 3; whnf
      refine Sim.callR hR (mem_Mend_sim L0 i0) ?_
      rintro r5 q rfl
      conv => arg 3; whnf
      refine Sim.ite Iff.rfl (fun hc3 => ?_) (fun hc3 => ?_)
      · conv => arg 3; whnf
        refine Sim.goB (decide_eq_true hc3) ?_
        conv => arg 3; whnf
        refine Sim.goB (decide_eq_true hc3) ?_
        conv => arg 3; whnf
        refine Sim.goB (decide_eq_true hc3) ?_
        conv => arg 3; whnf
        exact Sim.ret ⟨_, rfl, rfl⟩
      · conv => arg 3; whnf
        refine Sim.goF (decide_eq_false hc3) ?_
        conv => arg 3; whnf
        refine Sim.goF (decide_eq_false hc3) ?_
        conv => arg 3; whnf
        refine Sim.goF (decide_eq_false hc3) ?_
        conv => arg 3; whnf
        refine Sim.ite Iff.rfl (fun hc4 => ?_) (fun hc4 => ?_)
        · conv => arg 3; whnf
          refine Sim.goB (decide_eq_true hc4) ?_
          conv => arg 3; whnf
          refine Sim.goB (decide_eq_true hc4) ?_
          conv => arg 3; whnf
          refine Sim.goB (decide_eq_true hc4) ?_
          conv => arg 3; whnf
          exact Sim.ret ⟨_, rfl, rfl⟩
        · conv => arg 3; whnf
          refine Sim.goF (decide_eq_false hc4) ?_
          conv => arg 3; whnf
          refine Sim.goF (decide_eq_false hc4) ?_
          conv => arg 3; whnf
          refine Sim.goF (decide_eq_false hc4) ?_
          conv => arg 3; whnf
          refine Sim.ite Iff.rfl (fun hc5 => ?_) (fun hc5 => ?_)
          · conv => arg 3; whnf
            refine Sim.goB (decide_eq_true hc5) ?_
            conv => arg 3; whnf
            refine Sim.goB (decide_eq_true hc5) ?_
            conv => arg 3; whnf
            refine Sim.goB (decide_eq_true hc5) ?_
            conv => arg 3; whnf
            exact Sim.ret ⟨_, rfl, rfl⟩
          · conv => arg 3; whnf
            refine Sim.goF (decide_eq_false hc5) ?_
            conv => arg 3; whnf
            refine Sim.goF (decide_eq_false hc5) ?_
            conv => arg 3; whnf
            refine Sim.goF (decide_eq_false hc5) ?_
            conv => arg 3; whnf
            refine Sim.ite Iff.rfl (fun hc6 => ?_) (fun hc6 => ?_)
            · conv => arg 3; whnf
              refine Sim.goB (decide_eq_true hc6) ?_
              conv => arg 3; whnf
              refine Sim.goB (decide_eq_true hc6) ?_
              conv => arg 3; whnf
              refine Sim.goB (decide_eq_true hc6) ?_
              conv => arg 3; whnf
              exact Sim.ret ⟨_, rfl, rfl⟩
            · conv => arg 3; whnf
              refine Sim.goF (decide_eq_false hc6) ?_
              conv => arg 3; whnf
              refine Sim.goF (decide_eq_false hc6) ?_
              conv => arg 3; whnf
              refine Sim.goF (decide_eq_false hc6) ?_
              conv => arg 3; whnf
              refine Sim.ite Iff.rfl (fun hc7 => ?_) (fun hc7 => ?_)
              · conv => arg 3; whnf
                refine Sim.goB (decide_eq_true hc7) ?_
                conv => arg 3; whnf
                refine Sim.goB (decide_eq_true hc7) ?_
                conv => arg 3; whnf
                refine Sim.goB (decide_eq_true hc7) ?_
                conv => arg 3; whnf
                refine Sim.goB (decide_eq_true hc7) ?_
                conv => arg 3; whnf
                refine Sim.goB (decide_eq_true hc7) ?_
                conv => arg 3; whnf
                exact Sim.ret ⟨_, rfl, rfl⟩
              · conv => arg 3; whnf
                refine Sim.goF (decide_eq_false hc7) ?_
                conv => arg 3; whnf
                refine Sim.goF (decide_eq_false hc7) ?_
                conv => arg 3; whnf
                refine Sim.goF (decide_eq_false hc7) ?_
                conv => arg 3; whnf
                refine Sim.goF (decide_eq_false hc7) ?_
                conv => arg 3; whnf
                refine Sim.goF (decide_eq_false hc7) ?_
                conv => arg 3; whnf
                refine Sim.ite Iff.rfl (fun hc8 => ?_) (fun hc8 => ?_)
                · conv => arg 3; whnf
                  refine Sim.goB (decide_eq_true hc8) ?_
                  conv => arg 3; whnf
                  refine Sim.goB (decide_eq_true hc8) ?_
                  conv => arg 3; whnf
                  refine Sim.goB (decide_eq_true hc8) ?_
                  conv => arg 3; whnf
                  exact Sim.ret ⟨_, rfl, rfl⟩
                · conv => arg 3; whnf
                  refine Sim.goF (decide_eq_false hc8) ?_
                  conv => arg 3; whnf
                  refine Sim.goF (decide_eq_false hc8) ?_
                  conv => arg 3; whnf
                  refine Sim.goF (decide_eq_false hc8) ?_
                  conv => arg 3; whnf
                  refine Sim.ite Iff.rfl (fun hc9 => ?_) (fun hc9 => ?_)
                  · conv => arg 3; whnf
                    refine Sim.goB (decide_eq_true hc9) ?_
                    conv => arg 3; whnf
                    refine Sim.goB (decide_eq_true hc9) ?_
                    conv => arg 3; whnf
                    refine Sim.goB (decide_eq_true hc9) ?_
                    conv => arg 3; whnf
                    refine Sim.goB (decide_eq_true hc9) ?_
                    conv => arg 3; whnf
                    refine Sim.goB (decide_eq_true hc9) ?_
                    conv => arg 3; whnf
                    exact Sim.ret ⟨_, rfl, rfl⟩
                  · conv => arg 3; whnf
                    refine Sim.goF (decide_eq_false hc9) ?_
                    conv => arg 3; whnf
                    refine Sim.goF (decide_eq_false hc9) ?_
                    conv => arg 3; whnf
                    refine Sim.goF (decide_eq_false hc9) ?_
                    conv => arg 3; whnf
                    refine Sim.callR hR (r03_Length_sim L0) ?_
                    rintro r6 q rfl
                    conv => arg 3; whnf
                    refine Sim.goF (decide_eq_false hc9) ?_
                    conv => arg 3; whnf
                    refine Sim.goF (decide_eq_false hc9) ?_
                    conv => arg 3; whnf
                    refine Sim.ite Iff.rfl (fun hc10 => ?_) (fun hc10 => ?_)
                    · conv => arg 3; whnf
                      refine Sim.goB (decide_eq_true hc10) ?_
                      conv => arg 3; whnf
                      refine Sim.goB (decide_eq_true hc10) ?_
                      conv => arg 3; whnf
                      refine Sim.goB (decide_eq_true hc10) ?_
                      conv => arg 3; whnf
                      exact Sim.ret ⟨_, rfl, rfl⟩
                    · conv => arg 3; whnf
                      refine Sim.goF (decide_eq_false hc10) ?_
                      conv => arg 3; whnf
                      refine Sim.goF (decide_eq_false hc10) ?_
                      conv => arg 3; whnf
                      refine Sim.goF (decide_eq_false hc10) ?_
                      conv => arg 3; whnf
                      refine Sim.ite Iff.rfl (fun hc11 => ?_) (fun hc11 => ?_)
                      · conv => arg 3; whnf
                        refine Sim.goB (decide_eq_true hc11) ?_
                        conv => arg 3; whnf
                        refine Sim.goB (decide_eq_true hc11) ?_
                        conv => arg 3; whnf
                        refine Sim.goB (decide_eq_true hc11) ?_
                        conv => arg 3; whnf
                        refine Sim.goB (decide_eq_true hc11) ?_
                        conv => arg 3; whnf
                        refine Sim.goB (decide_eq_true hc11) ?_
                        conv => arg 3; whnf
                        exact Sim.ret ⟨_, rfl, rfl⟩
                      · conv => arg 3; whnf
                        refine Sim.goF (decide_eq_false hc11) ?_
                        conv => arg 3; whnf
                        refine Sim.goF (decide_eq_false hc11) ?_
                        conv => arg 3; whnf
                        refine Sim.goF (decide_eq_false hc11) ?_
                        conv => arg 3; whnf
                        refine Sim.goF (decide_eq_false hc11) ?_
                        conv => arg 3; whnf
                        refine Sim.goF (decide_eq_false hc11) ?_
                        conv => arg 3; whnf
                        refine Sim.ite Iff.rfl (fun hc12 => ?_) (fun hc12 => ?_)
                        · conv => arg 3; whnf
                          refine Sim.goB (decide_eq_true hc12) ?_
                          conv => arg 3; whnf
                          refine Sim.goB (decide_eq_true hc12) ?_
                          conv => arg 3; whnf
                          refine Sim.goB (decide_eq_true hc12) ?_
                          conv => arg 3; whnf
                          exact Sim.ret ⟨_, rfl, rfl⟩
                        · conv => arg 3; whnf
                          refine Sim.goF (decide_eq_false hc12) ?_
                          conv => arg 3; whnf
                          refine Sim.goF (decide_eq_false hc12) ?_
                          conv => arg 3; whnf
                          refine Sim.goF (decide_eq_false hc12) ?_
                          conv => arg 3; whnf
                          refine Sim.ite Iff.rfl (fun hc13 => ?_) (fun hc13 => ?_)
                          · conv => arg 3; whnf
                            refine Sim.goB (decide_eq_true hc13) ?_
                            conv => arg 3; whnf
                            refine Sim.goB (decide_eq_true hc13) ?_
                            conv => arg 3; whnf
                            refine Sim.goB (decide_eq_true hc13) ?_
                            conv => arg 3; whnf
                            exact Sim.ret ⟨_, rfl, rfl⟩
                          · conv => arg 3; whnf
                            refine Sim.goF (decide_eq_false hc13) ?_
                            conv => arg 3; whnf
                            refine Sim.goF (decide_eq_false hc13) ?_
                            conv => arg 3; whnf
                            refine Sim.goF (decide_eq_false hc13) ?_
                            conv => arg 3; whnf
                            refine Sim.ite Iff.rfl (fun hc14 => ?_) (fun hc14 => ?_)
                            · conv => arg 3; whnf
                              exact Sim.ret ⟨_, rfl, rfl⟩
                            · conv => arg 3; whnf
                              refine Sim.callR hR (r03_Length_sim L0) ?_
                              rintro r7 q rfl
                              conv => arg 3; whnf
                              refine Sim.ite Iff.rfl (fun hc15 => ?_) (fun hc15 => ?_)
                              · conv => arg 3; whnf
                                refine Sim.goB (decide_eq_true hc15) ?_
                                conv => arg 3; whnf
                                refine Sim.goB (decide_eq_true hc15) ?_
                                conv => arg 3; whnf
                                refine Sim.goB (decide_eq_true hc15) ?_
                                conv => arg 3; whnf
                                refine Sim.goB (decide_eq_true hc15) ?_
                                conv => arg 3; whnf
                                refine Sim.goB (decide_eq_true hc15) ?_
                                conv => arg 3; whnf
                                refine Sim.goB (decide_eq_true hc15) ?_
                                conv => arg 3; whnf
                                exact Sim.ret ⟨_, rfl, rfl⟩
                              · conv => arg 3; whnf
                                refine Sim.goF (decide_eq_false hc15) ?_
                                conv => arg 3; whnf
                                refine Sim.goF (decide_eq_false hc15) ?_
                                conv => arg 3; whnf
                                refine Sim.goF (decide_eq_false hc15) ?_
                                conv => arg 3; whnf
                                refine Sim.goF (decide_eq_false hc15) ?_
                                conv => arg 3; whnf
                                refine Sim.goF (decide_eq_false hc15) ?_
                                conv => arg 3; whnf
                                refine Sim.goF (decide_eq_false hc15) ?_
                                conv => arg 3; whnf
                                refine Sim.ite Iff.rfl (fun hc16 => ?_) (fun hc16 => ?_)
                                · conv => arg 3; whnf
                                  refine Sim.goB (decide_eq_true hc16) ?_
                                  conv => arg 3; whnf
                                  refine Sim.goB (decide_eq_true hc16) ?_
                                  conv => arg 3; whnf
                                  refine Sim.goB (decide_eq_true hc16) ?_
                                  conv => arg 3; whnf
                                  refine Sim.goB (decide_eq_true hc16) ?_
                                  conv => arg 3; whnf
                                  refine Sim.goB (decide_eq_true hc16) ?_
                                  conv => arg 3; whnf
                                  refine Sim.goB (decide_eq_true hc16) ?_
                                  conv => arg 3; whnf
                                  exact Sim.ret ⟨_, rfl, rfl⟩
                                · conv => arg 3; whnf
                                  refine Sim.goF (decide_eq_false hc16) ?_
                                  conv => arg 3; whnf
                                  refine Sim.goF (decide_eq_false hc16) ?_
                                  conv => arg 3; whnf
                                  refine Sim.goF (decide_eq_false hc16) ?_
                                  conv => arg 3; whnf
                                  refine Sim.goF (decide_eq_false hc16) ?_
                                  conv => arg 3; whnf
                                  refine Sim.goF (decide_eq_false hc16) ?_
                                  conv => arg 3; whnf
                                  refine Sim.goF (decide_eq_false hc16) ?_
                                  conv => arg 3; whnf
                                  refine Sim.ite Iff.rfl (fun hc17 => ?_) (fun hc17 => ?_)
                                  · conv => arg 3; whnf
                                    refine Sim.goB (decide_eq_true hc17) ?_
                                    conv => arg 3; whnf
                                    refine Sim.goB (decide_eq_true hc17) ?_
                                    conv => arg 3; whnf
                                    refine Sim.goB (decide_eq_true hc17) ?_
                                    conv => arg 3; whnf
                                    refine Sim.goB (decide_eq_true hc17) ?_
                                    conv => arg 3; whnf
                                    refine Sim.goB (decide_eq_true hc17) ?_
                                    conv => arg 3; whnf
                                    refine Sim.goB (decide_eq_true hc17) ?_
                                    conv => arg 3; whnf
                                    refine Sim.goB (decide_eq_true hc17) ?_
                                    conv => arg 3; whnf
                                    exact Sim.ret ⟨_, rfl, rfl⟩
                                  · conv => arg 3; whnf
                                    refine Sim.goF (decide_eq_false hc17) ?_
                                    conv => arg 3; whnf
                                    refine Sim.goF (decide_eq_false hc17) ?_
                                    conv => arg 3; whnf
                                    refine Sim.goF (decide_eq_false hc17) ?_
                                    conv => arg 3; whnf
                                    refine Sim.goF (decide_eq_false hc17) ?_
                                    conv => arg 3; whnf
                                    refine Sim.goF (decide_eq_false hc17) ?_
                                    conv => arg 3; whnf
                                    refine Sim.ki hS (m := (List.length L0.Table : Int)) (by simp) ?_
                                    conv => arg 3; whnf
                                    refine Sim.goF (decide_eq_false hc17) ?_
                                    conv => arg 3; whnf
                                    refine Sim.goF (decide_eq_false hc17) ?_
                                    conv => arg 3; whnf
                                    refine Sim.ite Iff.rfl (fun hc18 => ?_) (fun hc18 => ?_)
                                    · conv => arg 3; whnf
                                      refine Sim.goB (decide_eq_true hc18) ?_
                                      conv => arg 3; whnf
                                      refine Sim.goB (decide_eq_true hc18) ?_
                                      conv => arg 3; whnf
                                      refine Sim.goB (decide_eq_true hc18) ?_
                                      conv => arg 3; whnf
                                      refine Sim.goB (decide_eq_true hc18) ?_
                                      conv => arg 3; whnf
                                      refine Sim.goB (decide_eq_true hc18) ?_
                                      conv => arg 3; whnf
                                      refine Sim.goB (decide_eq_true hc18) ?_
                                      conv => arg 3; whnf
                                      refine Sim.goB (decide_eq_true hc18) ?_
                                      conv => arg 3; whnf
                                      exact Sim.ret ⟨_, rfl, rfl⟩
                                    · conv => arg 3; whnf
                                      refine Sim.goF (decide_eq_false hc18) ?_
                                      conv => arg 3; whnf
                                      refine Sim.goF (decide_eq_false hc18) ?_
                                      conv => arg 3; whnf
                                      refine Sim.goF (decide_eq_false hc18) ?_
                                      conv => arg 3; whnf
                                      refine Sim.goF (decide_eq_false hc18) ?_
                                      conv => arg 3; whnf
                                      refine Sim.goF (decide_eq_false hc18) ?_
                                      conv => arg 3; whnf
                                      refine Sim.ki hS (m := (List.length L0.Table : Int)) (by simp) ?_
                                      conv => arg 3; whnf
                                      refine Sim.goF (decide_eq_false hc18) ?_
                                      conv => arg 3; whnf
                                      refine Sim.goF (decide_eq_false hc18) ?_
                                      conv => arg 3; whnf
                                      refine Sim.ite Iff.rfl (fun hc19 => ?_) (fun hc19 => ?_)
                                      · conv => arg 3; whnf
                                        refine Sim.goB (decide_eq_true hc19) ?_
                                        conv => arg 3; whnf
                                        refine Sim.goB (decide_eq_true hc19) ?_
                                        conv => arg 3; whnf
                                        refine Sim.goB (decide_eq_true hc19) ?_
                                        conv => arg 3; whnf
                                        refine Sim.goB (decide_eq_true hc19) ?_
                                        conv => arg 3; whnf
                                        exact Sim.ret ⟨_, rfl, rfl⟩
                                      · conv => arg 3; whnf
                                        refine Sim.goF (decide_eq_false hc19) ?_
                                        conv => arg 3; whnf
                                        refine Sim.goF (decide_eq_false hc19) ?_
                                        conv => arg 3; whnf
                                        refine Sim.goF (decide_eq_false hc19) ?_
                                        conv => arg 3; whnf
                                        refine Sim.goF (decide_eq_false hc19) ?_
                                        conv => arg 3; whnf
                                        refine Sim.ite Iff.rfl (fun hc20 => ?_) (fun hc20 => ?_)
                                        · conv => arg 3; whnf
                                          refine Sim.goB (decide_eq_true hc20) ?_
                                          conv => arg 3; whnf
                                          refine Sim.goB (decide_eq_true hc20) ?_
                                          conv => arg 3; whnf
                                          refine Sim.goB (decide_eq_true hc20) ?_
                                          conv => arg 3; whnf
                                          refine Sim.goB (decide_eq_true hc20) ?_
                                          conv => arg 3; whnf
                                          exact Sim.ret ⟨_, rfl, rfl⟩
                                        · conv => arg 3; whnf
                                          refine Sim.goF (decide_eq_false hc20) ?_
                                          conv => arg 3; whnf
                                          refine Sim.goF (decide_eq_false hc20) ?_
                                          conv => arg 3; whnf
                                          refine Sim.goF (decide_eq_false hc20) ?_
                                          conv => arg 3; whnf
                                          refine Sim.goF (decide_eq_false hc20) ?_
                                          conv => arg 3; whnf
                                          refine Sim.ite Iff.rfl (fun hc21 => ?_) (fun hc21 => ?_)
                                          · conv => arg 3; whnf
                                            exact Sim.ret ⟨_, rfl, rfl⟩
                                          · conv => arg 3; whnf
                                            refine Sim.ite Iff.rfl (fun hc22 => ?_) (fun hc22 => ?_)
                                            · conv => arg 3; whnf
                                              refine Sim.goB (decide_eq_true hc22) ?_
                                              conv => arg 3; whnf
                                              refine Sim.goB (decide_eq_true hc22) ?_
                                              conv => arg 3; whnf
                                              refine Sim.goB (decide_eq_true hc22) ?_
                                              conv => arg 3; whnf
                                              refine Sim.goB (decide_eq_true hc22) ?_
                                              conv => arg 3; whnf
                                              refine Sim.callR hR (r03_Bits_sim L0) ?_
                                              rintro r8 q rfl
                                              conv => arg 3; whnf
                                              refine Sim.goB (decide_eq_true hc22) ?_
                                              conv => arg 3; whnf
                                              refine Sim.goB (decide_eq_true hc22) ?_
                                              conv => arg 3; whnf
                                              refine Sim.ite Iff.rfl (fun hc23 => ?_) (fun hc23 => ?_)
                                              · conv => arg 3; whnf
                                                refine Sim.goB (decide_eq_true hc23) ?_
                                                conv => arg 3; whnf
                                                refine Sim.goB (decide_eq_true hc23) ?_
                                                conv => arg 3; whnf
                                                refine Sim.goB (decide_eq_true hc23) ?_
                                                conv => arg 3; whnf
                                                refine Sim.goB (decide_eq_true hc23) ?_
                                                conv => arg 3; whnf
                                                refine Sim.goB (decide_eq_true hc23) ?_
                                                conv => arg 3; whnf
                                                exact Sim.ret ⟨_, rfl, rfl⟩
                                              · conv => arg 3; whnf
                                                refine Sim.goF (decide_eq_false hc23) ?_
                                                conv => arg 3; whnf
                                                refine Sim.goF (decide_eq_false hc23) ?_
                                                conv => arg 3; whnf
                                                refine Sim.goF (decide_eq_false hc23) ?_
                                                conv => arg 3; whnf
                                                refine Sim.ite Iff.rfl (fun hc24 => ?_) (fun hc24 => ?_)
                                                · conv => arg 3; whnf
                                                  refine Sim.goB (decide_eq_true hc24) ?_
                                                  conv => arg 3; whnf
                                                  refine Sim.goB (decide_eq_true hc24) ?_
                                                  conv => arg 3; whnf
                                                  refine Sim.goB (decide_eq_true hc24) ?_
                                                  conv => arg 3; whnf
                                                  refine Sim.goB (decide_eq_true hc24) ?_
                                                  conv => arg 3; whnf
                                                  refine Sim.callR hR (r03_Bits_sim L0) ?_
                                                  rintro r9 q rfl
                                                  conv => arg 3; whnf
                                                  refine Sim.goB (decide_eq_true hc24) ?_
                                                  conv => arg 3; whnf
                                                  refine Sim.goF (decide_eq_false hc23) ?_
                                                  conv => arg 3; whnf
                                                  refine Sim.goB (decide_eq_true hc24) ?_
                                                  conv => arg 3; whnf
                                                  refine Sim.goF (decide_eq_false hc23) ?_
                                                  conv => arg 3; whnf
                                                  refine Sim.ite Iff.rfl (fun hc25 => ?_) (fun hc25 => ?_)
                                                  · conv => arg 3; whnf
                                                    refine Sim.goB (decide_eq_true hc25) ?_
                                                    conv => arg 3; whnf
                                                    refine Sim.goB (decide_eq_true hc25) ?_
                                                    conv => arg 3; whnf
                                                    refine Sim.goB (decide_eq_true hc25) ?_
                                                    conv => arg 3; whnf
                                                    refine Sim.goB (decide_eq_true hc25) ?_
                                                    conv => arg 3; whnf
                                                    refine Sim.goB (decide_eq_true hc25) ?_
                                                    conv => arg 3; whnf
                                                    refine Sim.goB (decide_eq_true hc25) ?_
                                                    conv => arg 3; whnf
                                                    exact Sim.ret ⟨_, rfl, rfl⟩
                                                  · conv => arg 3; whnf
                                                    refine Sim.goF (decide_eq_false hc25) ?_
                                                    conv => arg 3; whnf
                                                    refine Sim.goF (decide_eq_false hc25) ?_
                                                    conv => arg 3; whnf
                                                    refine Sim.ki hS (m := (List.length r5.Ports : Int)) (by simp) ?_
                                                    conv => arg 3; whnf
                                                    refine Sim.goF (decide_eq_false hc25) ?_
                                                    conv => arg 3; whnf
                                                    refine Sim.goF (decide_eq_false hc25) ?_
                                                    conv => arg 3; whnf
                                                    refine Sim.goF (decide_eq_false hc25) ?_
                                                    conv => arg 3; whnf
                                                    refine Sim.goF (decide_eq_false hc25) ?_
                                                    conv => arg 3; whnf
                                                    refine Sim.ite Iff.rfl (fun hc26 => ?_) (fun hc26 => ?_)
                                                    · conv => arg 3; whnf
                                                      refine Sim.goB (decide_eq_true hc26) ?_
                                                      conv => arg 3; whnf
                                                      refine Sim.goB (decide_eq_true hc26) ?_
                                                      conv => arg 3; whnf
                                                      refine Sim.goB (decide_eq_true hc26) ?_
                                                      conv => arg 3; whnf
                                                      refine Sim.goB (decide_eq_true hc26) ?_
                                                      conv => arg 3; whnf
                                                      refine Sim.goB (decide_eq_true hc26) ?_
                                                      conv => arg 3; whnf
                                                      refine Sim.goB (decide_eq_true hc26) ?_
                                                      conv => arg 3; whnf
                                                      refine Sim.goB (decide_eq_true hc26) ?_
                                                      conv => arg 3; whnf
                                                      refine Sim.goB (decide_eq_true hc26) ?_
                                                      conv => arg 3; whnf
                                                      refine Sim.goB (decide_eq_true hc26) ?_
                                                      conv => arg 3; whnf
                                                      exact Sim.ret ⟨_, rfl, rfl⟩
                                                    · conv => arg 3; whnf
                                                      refine Sim.goF (decide_eq_false hc26) ?_
                                                      conv => arg 3; whnf
                                                      refine Sim.goF (decide_eq_false hc26) ?_
                                                      conv => arg 3; whnf
                                                      refine Sim.ki hS (m := (List.length r5.Hold : Int)) (by simp) ?_
                                                      conv => arg 3; whnf
                                                      refine Sim.goF (decide_eq_false hc26) ?_
                                                      conv => arg 3; whnf
                                                      refine Sim.goF (decide_eq_false hc26) ?_
                                                      conv => arg 3; whnf
                                                      refine Sim.goF (decide_eq_false hc26) ?_
                                                      conv => arg 3; whnf
                                                      refine Sim.goF (decide_eq_false hc26) ?_
                                                      conv => arg 3; whnf
                                                      refine Sim.goF (decide_eq_false hc26) ?_
                                                      conv => arg 3; whnf
                                                      refine Sim.goF (decide_eq_false hc26) ?_
                                                      conv => arg 3; whnf
                                                      refine Sim.goF (decide_eq_false hc26) ?_
                                                      conv => arg 3; whnf
                                                      refine Sim.ite Iff.rfl (fun hc27 => ?_) (fun hc27 => ?_)
                                                      · conv => arg 3; whnf
                                                        refine Sim.goB (decide_eq_true hc27) ?_
                                                        conv => arg 3; whnf
                                                        refine Sim.goB (decide_eq_true hc27) ?_
                                                        conv => arg 3; whnf
                                                        refine Sim.goB (decide_eq_true hc27) ?_
                                                        conv => arg 3; whnf
                                                        refine Sim.goB (decide_eq_true hc27) ?_
                                                        conv => arg 3; whnf
                                                        exact Sim.ret ⟨_, rfl, rfl⟩
                                                      · conv => arg 3; whnf
                                                        refine Sim.goF (decide_eq_false hc27) ?_
                                                        conv => arg 3; whnf
                                                        refine Sim.goF (decide_eq_false hc27) ?_
                                                        conv => arg 3; whnf
                                                        refine Sim.ki hS (m := (List.length r5.Log : Int)) (by simp) ?_
                                                        conv => arg 3; whnf
                                                        refine Sim.goF (decide_eq_false hc27) ?_
                                                        conv => arg 3; whnf
                                                        refine Sim.goF (decide_eq_false hc27) ?_
                                                        conv => arg 3; whnf
                                                        refine Sim.ite Iff.rfl (fun hc28 => ?_) (fun hc28 => ?_)
                                                        · conv => arg 3; whnf
                                                          exact Sim.ret ⟨_, rfl, rfl⟩
                                                        · conv => arg 3; whnf
                                                          refine Sim.callR hR (l28_lists_sim L0 r5) ?_
                                                          rintro r10 q rfl
                                                          conv => arg 3; whnf
                                                          refine Sim.iteB (fun hc29 => ?_) (fun hc29 => ?_)
                                                          · conv => arg 3; whnf
                                                            refine Sim.callR hR (l28_known_sim) ?_
                                                            rintro r11 q rfl
                                                            conv => arg 3; whnf
                                                            refine Sim.goB hc29 ?_
                                                            conv => arg 3; whnf
                                                            exact Sim.ret ⟨_, rfl, rfl⟩
                                                          · conv => arg 3; whnf
                                                            refine Sim.goF hc29 ?_
                                                            conv => arg 3; whnf
                                                            exact Sim.ret ⟨_, rfl, rfl⟩
                                                · conv => arg 3; whnf
                                                  refine Sim.goF (decide_eq_false hc24) ?_
                                                  conv => arg 3; whnf
                                                  refine Sim.goF (decide_eq_false hc24) ?_
                                                  conv => arg 3; whnf
                                                  refine Sim.goF (decide_eq_false hc24) ?_
                                                  conv => arg 3; whnf
                                                  refine Sim.goF (decide_eq_false hc24) ?_
                                                  conv => arg 3; whnf
                                                  refine Sim.goF (decide_eq_false hc24) ?_
                                                  conv => arg 3; whnf
                                                  refine Sim.goF (decide_eq_false hc23) ?_
                                                  conv => arg 3; whnf
                                                  refine Sim.goF (decide_eq_false hc24) ?_
                                                  conv => arg 3; whnf
                                                  refine Sim.goF (decide_eq_false hc23) ?_
                                                  conv => arg 3; whnf
                                                  refine Sim.ki hS (m := (List.length r5.Ports : Int)) (by simp) ?_
                                                  conv => arg 3; whnf
                                                  refine Sim.ite Iff.rfl (fun hc30 => ?_) (fun hc30 => ?_)
                                                  · conv => arg 3; whnf
                                                    refine Sim.goB (decide_eq_true hc30) ?_
                                                    conv => arg 3; whnf
                                                    refine Sim.goB (decide_eq_true hc30) ?_
                                                    conv => arg 3; whnf
                                                    refine Sim.goB (decide_eq_true hc30) ?_
                                                    conv => arg 3; whnf
                                                    refine Sim.goB (decide_eq_true hc30) ?_
                                                    conv => arg 3; whnf
                                                    refine Sim.goB (decide_eq_true hc30) ?_
                                                    conv => arg 3; whnf
                                                    refine Sim.goB (decide_eq_true hc30) ?_
                                                    conv => arg 3; whnf
                                                    refine Sim.goB (decide_eq_true hc30) ?_
                                                    conv => arg 3; whnf
                                                    refine Sim.goB (decide_eq_true hc30) ?_
                                                    conv => arg 3; whnf
                                                    refine Sim.goB (decide_eq_true hc30) ?_
                                                    conv => arg 3; whnf
                                                    exact Sim.ret ⟨_, rfl, rfl⟩
                                                  · conv => arg 3; whnf
                                                    refine Sim.goF (decide_eq_false hc30) ?_
                                                    conv => arg 3; whnf
                                                    refine Sim.goF (decide_eq_false hc30) ?_
                                                    conv => arg 3; whnf
                                                    refine Sim.ki hS (m := (List.length r5.Hold : Int)) (by simp) ?_
                                                    conv => arg 3; whnf
                                                    refine Sim.goF (decide_eq_false hc30) ?_
                                                    conv => arg 3; whnf
                                                    refine Sim.goF (decide_eq_false hc30) ?_
                                                    conv => arg 3; whnf
                                                    refine Sim.goF (decide_eq_false hc30) ?_
                                                    conv => arg 3; whnf
                                                    refine Sim.goF (decide_eq_false hc30) ?_
                                                    conv => arg 3; whnf
                                                    refine Sim.goF (decide_eq_false hc30) ?_
                                                    conv => arg 3; whnf
                                                    refine Sim.goF (decide_eq_false hc30) ?_
                                                    conv => arg 3; whnf
                                                    refine Sim.goF (decide_eq_false hc30) ?_
                                                    conv => arg 3; whnf
                                                    refine Sim.ite Iff.rfl (fun hc31 => ?_) (fun hc31 => ?_)
                                                    · conv => arg 3; whnf
                                                      refine Sim.goB (decide_eq_true hc31) ?_
                                                      conv => arg 3; whnf
                                                      refine Sim.goB (decide_eq_true hc31) ?_
                                                      conv => arg 3; whnf
                                                      refine Sim.goB (decide_eq_true hc31) ?_
                                                      conv => arg 3; whnf
                                                      refine Sim.goB (decide_eq_true hc31) ?_
                                                      conv => arg 3; whnf
                                                      exact Sim.ret ⟨_, rfl, rfl⟩
                                                    · conv => arg 3; whnf
                                                      refine Sim.goF (decide_eq_false hc31) ?_
                                                      conv => arg 3; whnf
                                                      refine Sim.goF (decide_eq_false hc31) ?_
                                                      conv => arg 3; whnf
                                                      refine Sim.ki hS (m := (List.length r5.Log : Int)) (by simp) ?_
                                                      conv => arg 3; whnf
                                                      refine Sim.goF (decide_eq_false hc31) ?_
                                                      conv => arg 3; whnf
                                                      refine Sim.goF (decide_eq_false hc31) ?_
                                                      conv => arg 3; whnf
                                                      refine Sim.ite Iff.rfl (fun hc32 => ?_) (fun hc32 => ?_)
                                                      · conv => arg 3; whnf
                                                        exact Sim.ret ⟨_, rfl, rfl⟩
                                                      · conv => arg 3; whnf
                                                        refine Sim.callR hR (l28_lists_sim L0 r5) ?_
                                                        rintro r12 q rfl
                                                        conv => arg 3; whnf
                                                        refine Sim.iteB (fun hc33 => ?_) (fun hc33 => ?_)
                                                        · conv => arg 3; whnf
                                                          refine Sim.callR hR (l28_known_sim) ?_
                                                          rintro r13 q rfl
                                                          conv => arg 3; whnf
                                                          refine Sim.goB hc33 ?_
                                                          conv => arg 3; whnf
                                                          exact Sim.ret ⟨_, rfl, rfl⟩
                                                        · conv => arg 3; whnf
                                                          refine Sim.goF hc33 ?_
                                                          conv => arg 3; whnf
                                                          exact Sim.ret ⟨_, rfl, rfl⟩
                                            · conv => arg 3; whnf
                                              refine Sim.goF (decide_eq_false hc22) ?_
                                              conv => arg 3; whnf
                                              refine Sim.goF (decide_eq_false hc22) ?_
                                              conv => arg 3; whnf
                                              refine Sim.goF (decide_eq_false hc22) ?_
                                              conv => arg 3; whnf
                                              refine Sim.goF (decide_eq_false hc22) ?_
                                              conv => arg 3; whnf
                                              refine Sim.goF (decide_eq_false hc22) ?_
                                              conv => arg 3; whnf
                                              refine Sim.goF (decide_eq_false hc22) ?_
                                              conv => arg 3; whnf
                                              refine Sim.ite Iff.rfl (fun hc34 => ?_) (fun hc34 => ?_)
                                              · conv => arg 3; whnf
                                                refine Sim.goB (decide_eq_true hc34) ?_
                                                conv => arg 3; whnf
                                                refine Sim.goB (decide_eq_true hc34) ?_
                                                conv => arg 3; whnf
                                                refine Sim.goB (decide_eq_true hc34) ?_
                                                conv => arg 3; whnf
                                                refine Sim.goB (decide_eq_true hc34) ?_
                                                conv => arg 3; whnf
                                                refine Sim.callR hR (r03_Bits_sim L0) ?_
                                                rintro r14 q rfl
                                                conv => arg 3; whnf
                                                refine Sim.goB (decide_eq_true hc34) ?_
                                                conv => arg 3; whnf
                                                refine Sim.goB (decide_eq_true hc34) ?_
                                                conv => arg 3; whnf
                                                refine Sim.ite Iff.rfl (fun hc35 => ?_) (fun hc35 => ?_)
                                                · conv => arg 3; whnf
                                                  refine Sim.goB (decide_eq_true hc35) ?_
                                                  conv => arg 3; whnf
                                                  refine Sim.goB (decide_eq_true hc35) ?_
                                                  conv => arg 3; whnf
                                                  refine Sim.goB (decide_eq_true hc35) ?_
                                                  conv => arg 3; whnf
                                                  refine Sim.goB (decide_eq_true hc35) ?_
                                                  conv => arg 3; whnf
                                                  refine Sim.goB (decide_eq_true hc35) ?_
                                                  conv => arg 3; whnf
                                                  refine Sim.goB (decide_eq_true hc35) ?_
                                                  conv => arg 3; whnf
                                                  exact Sim.ret ⟨_, rfl, rfl⟩
                                                · conv => arg 3; whnf
                                                  refine Sim.goF (decide_eq_false hc35) ?_
                                                  conv => arg 3; whnf
                                                  refine Sim.goF (decide_eq_false hc35) ?_
                                                  conv => arg 3; whnf
                                                  refine Sim.ki hS (m := (List.length r5.Ports : Int)) (by simp) ?_
                                                  conv => arg 3; whnf
                                                  refine Sim.goF (decide_eq_false hc35) ?_
                                                  conv => arg 3; whnf
                                                  refine Sim.goF (decide_eq_false hc35) ?_
                                                  conv => arg 3; whnf
                                                  refine Sim.goF (decide_eq_false hc35) ?_
                                                  conv => arg 3; whnf
                                                  refine Sim.goF (decide_eq_false hc35) ?_
                                                  conv => arg 3; whnf
                                                  refine Sim.ite Iff.rfl (fun hc36 => ?_) (fun hc36 => ?_)
                                                  · conv => arg 3; whnf
                                                    refine Sim.goB (decide_eq_true hc36) ?_
                                                    conv => arg 3; whnf
                                                    refine Sim.goB (decide_eq_true hc36) ?_
                                                    conv => arg 3; whnf
                                                    refine Sim.goB (decide_eq_true hc36) ?_
                                                    conv => arg 3; whnf
                                                    refine Sim.goB (decide_eq_true hc36) ?_
                                                    conv => arg 3; whnf
                                                    refine Sim.goB (decide_eq_true hc36) ?_
                                                    conv => arg 3; whnf
                                                    refine Sim.goB (decide_eq_true hc36) ?_
                                                    conv => arg 3; whnf
                                                    refine Sim.goB (decide_eq_true hc36) ?_
                                                    conv => arg 3; whnf
                                                    refine Sim.goB (decide_eq_true hc36) ?_
                                                    conv => arg 3; whnf
                                                    refine Sim.goB (decide_eq_true hc36) ?_
                                                    conv => arg 3; whnf
                                                    exact Sim.ret ⟨_, rfl, rfl⟩
                                                  · conv => arg 3; whnf
                                                    refine Sim.goF (decide_eq_false hc36) ?_
                                                    conv => arg 3; whnf
                                                    refine Sim.goF (decide_eq_false hc36) ?_
                                                    conv => arg 3; whnf
                                                    refine Sim.ki hS (m := (List.length r5.Hold : Int)) (by simp) ?_
                                                    conv => arg 3; whnf
                                                    refine Sim.goF (decide_eq_false hc36) ?_
                                                    conv => arg 3; whnf
                                                    refine Sim.goF (decide_eq_false hc36) ?_
                                                    conv => arg 3; whnf
                                                    refine Sim.goF (decide_eq_false hc36) ?_
                                                    conv => arg 3; whnf
                                                    refine Sim.goF (decide_eq_false hc36) ?_
                                                    conv => arg 3; whnf
                                                    refine Sim.goF (decide_eq_false hc36) ?_
                                                    conv => arg 3; whnf
                                                    refine Sim.goF (decide_eq_false hc36) ?_
                                                    conv => arg 3; whnf
                                                    refine Sim.goF (decide_eq_false hc36) ?_
                                                    conv => arg 3; whnf
                                                    refine Sim.ite Iff.rfl (fun hc37 => ?_) (fun hc37 => ?_)
                                                    · conv => arg 3; whnf
                                                      refine Sim.goB (decide_eq_true hc37) ?_
                                                      conv => arg 3; whnf
                                                      refine Sim.goB (decide_eq_true hc37) ?_
                                                      conv => arg 3; whnf
                                                      refine Sim.goB (decide_eq_true hc37) ?_
                                                      conv => arg 3; whnf
                                                      refine Sim.goB (decide_eq_true hc37) ?_
                                                      conv => arg 3; whnf
                                                      exact Sim.ret ⟨_, rfl, rfl⟩
                                                    · conv => arg 3; whnf
                                                      refine Sim.goF (decide_eq_false hc37) ?_
                                                      conv => arg 3; whnf
                                                      refine Sim.goF (decide_eq_false hc37) ?_
                                                      conv => arg 3; whnf
                                                      refine Sim.ki hS (m := (List.length r5.Log : Int)) (by simp) ?_
                                                      conv => arg 3; whnf
                                                      refine Sim.goF (decide_eq_false hc37) ?_
                                                      conv => arg 3; whnf
                                                      refine Sim.goF (decide_eq_false hc37) ?_
                                                      conv => arg 3; whnf
                                                      refine Sim.ite Iff.rfl (fun hc38 => ?_) (fun hc38 => ?_)
                                                      · conv => arg 3; whnf
                                                        exact Sim.ret ⟨_, rfl, rfl⟩
                                                      · conv => arg 3; whnf
                                                        refine Sim.callR hR (l28_lists_sim L0 r5) ?_
                                                        rintro r15 q rfl
                                                        conv => arg 3; whnf
                                                        refine Sim.iteB (fun hc39 => ?_) (fun hc39 => ?_)
                                                        · conv => arg 3; whnf
                                                          refine Sim.callR hR (l28_known_sim) ?_
                                                          rintro r16 q rfl
                                                          conv => arg 3; whnf
                                                          refine Sim.goB hc39 ?_
                                                          conv => arg 3; whnf
                                                          exact Sim.ret ⟨_, rfl, rfl⟩
                                                        · conv => arg 3; whnf
                                                          refine Sim.goF hc39 ?_
                                                          conv => arg 3; whnf
                                                          exact Sim.ret ⟨_, rfl, rfl⟩
                                              · conv => arg 3; whnf
                                                refine Sim.goF (decide_eq_false hc34) ?_
                                                conv => arg 3; whnf
                                                refine Sim.goF (decide_eq_false hc34) ?_
                                                conv => arg 3; whnf
                                                refine Sim.goF (decide_eq_false hc34) ?_
                                                conv => arg 3; whnf
                                                refine Sim.goF (decide_eq_false hc34) ?_
                                                conv => arg 3; whnf
                                                refine Sim.goF (decide_eq_false hc34) ?_
                                                conv => arg 3; whnf
                                                refine Sim.goF (decide_eq_false hc34) ?_
                                                conv => arg 3; whnf
                                                refine Sim.ki hS (m := (List.length r5.Ports : Int)) (by simp) ?_
                                                conv => arg 3; whnf
                                                refine Sim.ite Iff.rfl (fun hc40 => ?_) (fun hc40 => ?_)
                                                · conv => arg 3; whnf
                                                  refine Sim.goB (decide_eq_true hc40) ?_
                                                  conv => arg 3; whnf
                                                  refine Sim.goB (decide_eq_true hc40) ?_
                                                  conv => arg 3; whnf
                                                  refine Sim.goB (decide_eq_true hc40) ?_
                                                  conv => arg 3; whnf
                                                  refine Sim.goB (decide_eq_true hc40) ?_
                                                  conv => arg 3; whnf
                                                  refine Sim.goB (decide_eq_true hc40) ?_
                                                  conv => arg 3; whnf
                                                  refine Sim.goB (decide_eq_true hc40) ?_
                                                  conv => arg 3; whnf
                                                  refine Sim.goB (decide_eq_true hc40) ?_
                                                  conv => arg 3; whnf
                                                  refine Sim.goB (decide_eq_true hc40) ?_
                                                  conv => arg 3; whnf
                                                  refine Sim.goB (decide_eq_true hc40) ?_
                                                  conv => arg 3; whnf
                                                  exact Sim.ret ⟨_, rfl, rfl⟩
                                                · conv => arg 3; whnf
                                                  refine Sim.goF (decide_eq_false hc40) ?_
                                                  conv => arg 3; whnf
                                                  refine Sim.goF (decide_eq_false hc40) ?_
                                                  conv => arg 3; whnf
                                                  refine Sim.ki hS (m := (List.length r5.Hold : Int)) (by simp) ?_
                                                  conv => arg 3; whnf
                                                  refine Sim.goF (decide_eq_false hc40) ?_
                                                  conv => arg 3; whnf
                                                  refine Sim.goF (decide_eq_false hc40) ?_
                                                  conv => arg 3; whnf
                                                  refine Sim.goF (decide_eq_false hc40) ?_
                                                  conv => arg 3; whnf
                                                  refine Sim.goF (decide_eq_false hc40) ?_
                                                  conv => arg 3; whnf
                                                  refine Sim.goF (decide_eq_false hc40) ?_
                                                  conv => arg 3; whnf
                                                  refine Sim.goF (decide_eq_false hc40) ?_
                                                  conv => arg 3; whnf
                                                  refine Sim.goF (decide_eq_false hc40) ?_
                                                  conv => arg 3; whnf
                                                  refine Sim.ite Iff.rfl (fun hc41 => ?_) (fun hc41 => ?_)
                                                  · conv => arg 3; whnf
                                                    refine Sim.goB (decide_eq_true hc41) ?_
                                                    conv => arg 3; whnf
                                                    refine Sim.goB (decide_eq_true hc41) ?_
                                                    conv => arg 3; whnf
                                                    refine Sim.goB (decide_eq_true hc41) ?_
                                                    conv => arg 3; whnf
                                                    refine Sim.goB (decide_eq_true hc41) ?_
                                                    conv => arg 3; whnf
                                                    exact Sim.ret ⟨_, rfl, rfl⟩
                                                  · conv => arg 3; whnf
                                                    refine Sim.goF (decide_eq_false hc41) ?_
                                                    conv => arg 3; whnf
                                                    refine Sim.goF (decide_eq_false hc41) ?_
                                                    conv => arg 3; whnf
                                                    refine Sim.ki hS (m := (List.length r5.Log : Int)) (by simp) ?_
                                                    conv => arg 3; whnf
                                                    refine Sim.goF (decide_eq_false hc41) ?_
                                                    conv => arg 3; whnf
                                                    refine Sim.goF (decide_eq_false hc41) ?_
                                                    conv => arg 3; whnf
                                                    refine Sim.ite Iff.rfl (fun hc42 => ?_) (fun hc42 => ?_)
                                                    · conv => arg 3; whnf
                                                      exact Sim.ret ⟨_, rfl, rfl⟩
                                                    · conv => arg 3; whnf
                                                      refine Sim.callR hR (l28_lists_sim L0 r5) ?_
                                                      rintro r17 q rfl
                                                      conv => arg 3; whnf
                                                      refine Sim.iteB (fun hc43 => ?_) (fun hc43 => ?_)
                                                      · conv => arg 3; whnf
                                                        refine Sim.callR hR (l28_known_sim) ?_
                                                        rintro r18 q rfl
                                                        conv => arg 3; whnf
                                                        refine Sim.goB hc43 ?_
                                                        conv => arg 3; whnf
                                                        exact Sim.ret ⟨_, rfl, rfl⟩
                                                      · conv => arg 3; whnf
                                                        refine Sim.goF hc43 ?_
                                                        conv => arg 3; whnf
                                                        exact Sim.ret ⟨_, rfl, rfl⟩
end Go.Proofs.Ytnbmaoendgafbaa
