/-
  The program's functions as plain functions (printed by a program of mine), each beside the machine's.
-/
import Derived.Test.YtfjlpfjpidikjaaGreatDoorFm
import Derived.Test.YtfjlpfjpidikjaaGreatDoorPFe
set_option linter.unusedVariables false
set_option linter.unusedSimpArgs false
set_option maxRecDepth 100000
set_option maxHeartbeats 4000000
namespace Go.Proofs.YtfjlpfjpidikjaaGreatDoor
open Go.Proofs.PF
noncomputable abbrev LM : MRec := lim M XE
structure Glines_writer where
  f_out : List Int
  deriving DecidableEq, Inhabited
@[reducible] def Glines_writer.cells (x : Glines_writer) : List AV := [lav u8av x.f_out]
@[reducible] def Glines_writer.av (x : Glines_writer) : AV := .agg [lav u8av x.f_out]
noncomputable def strings_Split (s sep : List UInt8) : Option (List (List UInt8)) := if s.length < 4294967281 ∧ 1 ≤ sep.length then some (Lib.split s sep) else none
theorem strings_Split_sim (s sep : List UInt8) : Sim (strings_Split s sep) (Gv fun r q => q = (lav sav r, [])) (LM.call n_strings_Split [.str s, .str sep] []) := by
  unfold strings_Split
  refine Sim.guard fun h => Sim.ret ⟨(lav sav (Lib.split s sep), []), ?_, rfl⟩
  rw [lim_ext_eq M XE rfl]
  first
  | (show (if s.length < 4294967281 ∧ 1 ≤ sep.length then some (lav sav (Lib.split s sep), ([] : List PF.Obj)) else none) = _; rw [if_pos h])
  | (show (match (if s.length < 4294967281 ∧ 1 ≤ sep.length then some (lav sav (Lib.split s sep), ([] : List PF.Obj)) else none) with
    | some r => some r
    | none => _) = _; rw [if_pos h])
noncomputable def strconv_Itoa (c : Int) : Option (List UInt8) := if -9223372036854775808 ≤ c ∧ c ≤ 9223372036854775807 then some (Lib.itoa c) else none
theorem strconv_Itoa_sim (c : Int) : Sim (strconv_Itoa c) (Gv fun r q => q = (.str r, [])) (LM.call n_strconv_Itoa [.int .i64 c] []) := by
  unfold strconv_Itoa
  refine Sim.guard fun h => Sim.ret ⟨(.str (Lib.itoa c), []), ?_, rfl⟩
  rw [lim_ext_eq M XE rfl]
  first
  | (show (if -9223372036854775808 ≤ c ∧ c ≤ 9223372036854775807 then some (AV.str (Lib.itoa c), ([] : List PF.Obj)) else none) = _; rw [if_pos h])
  | (show (match (if -9223372036854775808 ≤ c ∧ c ≤ 9223372036854775807 then some (AV.str (Lib.itoa c), ([] : List PF.Obj)) else none) with
    | some r => some r
    | none => _) = _; rw [if_pos h])
noncomputable def strings_IndexByte (s : List UInt8) (c : Int) : Option Int := some (Lib.indexByte s c.toNat.toUInt8)
theorem strings_IndexByte_sim (s : List UInt8) (c : Int) : Sim (strings_IndexByte s c) (Gv fun r q => q = (iav r, [])) (LM.call n_strings_IndexByte [.str s, u8av c] []) := by
  unfold strings_IndexByte
  refine Sim.ret ⟨(iav (Lib.indexByte s c.toNat.toUInt8), []), ?_, rfl⟩
  rw [lim_ext_eq M XE rfl]
  rfl
noncomputable def strings_Cut (s sep : List UInt8) : Option (List UInt8 × List UInt8 × Bool) := if s.length < 4294967281 then some (Lib.cut s sep) else none
theorem strings_Cut_sim (s sep : List UInt8) : Sim (strings_Cut s sep) (Gv fun r q => q = (.tup [.str r.1, .str r.2.1, .bool r.2.2], [])) (LM.call n_strings_Cut [.str s, .str sep] []) := by
  unfold strings_Cut
  refine Sim.guard fun h => Sim.ret ⟨(.tup [.str (Lib.cut s sep).1, .str (Lib.cut s sep).2.1, .bool (Lib.cut s sep).2.2], []), ?_, rfl⟩
  rw [lim_ext_eq M XE rfl]
  first
  | (show (if s.length < 4294967281 then some (AV.tup [.str (Lib.cut s sep).1, .str (Lib.cut s sep).2.1, .bool (Lib.cut s sep).2.2], ([] : List PF.Obj)) else none) = _; rw [if_pos h])
  | (show (match (if s.length < 4294967281 then some (AV.tup [.str (Lib.cut s sep).1, .str (Lib.cut s sep).2.1, .bool (Lib.cut s sep).2.2], ([] : List PF.Obj)) else none) with
    | some r => some r
    | none => _) = _; rw [if_pos h])
def l40_known : Option Bool := some true
theorem l40_known_sim : Sim l40_known (Gv fun r q => q = (.bool r, [])) (LM.call n_l40_known [] []) := Sim.ret ⟨_, (lim_call M XE).2 ⟨400, by kernel_rfl⟩, rfl⟩
noncomputable def lines_word_0_step (s2 : List UInt8) (out : List Int) (i0 : Int) : Option (((List Int) × Int) ⊕ (((List UInt8) × Bool × (List Int)) ⊕ ((List Int)))) :=
  if (wr (i0 + 1)) < (List.length s2 : Int) then
    (idx? s2 i0).bind fun b0 =>
    (strings_IndexByte ([48, 49, 50, 51, 52, 53, 54, 55, 56, 57, 97, 98, 99, 100, 101, 102] : List UInt8) (UInt8.toNat b0 : Int)).bind fun r0 =>
    (idx? s2 (wr (i0 + 1))).bind fun b2 =>
    (strings_IndexByte ([48, 49, 50, 51, 52, 53, 54, 55, 56, 57, 97, 98, 99, 100, 101, 102] : List UInt8) (UInt8.toNat b2 : Int)).bind fun r2 =>
    if r0 < 0 then
      some (.inr (.inl (([] : List UInt8), false, out)))
    else
      if r2 < 0 then
        some (.inr (.inl (([] : List UInt8), false, out)))
      else
        if List.length out + List.length [(w8 (orI .i64 (shlI .i64 r0 4) r2))] ≤ lenMax then
          some (.inl ((out ++ [(w8 (orI .i64 (shlI .i64 r0 4) r2))]), (wr (i0 + 2))))
        else none
  else
    some (.inr (.inr out))
noncomputable def lines_word_0 (s2 : List UInt8) (out : List Int) (i0 : Int) : Option (((List UInt8) × Bool × (List Int)) ⊕ ((List Int))) :=
  loopO (fun s : (List Int) × Int => lines_word_0_step s2 s.1 s.2) (out, i0)
@[reducible] def lines_word_0_st (s2 : List UInt8) (out : List Int) (i0 : Int) (g0 : Gr) : PF.St := ⟨[(0, .str s2), (4, .lst g0 (List.map u8av out)), (5, iav i0)], []⟩
def lines_word_0_rel (s2 : List UInt8) (r : (((List UInt8) × Bool × (List Int)) ⊕ ((List Int)))) (q : Ex × PF.St) : Prop := (fun r (q : Ex × PF.St) => Sum.elim (fun r => (fun r (q : Ex × PF.St) => ∃ g0', q = (Ex.ret, ⟨[(0, .str s2), (2, .str r.1), (3, .bool r.2.1), (4, .lst g0' (List.map u8av r.2.2))], []⟩) ∧ Mg 1 g0') r q) (fun r => (fun r (q : Ex × PF.St) => ∃ g0', q = ((.exit 0), ⟨[(0, .str s2), (2, .undef), (3, .undef), (4, .lst g0' (List.map u8av r))], []⟩) ∧ Mg 1 g0') r q) r) r q
def lines_word_0_inv (s2 : List UInt8) (v : (List Int) × Int) (e : PF.St) : Prop := ∃ g0, e = lines_word_0_st s2 v.1 v.2 g0 ∧ Mg 1 g0
theorem lines_word_0_sim (s2 : List UInt8) (out : List Int) (i0 : Int) (g0 : Gr) (hg0 : Mg 1 g0) (s : PF.St) (hk : keep [0, 4, 5] [] s = some (lines_word_0_st s2 out i0 g0)) : Sim (lines_word_0 s2 out i0) (Gv (lines_word_0_rel s2)) (LM.loop ([0, 4, 5], [], [0, 2, 3, 4], B_lines_word_0) s) := by
  refine sim_loop M XE (lines_word_0_inv s2) (lines_word_0_rel s2) ?_ _ _ _ hk ⟨g0, rfl, hg0⟩
  clear hk hg0
  rintro S hS hw hw8 R hR ⟨out, i0⟩ env hp ⟨g0, he, hg0⟩
  change (⟨env, hp⟩ : PF.St) = lines_word_0_st s2 out i0 g0 at he
  cases he
  show Sim (lines_word_0_step s2 out i0) _ _
  unfold lines_word_0_step
  simp only [hw, hw8]
  refine au (.ite Iff.rfl (fun hc2 => ?_) fun hc2 => ?_)
  · refine au ?_
    refine Sim.ix rfl (fun b0 hb0 => ?_)
    refine au ?_
    refine Sim.go hb0 ?_
    refine au (cE hR (strings_IndexByte_sim _ _) fun r0 => ?_)
    refine au ?_
    refine Sim.ix rfl (fun b2 hb2 => ?_)
    refine au ?_
    refine Sim.go hb2 ?_
    refine au (cE hR (strings_IndexByte_sim _ _) fun r2 => ?_)
    refine au (.ite Iff.rfl (fun hc3 => ?_) fun hc3 => ?_)
    · refine au ?_
      exact Sim.ret ⟨_, rfl, ⟨_, rfl, hg0⟩⟩
    · refine au (.ite Iff.rfl (fun hc4 => ?_) fun hc4 => ?_)
      · refine au ?_
        exact Sim.ret ⟨_, rfl, ⟨_, rfl, hg0⟩⟩
      · refine au ?_
        refine Sim.kl hS (ys := List.map u8av [(S.w8 (orI .i64 (shlI .i64 r0 4) r2))]) rfl ?_
        refine au ?_
        first | (refine Sim.goB (may_map (by intro _; rfl) hg0 _) ?_) | skip
        refine au ?_
        first | (refine Sim.goB (okE_map (by intro _; exact ⟨rfl, rfl, rfl⟩) _) ?_) | skip
        refine au ?_
        first | refine Sim.ite (by simp) (fun _ => ?_) (fun _ => Sim.no) | refine Sim.guard (fun _ => ?_)
        refine au ?_
        refine Sim.kl hS (ys := List.map u8av (out ++ [(S.w8 (orI .i64 (shlI .i64 r0 4) r2))])) (by simp) ?_
        refine au ?_
        exact Sim.ret ⟨_, _, rfl, rfl, ⟨_, rfl, Mg.own⟩⟩
  · refine au ?_
    exact Sim.ret ⟨_, rfl, ⟨_, rfl, hg0⟩⟩
noncomputable def lines_word (s0 : List UInt8) : Option ((List UInt8) × Bool) :=
  if s0 = ([45] : List UInt8) then
    some (([] : List UInt8), true)
  else
    if 0 ≤ (wr (Int.tdiv (List.length s0 : Int) 2)) ∧ (wr (Int.tdiv (List.length s0 : Int) 2)) ≤ lenMax then
      (lines_word_0 s0 ([] : List Int) 0).bind fun r3 =>
      Sum.elim
        (fun r4 =>
          some (r4.1, r4.2.1))
        (fun r5 =>
          if 0 < (List.length s0 : Int) then
            some ((bytesOf r5), (decide ((Int.tmod (List.length s0 : Int) 2) = 0)))
          else
            some ((bytesOf r5), false))
        r3
    else none
theorem lines_word_sim (s0 : List UInt8) : Sim (lines_word s0) (Gv fun r q => q = (.tup [.str r.1, .bool r.2], [])) (LM.call n_lines_word [.str s0] []) := by
  unfold lines_word
  refine sim_evR M XE rfl rfl fun S hS hw hw8 R hR => ?_
  simp only [hw]
  refine au (.ite Iff.rfl (fun hc => ?_) fun hc => ?_)
  · exact au (.ret ⟨_, rfl, rfl⟩)
  · refine au ?_
    first | refine Sim.ite Iff.rfl (fun _ => ?_) (fun _ => Sim.no) | refine Sim.guard (fun _ => ?_)
    refine au ?_
    refine Sim.callL hR (lines_word_0_sim s0 ([] : List Int) 0 (.own 1) Mg.own _ rfl) ?_
    rintro r3 q hr
    rcases r3 with r4 | r5
    · obtain ⟨g2, rfl, hg2⟩ := hr
      exact au (.ret ⟨_, rfl, rfl⟩)
    · obtain ⟨g3, rfl, hg3⟩ := hr
      refine au ?_
      refine Sim.go (bytes_mapM _) ?_
      refine au (.ite Iff.rfl (fun hc5 => ?_) fun hc5 => ?_)
      · exact au (.ret ⟨_, rfl, rfl⟩)
      · exact au (.ret ⟨_, rfl, rfl⟩)
noncomputable def lines_Bytes (s0 : List UInt8) : Option ((List UInt8) × Bool) :=
  (lines_word s0).bind fun r0 =>
  if (!r0.2) = true then
    some (([] : List UInt8), false)
  else
    some (r0.1, true)
theorem lines_Bytes_sim (s0 : List UInt8) : Sim (lines_Bytes s0) (Gv fun r q => q = (.tup [.str r.1, .bool r.2], [])) (LM.call n_lines_Bytes [.str s0] []) := by
  unfold lines_Bytes
  refine sim_evR M XE rfl rfl fun S hS hw hw8 R hR => ?_
  refine au (cE hR (lines_word_sim _) fun r0 => ?_)
  refine au (.iteB (fun hc => ?_) fun hc => ?_)
  · exact au (.ret ⟨_, rfl, rfl⟩)
  · exact au (.ret ⟨_, rfl, rfl⟩)
noncomputable def r40_nibble (b0 : Int) : Option Int :=
  if 48 ≤ b0 then
    if b0 ≤ 57 then
      some (wr (IntKind.wrap .u8 (b0 - 48)))
    else
      if 97 ≤ b0 then
        if b0 ≤ 102 then
          some (wr ((wr (IntKind.wrap .u8 (b0 - 97))) + 10))
        else
          some (-1)
      else
        some (-1)
  else
    if 97 ≤ b0 then
      if b0 ≤ 102 then
        some (wr ((wr (IntKind.wrap .u8 (b0 - 97))) + 10))
      else
        some (-1)
    else
      some (-1)
theorem r40_nibble_sim (b0 : Int) : Sim (r40_nibble b0) (Gv fun r q => q = (iav r, [])) (LM.call n_r40_nibble [u8av b0] []) := by
  unfold r40_nibble
  refine sim_evR M XE rfl rfl fun S hS hw hw8 R hR => ?_
  simp only [hw]
  refine au (.ite Iff.rfl (fun hc => ?_) fun hc => ?_)
  · refine au (.ite Iff.rfl (fun hc2 => ?_) fun hc2 => ?_)
    · exact au (.ret ⟨_, rfl, rfl⟩)
    · refine au (.ite Iff.rfl (fun hc3 => ?_) fun hc3 => ?_)
      · refine au (.ite Iff.rfl (fun hc4 => ?_) fun hc4 => ?_)
        · exact au (.ret ⟨_, rfl, rfl⟩)
        · exact au (.ret ⟨_, rfl, rfl⟩)
      · exact au (.ret ⟨_, rfl, rfl⟩)
  · refine au (.ite Iff.rfl (fun hc5 => ?_) fun hc5 => ?_)
    · refine au (.ite Iff.rfl (fun hc6 => ?_) fun hc6 => ?_)
      · exact au (.ret ⟨_, rfl, rfl⟩)
      · exact au (.ret ⟨_, rfl, rfl⟩)
    · exact au (.ret ⟨_, rfl, rfl⟩)
noncomputable def r40_bytes_0_step (s2 : List UInt8) (out : List Int) (i0 : Int) : Option (((List Int) × Int) ⊕ (((List UInt8) × Bool × (List Int)) ⊕ ((List Int)))) :=
  if i0 < (List.length s2 : Int) then
    (idx? s2 i0).bind fun b0 =>
    (r40_nibble (UInt8.toNat b0 : Int)).bind fun r0 =>
    (idx? s2 (wr (i0 + 1))).bind fun b2 =>
    (r40_nibble (UInt8.toNat b2 : Int)).bind fun r2 =>
    if r0 < 0 then
      some (.inr (.inl (([] : List UInt8), false, out)))
    else
      if r2 < 0 then
        some (.inr (.inl (([] : List UInt8), false, out)))
      else
        if List.length out + List.length [(w8 (wr ((wr (16 * r0)) + r2)))] ≤ lenMax then
          some (.inl ((out ++ [(w8 (wr ((wr (16 * r0)) + r2)))]), (wr (i0 + 2))))
        else none
  else
    some (.inr (.inr out))
noncomputable def r40_bytes_0 (s2 : List UInt8) (out : List Int) (i0 : Int) : Option (((List UInt8) × Bool × (List Int)) ⊕ ((List Int))) :=
  loopO (fun s : (List Int) × Int => r40_bytes_0_step s2 s.1 s.2) (out, i0)
@[reducible] def r40_bytes_0_st (s2 : List UInt8) (out : List Int) (i0 : Int) (g0 : Gr) : PF.St := ⟨[(0, .str s2), (4, .lst g0 (List.map u8av out)), (5, iav i0)], []⟩
def r40_bytes_0_rel (s2 : List UInt8) (r : (((List UInt8) × Bool × (List Int)) ⊕ ((List Int)))) (q : Ex × PF.St) : Prop := (fun r (q : Ex × PF.St) => Sum.elim (fun r => (fun r (q : Ex × PF.St) => ∃ g0', q = (Ex.ret, ⟨[(2, .str r.1), (3, .bool r.2.1), (4, .lst g0' (List.map u8av r.2.2))], []⟩) ∧ Mg 1 g0') r q) (fun r => (fun r (q : Ex × PF.St) => ∃ g0', q = ((.exit 0), ⟨[(2, .undef), (3, .undef), (4, .lst g0' (List.map u8av r))], []⟩) ∧ Mg 1 g0') r q) r) r q
def r40_bytes_0_inv (s2 : List UInt8) (v : (List Int) × Int) (e : PF.St) : Prop := ∃ g0, e = r40_bytes_0_st s2 v.1 v.2 g0 ∧ Mg 1 g0
theorem r40_bytes_0_sim (s2 : List UInt8) (out : List Int) (i0 : Int) (g0 : Gr) (hg0 : Mg 1 g0) (s : PF.St) (hk : keep [0, 4, 5] [] s = some (r40_bytes_0_st s2 out i0 g0)) : Sim (r40_bytes_0 s2 out i0) (Gv (r40_bytes_0_rel s2)) (LM.loop ([0, 4, 5], [], [2, 3, 4], B_r40_bytes_0) s) := by
  refine sim_loop M XE (r40_bytes_0_inv s2) (r40_bytes_0_rel s2) ?_ _ _ _ hk ⟨g0, rfl, hg0⟩
  clear hk hg0
  rintro S hS hw hw8 R hR ⟨out, i0⟩ env hp ⟨g0, he, hg0⟩
  change (⟨env, hp⟩ : PF.St) = r40_bytes_0_st s2 out i0 g0 at he
  cases he
  show Sim (r40_bytes_0_step s2 out i0) _ _
  unfold r40_bytes_0_step
  simp only [hw, hw8]
  refine au (.ite Iff.rfl (fun hc4 => ?_) fun hc4 => ?_)
  · refine au ?_
    refine Sim.ix rfl (fun b0 hb0 => ?_)
    refine au ?_
    refine Sim.go hb0 ?_
    refine au (cE hR (r40_nibble_sim _) fun r0 => ?_)
    refine au ?_
    refine Sim.ix rfl (fun b2 hb2 => ?_)
    refine au ?_
    refine Sim.go hb2 ?_
    refine au (cE hR (r40_nibble_sim _) fun r2 => ?_)
    refine au (.ite Iff.rfl (fun hc5 => ?_) fun hc5 => ?_)
    · refine au ?_
      exact Sim.ret ⟨_, rfl, ⟨_, rfl, hg0⟩⟩
    · refine au (.ite Iff.rfl (fun hc6 => ?_) fun hc6 => ?_)
      · refine au ?_
        exact Sim.ret ⟨_, rfl, ⟨_, rfl, hg0⟩⟩
      · refine au ?_
        refine Sim.kl hS (ys := List.map u8av [(S.w8 (S.wr ((S.wr (16 * r0)) + r2)))]) rfl ?_
        refine au ?_
        first | (refine Sim.goB (may_map (by intro _; rfl) hg0 _) ?_) | skip
        refine au ?_
        first | (refine Sim.goB (okE_map (by intro _; exact ⟨rfl, rfl, rfl⟩) _) ?_) | skip
        refine au ?_
        first | refine Sim.ite (by simp) (fun _ => ?_) (fun _ => Sim.no) | refine Sim.guard (fun _ => ?_)
        refine au ?_
        refine Sim.kl hS (ys := List.map u8av (out ++ [(S.w8 (S.wr ((S.wr (16 * r0)) + r2)))])) (by simp) ?_
        refine au ?_
        exact Sim.ret ⟨_, _, rfl, rfl, ⟨_, rfl, Mg.own⟩⟩
  · refine au ?_
    exact Sim.ret ⟨_, rfl, ⟨_, rfl, hg0⟩⟩
noncomputable def r40_bytes (s0 : List UInt8) : Option ((List UInt8) × Bool) :=
  if s0 = ([45] : List UInt8) then
    some (([] : List UInt8), true)
  else
    if (List.length s0 : Int) = 0 then
      some (([] : List UInt8), false)
    else
      if (Int.tmod (List.length s0 : Int) 2) = 1 then
        some (([] : List UInt8), false)
      else
        (r40_bytes_0 s0 ([] : List Int) 0).bind fun r3 =>
        Sum.elim
          (fun r4 =>
            some (r4.1, r4.2.1))
          (fun r5 =>
            some ((bytesOf r5), true))
          r3
theorem r40_bytes_sim (s0 : List UInt8) : Sim (r40_bytes s0) (Gv fun r q => q = (.tup [.str r.1, .bool r.2], [])) (LM.call n_r40_bytes [.str s0] []) := by
  unfold r40_bytes
  refine sim_evR M XE rfl rfl fun S hS hw hw8 R hR => ?_
  refine au (.ite Iff.rfl (fun hc => ?_) fun hc => ?_)
  · exact au (.ret ⟨_, rfl, rfl⟩)
  · refine au (.ite Iff.rfl (fun hc2 => ?_) fun hc2 => ?_)
    · exact au (.ret ⟨_, rfl, rfl⟩)
    · refine au (.ite Iff.rfl (fun hc3 => ?_) fun hc3 => ?_)
      · exact au (.ret ⟨_, rfl, rfl⟩)
      · refine au ?_
        refine Sim.callL hR (r40_bytes_0_sim s0 ([] : List Int) 0 .full Mg.full _ rfl) ?_
        rintro r3 q hr
        rcases r3 with r4 | r5
        · obtain ⟨g2, rfl, hg2⟩ := hr
          exact au (.ret ⟨_, rfl, rfl⟩)
        · obtain ⟨g3, rfl, hg3⟩ := hr
          refine au ?_
          refine Sim.go (bytes_mapM _) ?_
          exact au (.ret ⟨_, rfl, rfl⟩)
noncomputable def r40_Bytes (s0 : List UInt8) : Option ((List UInt8) × Bool) :=
  (r40_bytes s0).bind fun r0 =>
  some (r0.1, r0.2)
theorem r40_Bytes_sim (s0 : List UInt8) : Sim (r40_Bytes s0) (Gv fun r q => q = (.tup [.str r.1, .bool r.2], [])) (LM.call n_r40_Bytes [.str s0] []) := by
  unfold r40_Bytes
  refine sim_evR M XE rfl rfl fun S hS hw hw8 R hR => ?_
  refine au (cE hR (r40_bytes_sim _) fun r0 => ?_)
  exact au (.ret ⟨_, rfl, rfl⟩)
noncomputable def lines_number_0_step (s2 : List UInt8) (x0 : Int) (n0 : Int) (x2 : Int) : Option ((Int × Int) ⊕ ((Int × Bool × Int) ⊕ (Int))) :=
  if x2 < x0 then
    (idx? s2 x2).bind fun b2 =>
    if (wr ((wr (UInt8.toNat b2 : Int)) - 48)) < 0 then
      some (.inr (.inl (0, false, n0)))
    else
      if 9 < (wr ((wr (UInt8.toNat b2 : Int)) - 48)) then
        some (.inr (.inl (0, false, n0)))
      else
        some (.inl ((wr ((wr (10 * n0)) + (wr ((wr (UInt8.toNat b2 : Int)) - 48)))), (wr (x2 + 1))))
  else
    some (.inr (.inr n0))
noncomputable def lines_number_0 (s2 : List UInt8) (x0 : Int) (n0 : Int) (x2 : Int) : Option ((Int × Bool × Int) ⊕ (Int)) :=
  loopO (fun s : Int × Int => lines_number_0_step s2 x0 s.1 s.2) (n0, x2)
@[reducible] def lines_number_0_st (s2 : List UInt8) (x0 : Int) (n0 : Int) (x2 : Int) : PF.St := ⟨[(0, .str s2), (4, iav n0), (21, iav x0), (22, iav x2)], []⟩
def lines_number_0_rel (s2 : List UInt8) (x0 : Int) (r : ((Int × Bool × Int) ⊕ (Int))) (q : Ex × PF.St) : Prop := (fun r (q : Ex × PF.St) => Sum.elim (fun r => (fun r (q : Ex × PF.St) => q = (Ex.ret, ⟨[(0, .str s2), (2, iav r.1), (3, .bool r.2.1), (4, iav r.2.2)], []⟩)) r q) (fun r => (fun r (q : Ex × PF.St) => q = ((.exit 0), ⟨[(0, .str s2), (2, .undef), (3, .undef), (4, iav r)], []⟩)) r q) r) r q
def lines_number_0_inv (s2 : List UInt8) (x0 : Int) (v : Int × Int) (e : PF.St) : Prop := e = lines_number_0_st s2 x0 v.1 v.2
theorem lines_number_0_sim (s2 : List UInt8) (x0 : Int) (n0 : Int) (x2 : Int) (s : PF.St) (hk : keep [0, 4, 21, 22] [] s = some (lines_number_0_st s2 x0 n0 x2)) : Sim (lines_number_0 s2 x0 n0 x2) (Gv (lines_number_0_rel s2 x0)) (LM.loop ([0, 4, 21, 22], [], [0, 2, 3, 4], B_lines_number_0) s) := by
  refine sim_loop M XE (lines_number_0_inv s2 x0) (lines_number_0_rel s2 x0) ?_ _ _ _ hk rfl
  clear hk
  rintro S hS hw hw8 R hR ⟨n0, x2⟩ env hp he
  change (⟨env, hp⟩ : PF.St) = lines_number_0_st s2 x0 n0 x2 at he
  cases he
  show Sim (lines_number_0_step s2 x0 n0 x2) _ _
  unfold lines_number_0_step
  simp only [hw]
  refine au (.ite Iff.rfl (fun hc4 => ?_) fun hc4 => ?_)
  · refine au ?_
    refine Sim.ix rfl (fun b2 hb2 => ?_)
    refine au ?_
    refine Sim.go hb2 ?_
    refine au (.ite Iff.rfl (fun hc5 => ?_) fun hc5 => ?_)
    · exact au (.ret ⟨_, rfl, rfl⟩)
    · refine au (.ite Iff.rfl (fun hc6 => ?_) fun hc6 => ?_)
      · exact au (.ret ⟨_, rfl, rfl⟩)
      · refine au ?_
        exact Sim.ret ⟨_, _, rfl, rfl, rfl⟩
  · exact au (.ret ⟨_, rfl, rfl⟩)
noncomputable def lines_number_0a_step (s3 : List UInt8) (x3 : Int) (n2 : Int) (x4 : Int) : Option ((Int × Int) ⊕ ((Int × Bool × Int) ⊕ (Int))) :=
  if x4 < x3 then
    (idx? s3 x4).bind fun b3 =>
    if (wr ((wr (UInt8.toNat b3 : Int)) - 48)) < 0 then
      some (.inr (.inl (0, false, n2)))
    else
      if 9 < (wr ((wr (UInt8.toNat b3 : Int)) - 48)) then
        some (.inr (.inl (0, false, n2)))
      else
        some (.inl ((wr ((wr (10 * n2)) + (wr ((wr (UInt8.toNat b3 : Int)) - 48)))), (wr (x4 + 1))))
  else
    some (.inr (.inr n2))
noncomputable def lines_number_0a (s3 : List UInt8) (x3 : Int) (n2 : Int) (x4 : Int) : Option ((Int × Bool × Int) ⊕ (Int)) :=
  loopO (fun s : Int × Int => lines_number_0a_step s3 x3 s.1 s.2) (n2, x4)
@[reducible] def lines_number_0a_st (s3 : List UInt8) (x3 : Int) (n2 : Int) (x4 : Int) : PF.St := ⟨[(0, .str s3), (4, iav n2), (21, iav x3), (22, iav x4)], []⟩
def lines_number_0a_rel (s3 : List UInt8) (x3 : Int) (r : ((Int × Bool × Int) ⊕ (Int))) (q : Ex × PF.St) : Prop := (fun r (q : Ex × PF.St) => Sum.elim (fun r => (fun r (q : Ex × PF.St) => q = (Ex.ret, ⟨[(0, .str s3), (2, iav r.1), (3, .bool r.2.1), (4, iav r.2.2)], []⟩)) r q) (fun r => (fun r (q : Ex × PF.St) => q = ((.exit 0), ⟨[(0, .str s3), (2, .undef), (3, .undef), (4, iav r)], []⟩)) r q) r) r q
def lines_number_0a_inv (s3 : List UInt8) (x3 : Int) (v : Int × Int) (e : PF.St) : Prop := e = lines_number_0a_st s3 x3 v.1 v.2
theorem lines_number_0a_sim (s3 : List UInt8) (x3 : Int) (n2 : Int) (x4 : Int) (s : PF.St) (hk : keep [0, 4, 21, 22] [] s = some (lines_number_0a_st s3 x3 n2 x4)) : Sim (lines_number_0a s3 x3 n2 x4) (Gv (lines_number_0a_rel s3 x3)) (LM.loop ([0, 4, 21, 22], [], [0, 2, 3, 4], B_lines_number_0) s) := by
  refine sim_loop M XE (lines_number_0a_inv s3 x3) (lines_number_0a_rel s3 x3) ?_ _ _ _ hk rfl
  clear hk
  rintro S hS hw hw8 R hR ⟨n2, x4⟩ env hp he
  change (⟨env, hp⟩ : PF.St) = lines_number_0a_st s3 x3 n2 x4 at he
  cases he
  show Sim (lines_number_0a_step s3 x3 n2 x4) _ _
  unfold lines_number_0a_step
  simp only [hw]
  refine au (.ite Iff.rfl (fun hc7 => ?_) fun hc7 => ?_)
  · refine au ?_
    refine Sim.ix rfl (fun b3 hb3 => ?_)
    refine au ?_
    refine Sim.go hb3 ?_
    refine au (.ite Iff.rfl (fun hc8 => ?_) fun hc8 => ?_)
    · exact au (.ret ⟨_, rfl, rfl⟩)
    · refine au (.ite Iff.rfl (fun hc9 => ?_) fun hc9 => ?_)
      · exact au (.ret ⟨_, rfl, rfl⟩)
      · refine au ?_
        exact Sim.ret ⟨_, _, rfl, rfl, rfl⟩
  · exact au (.ret ⟨_, rfl, rfl⟩)
noncomputable def lines_number (s0 : List UInt8) : Option (Int × Bool) :=
  if 6 < (List.length s0 : Int) then
    some (0, false)
  else
    if 1 < (List.length s0 : Int) then
      (idx? s0 0).bind fun b0 =>
      if (UInt8.toNat b0 : Int) = 48 then
        some (0, false)
      else
        (lines_number_0 s0 (List.length s0 : Int) 0 0).bind fun r0 =>
        Sum.elim
          (fun r2 =>
            some (r2.1, r2.2.1))
          (fun r3 =>
            some (r3, (decide (s0 ≠ ([] : List UInt8)))))
          r0
    else
      (lines_number_0a s0 (List.length s0 : Int) 0 0).bind fun r4 =>
      Sum.elim
        (fun r5 =>
          some (r5.1, r5.2.1))
        (fun r6 =>
          some (r6, (decide (s0 ≠ ([] : List UInt8)))))
        r4
theorem lines_number_sim (s0 : List UInt8) : Sim (lines_number s0) (Gv fun r q => q = (.tup [iav r.1, .bool r.2], [])) (LM.call n_lines_number [.str s0] []) := by
  unfold lines_number
  refine sim_evR M XE rfl rfl fun S hS hw hw8 R hR => ?_
  refine au (.ite Iff.rfl (fun hc => ?_) fun hc => ?_)
  · exact au (.ret ⟨_, rfl, rfl⟩)
  · refine au (.ite Iff.rfl (fun hc2 => ?_) fun hc2 => ?_)
    · refine au ?_
      refine Sim.ix rfl (fun b0 hb0 => ?_)
      refine au ?_
      refine Sim.go hb0 ?_
      refine au (.ite Iff.rfl (fun hc3 => ?_) fun hc3 => ?_)
      · exact au (.ret ⟨_, rfl, rfl⟩)
      · refine au ?_
        refine Sim.callL hR (lines_number_0_sim s0 (List.length s0 : Int) 0 0 _ rfl) ?_
        rintro r0 q hr
        rcases r0 with r2 | r3
        · cases hr
          exact au (.ret ⟨_, rfl, rfl⟩)
        · cases hr
          exact au (.ret ⟨_, rfl, rfl⟩)
    · refine au ?_
      refine Sim.callL hR (lines_number_0a_sim s0 (List.length s0 : Int) 0 0 _ rfl) ?_
      rintro r4 q hr
      rcases r4 with r5 | r6
      · cases hr
        exact au (.ret ⟨_, rfl, rfl⟩)
      · cases hr
        exact au (.ret ⟨_, rfl, rfl⟩)
noncomputable def lines_Number (s0 : List UInt8) : Option (Int × Bool) :=
  (lines_number s0).bind fun r0 =>
  if (!r0.2) = true then
    some (0, false)
  else
    some (r0.1, true)
theorem lines_Number_sim (s0 : List UInt8) : Sim (lines_Number s0) (Gv fun r q => q = (.tup [iav r.1, .bool r.2], [])) (LM.call n_lines_Number [.str s0] []) := by
  unfold lines_Number
  refine sim_evR M XE rfl rfl fun S hS hw hw8 R hR => ?_
  refine au (cE hR (lines_number_sim _) fun r0 => ?_)
  refine au (.iteB (fun hc => ?_) fun hc => ?_)
  · exact au (.ret ⟨_, rfl, rfl⟩)
  · exact au (.ret ⟨_, rfl, rfl⟩)
noncomputable def r40_number_0_step (s2 : List UInt8) (n0 : Int) (i0 : Int) : Option ((Int × Int) ⊕ ((Int × Int) ⊕ (Int))) :=
  if i0 < (List.length s2 : Int) then
    (idx? s2 i0).bind fun b2 =>
    if (UInt8.toNat b2 : Int) < 48 then
      some (.inr (.inl ((-1), n0)))
    else
      (idx? s2 i0).bind fun b3 =>
      if 57 < (UInt8.toNat b3 : Int) then
        some (.inr (.inl ((-1), n0)))
      else
        (idx? s2 i0).bind fun b4 =>
        some (.inl ((wr ((wr (10 * n0)) + (wr (IntKind.wrap .u8 ((UInt8.toNat b4 : Int) - 48))))), (wr (i0 + 1))))
  else
    some (.inr (.inr n0))
noncomputable def r40_number_0 (s2 : List UInt8) (n0 : Int) (i0 : Int) : Option ((Int × Int) ⊕ (Int)) :=
  loopO (fun s : Int × Int => r40_number_0_step s2 s.1 s.2) (n0, i0)
@[reducible] def r40_number_0_st (s2 : List UInt8) (n0 : Int) (i0 : Int) : PF.St := ⟨[(0, .str s2), (3, iav n0), (4, iav i0)], []⟩
def r40_number_0_rel (s2 : List UInt8) (r : ((Int × Int) ⊕ (Int))) (q : Ex × PF.St) : Prop := (fun r (q : Ex × PF.St) => Sum.elim (fun r => (fun r (q : Ex × PF.St) => q = (Ex.ret, ⟨[(2, iav r.1), (3, iav r.2)], []⟩)) r q) (fun r => (fun r (q : Ex × PF.St) => q = ((.exit 0), ⟨[(2, .undef), (3, iav r)], []⟩)) r q) r) r q
def r40_number_0_inv (s2 : List UInt8) (v : Int × Int) (e : PF.St) : Prop := e = r40_number_0_st s2 v.1 v.2
theorem r40_number_0_sim (s2 : List UInt8) (n0 : Int) (i0 : Int) (s : PF.St) (hk : keep [0, 3, 4] [] s = some (r40_number_0_st s2 n0 i0)) : Sim (r40_number_0 s2 n0 i0) (Gv (r40_number_0_rel s2)) (LM.loop ([0, 3, 4], [], [2, 3], B_r40_number_0) s) := by
  refine sim_loop M XE (r40_number_0_inv s2) (r40_number_0_rel s2) ?_ _ _ _ hk rfl
  clear hk
  rintro S hS hw hw8 R hR ⟨n0, i0⟩ env hp he
  change (⟨env, hp⟩ : PF.St) = r40_number_0_st s2 n0 i0 at he
  cases he
  show Sim (r40_number_0_step s2 n0 i0) _ _
  unfold r40_number_0_step
  simp only [hw]
  refine au (.ite Iff.rfl (fun hc5 => ?_) fun hc5 => ?_)
  · refine au ?_
    refine Sim.ix rfl (fun b2 hb2 => ?_)
    refine au ?_
    refine Sim.go hb2 ?_
    refine au (.ite Iff.rfl (fun hc6 => ?_) fun hc6 => ?_)
    · exact au (.ret ⟨_, rfl, rfl⟩)
    · refine au ?_
      refine Sim.ix rfl (fun b3 hb3 => ?_)
      refine au ?_
      refine Sim.go hb3 ?_
      refine au (.ite Iff.rfl (fun hc7 => ?_) fun hc7 => ?_)
      · exact au (.ret ⟨_, rfl, rfl⟩)
      · refine au ?_
        refine Sim.ix rfl (fun b4 hb4 => ?_)
        refine au ?_
        refine Sim.go hb4 ?_
        refine au ?_
        exact Sim.ret ⟨_, _, rfl, rfl, rfl⟩
  · exact au (.ret ⟨_, rfl, rfl⟩)
noncomputable def r40_number_0a_step (s3 : List UInt8) (n2 : Int) (i2 : Int) : Option ((Int × Int) ⊕ ((Int × Int) ⊕ (Int))) :=
  if i2 < (List.length s3 : Int) then
    (idx? s3 i2).bind fun b5 =>
    if (UInt8.toNat b5 : Int) < 48 then
      some (.inr (.inl ((-1), n2)))
    else
      (idx? s3 i2).bind fun b6 =>
      if 57 < (UInt8.toNat b6 : Int) then
        some (.inr (.inl ((-1), n2)))
      else
        (idx? s3 i2).bind fun b7 =>
        some (.inl ((wr ((wr (10 * n2)) + (wr (IntKind.wrap .u8 ((UInt8.toNat b7 : Int) - 48))))), (wr (i2 + 1))))
  else
    some (.inr (.inr n2))
noncomputable def r40_number_0a (s3 : List UInt8) (n2 : Int) (i2 : Int) : Option ((Int × Int) ⊕ (Int)) :=
  loopO (fun s : Int × Int => r40_number_0a_step s3 s.1 s.2) (n2, i2)
@[reducible] def r40_number_0a_st (s3 : List UInt8) (n2 : Int) (i2 : Int) : PF.St := ⟨[(0, .str s3), (3, iav n2), (4, iav i2)], []⟩
def r40_number_0a_rel (s3 : List UInt8) (r : ((Int × Int) ⊕ (Int))) (q : Ex × PF.St) : Prop := (fun r (q : Ex × PF.St) => Sum.elim (fun r => (fun r (q : Ex × PF.St) => q = (Ex.ret, ⟨[(2, iav r.1), (3, iav r.2)], []⟩)) r q) (fun r => (fun r (q : Ex × PF.St) => q = ((.exit 0), ⟨[(2, .undef), (3, iav r)], []⟩)) r q) r) r q
def r40_number_0a_inv (s3 : List UInt8) (v : Int × Int) (e : PF.St) : Prop := e = r40_number_0a_st s3 v.1 v.2
theorem r40_number_0a_sim (s3 : List UInt8) (n2 : Int) (i2 : Int) (s : PF.St) (hk : keep [0, 3, 4] [] s = some (r40_number_0a_st s3 n2 i2)) : Sim (r40_number_0a s3 n2 i2) (Gv (r40_number_0a_rel s3)) (LM.loop ([0, 3, 4], [], [2, 3], B_r40_number_0) s) := by
  refine sim_loop M XE (r40_number_0a_inv s3) (r40_number_0a_rel s3) ?_ _ _ _ hk rfl
  clear hk
  rintro S hS hw hw8 R hR ⟨n2, i2⟩ env hp he
  change (⟨env, hp⟩ : PF.St) = r40_number_0a_st s3 n2 i2 at he
  cases he
  show Sim (r40_number_0a_step s3 n2 i2) _ _
  unfold r40_number_0a_step
  simp only [hw]
  refine au (.ite Iff.rfl (fun hc8 => ?_) fun hc8 => ?_)
  · refine au ?_
    refine Sim.ix rfl (fun b5 hb5 => ?_)
    refine au ?_
    refine Sim.go hb5 ?_
    refine au (.ite Iff.rfl (fun hc9 => ?_) fun hc9 => ?_)
    · exact au (.ret ⟨_, rfl, rfl⟩)
    · refine au ?_
      refine Sim.ix rfl (fun b6 hb6 => ?_)
      refine au ?_
      refine Sim.go hb6 ?_
      refine au (.ite Iff.rfl (fun hc10 => ?_) fun hc10 => ?_)
      · exact au (.ret ⟨_, rfl, rfl⟩)
      · refine au ?_
        refine Sim.ix rfl (fun b7 hb7 => ?_)
        refine au ?_
        refine Sim.go hb7 ?_
        refine au ?_
        exact Sim.ret ⟨_, _, rfl, rfl, rfl⟩
  · exact au (.ret ⟨_, rfl, rfl⟩)
noncomputable def r40_number (s0 : List UInt8) : Option Int :=
  if (List.length s0 : Int) < 1 then
    some (-1)
  else
    if 6 < (List.length s0 : Int) then
      some (-1)
    else
      (idx? s0 0).bind fun b0 =>
      if (UInt8.toNat b0 : Int) = 48 then
        if 1 < (List.length s0 : Int) then
          some (-1)
        else
          (r40_number_0 s0 0 0).bind fun r0 =>
          Sum.elim
            (fun r2 =>
              some r2.1)
            (fun r3 =>
              some r3)
            r0
      else
        (r40_number_0a s0 0 0).bind fun r4 =>
        Sum.elim
          (fun r5 =>
            some r5.1)
          (fun r6 =>
            some r6)
          r4
theorem r40_number_sim (s0 : List UInt8) : Sim (r40_number s0) (Gv fun r q => q = (iav r, [])) (LM.call n_r40_number [.str s0] []) := by
  unfold r40_number
  refine sim_evR M XE rfl rfl fun S hS hw hw8 R hR => ?_
  refine au (.ite Iff.rfl (fun hc => ?_) fun hc => ?_)
  · exact au (.ret ⟨_, rfl, rfl⟩)
  · refine au (.ite Iff.rfl (fun hc2 => ?_) fun hc2 => ?_)
    · exact au (.ret ⟨_, rfl, rfl⟩)
    · refine au ?_
      refine Sim.ix rfl (fun b0 hb0 => ?_)
      refine au ?_
      refine Sim.go hb0 ?_
      refine au (.ite Iff.rfl (fun hc3 => ?_) fun hc3 => ?_)
      · refine au (.ite Iff.rfl (fun hc4 => ?_) fun hc4 => ?_)
        · exact au (.ret ⟨_, rfl, rfl⟩)
        · refine au ?_
          refine Sim.callL hR (r40_number_0_sim s0 0 0 _ rfl) ?_
          rintro r0 q hr
          rcases r0 with r2 | r3
          · cases hr
            exact au (.ret ⟨_, rfl, rfl⟩)
          · cases hr
            exact au (.ret ⟨_, rfl, rfl⟩)
      · refine au ?_
        refine Sim.callL hR (r40_number_0a_sim s0 0 0 _ rfl) ?_
        rintro r4 q hr
        rcases r4 with r5 | r6
        · cases hr
          exact au (.ret ⟨_, rfl, rfl⟩)
        · cases hr
          exact au (.ret ⟨_, rfl, rfl⟩)
noncomputable def r40_Number (s0 : List UInt8) : Option (Int × Bool) :=
  (r40_number s0).bind fun r0 =>
  if r0 < 0 then
    some (0, false)
  else
    some (r0, true)
theorem r40_Number_sim (s0 : List UInt8) : Sim (r40_Number s0) (Gv fun r q => q = (.tup [iav r.1, .bool r.2], [])) (LM.call n_r40_Number [.str s0] []) := by
  unfold r40_Number
  refine sim_evR M XE rfl rfl fun S hS hw hw8 R hR => ?_
  refine au (cE hR (r40_number_sim _) fun r0 => ?_)
  refine au (.ite Iff.rfl (fun hc => ?_) fun hc => ?_)
  · exact au (.ret ⟨_, rfl, rfl⟩)
  · exact au (.ret ⟨_, rfl, rfl⟩)
noncomputable def lines_writer_put (all : List Int) (o0 : Glines_writer) : Option Glines_writer :=
  if List.length o0.f_out + List.length all ≤ lenMax then
    some (Glines_writer.mk (o0.f_out ++ all))
  else none
theorem lines_writer_put_sim (all : List Int) (o0 : Glines_writer) (g0 : Gr) (hg0 : Mg 1 g0) (g2 : Gr) (hg2 : Mg 1 g2) : Sim (lines_writer_put all o0) (Gv fun r q => ∃ g0, q = (.tup [], [⟨true, [.lst g0 (List.map u8av r.f_out)]⟩]) ∧ Mg 1 g0) (LM.call n_lines_writer_put [.ptr 0 0, .lst g0 (List.map u8av all)] [⟨true, [.lst g2 (List.map u8av o0.f_out)]⟩]) := by
  unfold lines_writer_put
  refine sim_evR M XE rfl rfl fun S hS hw hw8 R hR => ?_
  refine au ?_
  refine Sim.kl hS rfl ?_
  refine au ?_
  first | (refine Sim.goB (may_map (by intro _; rfl) hg2 _) ?_) | skip
  refine au ?_
  first | (refine Sim.goB (okE_map (by intro _; exact ⟨rfl, rfl, rfl⟩) _) ?_) | skip
  refine au ?_
  first | refine Sim.ite (by simp) (fun _ => ?_) (fun _ => Sim.no) | refine Sim.guard (fun _ => ?_)
  refine au ?_
  refine Sim.kl hS (ys := List.map u8av (o0.f_out ++ all)) (by simp) ?_
  refine au ?_
  exact Sim.ret ⟨_, rfl, ⟨_, rfl, Mg.own⟩⟩
noncomputable def lines_writer_word_0_step (s2 : List UInt8) (x0 : Int) (x2 : Int) (o2 : Glines_writer) : Option ((Int × Glines_writer) ⊕ Glines_writer) :=
  if x2 < x0 then
    (idx? s2 x2).bind fun b0 =>
    (idx? ([48, 49, 50, 51, 52, 53, 54, 55, 56, 57, 97, 98, 99, 100, 101, 102] : List UInt8) (shrI .u8 (UInt8.toNat b0 : Int) 4)).bind fun b2 =>
    (idx? s2 x2).bind fun b3 =>
    (idx? ([48, 49, 50, 51, 52, 53, 54, 55, 56, 57, 97, 98, 99, 100, 101, 102] : List UInt8) (andI .u8 (UInt8.toNat b3 : Int) 15)).bind fun b4 =>
    (lines_writer_put [(UInt8.toNat b2 : Int), (UInt8.toNat b4 : Int)] o2).bind fun r2 =>
    some (.inl ((wr (x2 + 1)), r2))
  else
    some (.inr o2)
noncomputable def lines_writer_word_0 (s2 : List UInt8) (x0 : Int) (x2 : Int) (o2 : Glines_writer) : Option Glines_writer :=
  loopO (fun s : Int × Glines_writer => lines_writer_word_0_step s2 x0 s.1 s.2) (x2, o2)
@[reducible] def lines_writer_word_0_st (s2 : List UInt8) (x0 : Int) (x2 : Int) (o2 : Glines_writer) (g3 : Gr) : PF.St := ⟨[(0, .ptr 0 0), (1, .str s2), (11, iav x0), (12, iav x2)], [(0, ⟨true, [.lst g3 (List.map u8av o2.f_out)]⟩)]⟩
def lines_writer_word_0_rel (s2 : List UInt8) (x0 : Int) (r : Glines_writer) (q : Ex × PF.St) : Prop := (fun r (q : Ex × PF.St) => ∃ g0', q = ((.exit 0), ⟨[], [(0, ⟨true, [.lst g0' (List.map u8av r.f_out)]⟩)]⟩) ∧ Mg 1 g0') r q
def lines_writer_word_0_inv (s2 : List UInt8) (x0 : Int) (v : Int × Glines_writer) (e : PF.St) : Prop := ∃ g3, e = lines_writer_word_0_st s2 x0 v.1 v.2 g3 ∧ Mg 1 g3
theorem lines_writer_word_0_sim (s2 : List UInt8) (x0 : Int) (x2 : Int) (o2 : Glines_writer) (g3 : Gr) (hg3 : Mg 1 g3) (s : PF.St) (hk : keep [0, 1, 11, 12] [] s = some (lines_writer_word_0_st s2 x0 x2 o2 g3)) : Sim (lines_writer_word_0 s2 x0 x2 o2) (Gv (lines_writer_word_0_rel s2 x0)) (LM.loop ([0, 1, 11, 12], [], [], B_lines_writer_word_0) s) := by
  refine sim_loop M XE (lines_writer_word_0_inv s2 x0) (lines_writer_word_0_rel s2 x0) ?_ _ _ _ hk ⟨g3, rfl, hg3⟩
  clear hk hg3
  rintro S hS hw hw8 R hR ⟨x2, o2⟩ env hp ⟨g3, he, hg3⟩
  change (⟨env, hp⟩ : PF.St) = lines_writer_word_0_st s2 x0 x2 o2 g3 at he
  cases he
  show Sim (lines_writer_word_0_step s2 x0 x2 o2) _ _
  unfold lines_writer_word_0_step
  simp only [hw]
  refine au (.ite Iff.rfl (fun hc2 => ?_) fun hc2 => ?_)
  · refine au ?_
    refine Sim.ix rfl (fun b0 hb0 => ?_)
    refine au ?_
    refine Sim.go hb0 ?_
    refine au ?_
    refine Sim.ix rfl (fun b2 hb2 => ?_)
    refine au ?_
    refine Sim.go hb2 ?_
    refine au ?_
    refine Sim.ix rfl (fun b3 hb3 => ?_)
    refine au ?_
    refine Sim.go hb3 ?_
    refine au ?_
    refine Sim.ix rfl (fun b4 hb4 => ?_)
    refine au ?_
    refine Sim.go hb4 ?_
    refine au ?_
    refine Sim.kl hS (ys := List.map u8av [(UInt8.toNat b2 : Int), (UInt8.toNat b4 : Int)]) rfl ?_
    refine au ?_
    refine Sim.callR hR (lines_writer_put_sim _ _ .full Mg.full g3 hg3) ?_
    rintro r2 q ⟨g4, rfl, hg4⟩
    refine au ?_
    exact Sim.ret ⟨_, _, rfl, rfl, ⟨_, rfl, hg4⟩⟩
  · refine au ?_
    exact Sim.ret ⟨_, rfl, ⟨_, rfl, hg3⟩⟩
noncomputable def lines_writer_word_0a_step (s3 : List UInt8) (x3 : Int) (x4 : Int) (o3 : Glines_writer) : Option ((Int × Glines_writer) ⊕ Glines_writer) :=
  if x4 < x3 then
    (idx? s3 x4).bind fun b5 =>
    (idx? ([48, 49, 50, 51, 52, 53, 54, 55, 56, 57, 97, 98, 99, 100, 101, 102] : List UInt8) (shrI .u8 (UInt8.toNat b5 : Int) 4)).bind fun b6 =>
    (idx? s3 x4).bind fun b7 =>
    (idx? ([48, 49, 50, 51, 52, 53, 54, 55, 56, 57, 97, 98, 99, 100, 101, 102] : List UInt8) (andI .u8 (UInt8.toNat b7 : Int) 15)).bind fun b8 =>
    (lines_writer_put [(UInt8.toNat b6 : Int), (UInt8.toNat b8 : Int)] o3).bind fun r4 =>
    some (.inl ((wr (x4 + 1)), r4))
  else
    some (.inr o3)
noncomputable def lines_writer_word_0a (s3 : List UInt8) (x3 : Int) (x4 : Int) (o3 : Glines_writer) : Option Glines_writer :=
  loopO (fun s : Int × Glines_writer => lines_writer_word_0a_step s3 x3 s.1 s.2) (x4, o3)
@[reducible] def lines_writer_word_0a_st (s3 : List UInt8) (x3 : Int) (x4 : Int) (o3 : Glines_writer) (g6 : Gr) : PF.St := ⟨[(0, .ptr 0 0), (1, .str s3), (11, iav x3), (12, iav x4)], [(0, ⟨true, [.lst g6 (List.map u8av o3.f_out)]⟩)]⟩
def lines_writer_word_0a_rel (s3 : List UInt8) (x3 : Int) (r : Glines_writer) (q : Ex × PF.St) : Prop := (fun r (q : Ex × PF.St) => ∃ g0', q = ((.exit 0), ⟨[], [(0, ⟨true, [.lst g0' (List.map u8av r.f_out)]⟩)]⟩) ∧ Mg 1 g0') r q
def lines_writer_word_0a_inv (s3 : List UInt8) (x3 : Int) (v : Int × Glines_writer) (e : PF.St) : Prop := ∃ g6, e = lines_writer_word_0a_st s3 x3 v.1 v.2 g6 ∧ Mg 1 g6
theorem lines_writer_word_0a_sim (s3 : List UInt8) (x3 : Int) (x4 : Int) (o3 : Glines_writer) (g6 : Gr) (hg6 : Mg 1 g6) (s : PF.St) (hk : keep [0, 1, 11, 12] [] s = some (lines_writer_word_0a_st s3 x3 x4 o3 g6)) : Sim (lines_writer_word_0a s3 x3 x4 o3) (Gv (lines_writer_word_0a_rel s3 x3)) (LM.loop ([0, 1, 11, 12], [], [], B_lines_writer_word_0) s) := by
  refine sim_loop M XE (lines_writer_word_0a_inv s3 x3) (lines_writer_word_0a_rel s3 x3) ?_ _ _ _ hk ⟨g6, rfl, hg6⟩
  clear hk hg6
  rintro S hS hw hw8 R hR ⟨x4, o3⟩ env hp ⟨g6, he, hg6⟩
  change (⟨env, hp⟩ : PF.St) = lines_writer_word_0a_st s3 x3 x4 o3 g6 at he
  cases he
  show Sim (lines_writer_word_0a_step s3 x3 x4 o3) _ _
  unfold lines_writer_word_0a_step
  simp only [hw]
  refine au (.ite Iff.rfl (fun hc3 => ?_) fun hc3 => ?_)
  · refine au ?_
    refine Sim.ix rfl (fun b5 hb5 => ?_)
    refine au ?_
    refine Sim.go hb5 ?_
    refine au ?_
    refine Sim.ix rfl (fun b6 hb6 => ?_)
    refine au ?_
    refine Sim.go hb6 ?_
    refine au ?_
    refine Sim.ix rfl (fun b7 hb7 => ?_)
    refine au ?_
    refine Sim.go hb7 ?_
    refine au ?_
    refine Sim.ix rfl (fun b8 hb8 => ?_)
    refine au ?_
    refine Sim.go hb8 ?_
    refine au ?_
    refine Sim.kl hS (ys := List.map u8av [(UInt8.toNat b6 : Int), (UInt8.toNat b8 : Int)]) rfl ?_
    refine au ?_
    refine Sim.callR hR (lines_writer_put_sim _ _ .full Mg.full g6 hg6) ?_
    rintro r4 q ⟨g7, rfl, hg7⟩
    refine au ?_
    exact Sim.ret ⟨_, _, rfl, rfl, ⟨_, rfl, hg7⟩⟩
  · refine au ?_
    exact Sim.ret ⟨_, rfl, ⟨_, rfl, hg6⟩⟩
noncomputable def lines_writer_word (s0 : List UInt8) (o0 : Glines_writer) : Option Glines_writer :=
  if s0 = ([] : List UInt8) then
    (lines_writer_put [45] o0).bind fun r0 =>
    (lines_writer_word_0 s0 (List.length s0 : Int) 0 r0).bind fun r3 =>
    some r3
  else
    (lines_writer_word_0a s0 (List.length s0 : Int) 0 o0).bind fun r5 =>
    some r5
theorem lines_writer_word_sim (s0 : List UInt8) (o0 : Glines_writer) (g0 : Gr) (hg0 : Mg 1 g0) : Sim (lines_writer_word s0 o0) (Gv fun r q => ∃ g0, q = (.tup [], [⟨true, [.lst g0 (List.map u8av r.f_out)]⟩]) ∧ Mg 1 g0) (LM.call n_lines_writer_word [.ptr 0 0, .str s0] [⟨true, [.lst g0 (List.map u8av o0.f_out)]⟩]) := by
  unfold lines_writer_word
  refine sim_evR M XE rfl rfl fun S hS hw hw8 R hR => ?_
  refine au (.ite Iff.rfl (fun hc => ?_) fun hc => ?_)
  · refine au ?_
    refine Sim.kl hS (ys := List.map u8av [45]) rfl ?_
    refine au ?_
    refine Sim.callR hR (lines_writer_put_sim _ _ .full Mg.full g0 hg0) ?_
    rintro r0 q ⟨g2, rfl, hg2⟩
    refine au ?_
    refine Sim.callL hR (lines_writer_word_0_sim s0 (List.length s0 : Int) 0 r0 g2 hg2 _ rfl) ?_
    rintro r3 q ⟨g5, rfl, hg5⟩
    refine au ?_
    exact Sim.ret ⟨_, rfl, ⟨_, rfl, hg5⟩⟩
  · refine au ?_
    refine Sim.callL hR (lines_writer_word_0a_sim s0 (List.length s0 : Int) 0 o0 g0 hg0 _ rfl) ?_
    rintro r5 q ⟨g8, rfl, hg8⟩
    refine au ?_
    exact Sim.ret ⟨_, rfl, ⟨_, rfl, hg8⟩⟩
noncomputable def lines_Word (bytes : List UInt8) : Option ((List UInt8)) :=
  (lines_writer_word bytes (Glines_writer.mk ([] : List Int))).bind fun r0 =>
  some (bytesOf r0.f_out)
theorem lines_Word_sim (bytes : List UInt8) : Sim (lines_Word bytes) (Gv fun r q => q = (.str r, [])) (LM.call n_lines_Word [.str bytes] []) := by
  unfold lines_Word
  refine sim_evR M XE rfl rfl fun S hS hw hw8 R hR => ?_
  refine au ?_
  refine Sim.callR hR (lines_writer_word_sim _ _ .full Mg.full) ?_
  rintro r0 q ⟨g0, rfl, hg0⟩
  refine au ?_
  refine Sim.go (bytes_mapM _) ?_
  exact au (.ret ⟨_, rfl, rfl⟩)
noncomputable def r40_hex_0_step (s2 : List UInt8) (all : List UInt8) (out : List Int) (i0 : Int) : Option (((List Int) × Int) ⊕ ((List Int))) :=
  if i0 < (List.length s2 : Int) then
    (idx? s2 i0).bind fun b0 =>
    (idx? all (IntKind.wrap .u8 (Int.tdiv (UInt8.toNat b0 : Int) 16))).bind fun b2 =>
    (idx? s2 i0).bind fun b3 =>
    (idx? all (Int.tmod (UInt8.toNat b3 : Int) 16)).bind fun b4 =>
    if List.length out + List.length [(UInt8.toNat b2 : Int), (UInt8.toNat b4 : Int)] ≤ lenMax then
      some (.inl ((out ++ [(UInt8.toNat b2 : Int), (UInt8.toNat b4 : Int)]), (wr (i0 + 1))))
    else none
  else
    some (.inr out)
noncomputable def r40_hex_0 (s2 : List UInt8) (all : List UInt8) (out : List Int) (i0 : Int) : Option ((List Int)) :=
  loopO (fun s : (List Int) × Int => r40_hex_0_step s2 all s.1 s.2) (out, i0)
@[reducible] def r40_hex_0_st (s2 : List UInt8) (all : List UInt8) (out : List Int) (i0 : Int) (g0 : Gr) : PF.St := ⟨[(0, .str s2), (3, .str all), (4, .lst g0 (List.map u8av out)), (5, iav i0)], []⟩
def r40_hex_0_rel (s2 : List UInt8) (all : List UInt8) (r : ((List Int))) (q : Ex × PF.St) : Prop := (fun r (q : Ex × PF.St) => ∃ g0', q = ((.exit 0), ⟨[(4, .lst g0' (List.map u8av r))], []⟩) ∧ Mg 1 g0') r q
def r40_hex_0_inv (s2 : List UInt8) (all : List UInt8) (v : (List Int) × Int) (e : PF.St) : Prop := ∃ g0, e = r40_hex_0_st s2 all v.1 v.2 g0 ∧ Mg 1 g0
theorem r40_hex_0_sim (s2 : List UInt8) (all : List UInt8) (out : List Int) (i0 : Int) (g0 : Gr) (hg0 : Mg 1 g0) (s : PF.St) (hk : keep [0, 3, 4, 5] [] s = some (r40_hex_0_st s2 all out i0 g0)) : Sim (r40_hex_0 s2 all out i0) (Gv (r40_hex_0_rel s2 all)) (LM.loop ([0, 3, 4, 5], [], [4], B_r40_hex_0) s) := by
  refine sim_loop M XE (r40_hex_0_inv s2 all) (r40_hex_0_rel s2 all) ?_ _ _ _ hk ⟨g0, rfl, hg0⟩
  clear hk hg0
  rintro S hS hw hw8 R hR ⟨out, i0⟩ env hp ⟨g0, he, hg0⟩
  change (⟨env, hp⟩ : PF.St) = r40_hex_0_st s2 all out i0 g0 at he
  cases he
  show Sim (r40_hex_0_step s2 all out i0) _ _
  unfold r40_hex_0_step
  simp only [hw]
  refine au (.ite Iff.rfl (fun hc2 => ?_) fun hc2 => ?_)
  · refine au ?_
    refine Sim.ix rfl (fun b0 hb0 => ?_)
    refine au ?_
    refine Sim.go hb0 ?_
    refine au ?_
    refine Sim.ix rfl (fun b2 hb2 => ?_)
    refine au ?_
    refine Sim.go hb2 ?_
    refine au ?_
    refine Sim.ix rfl (fun b3 hb3 => ?_)
    refine au ?_
    refine Sim.go hb3 ?_
    refine au ?_
    refine Sim.ix rfl (fun b4 hb4 => ?_)
    refine au ?_
    refine Sim.go hb4 ?_
    refine au ?_
    refine Sim.kl hS (ys := List.map u8av [(UInt8.toNat b2 : Int), (UInt8.toNat b4 : Int)]) rfl ?_
    refine au ?_
    first | (refine Sim.goB (may_map (by intro _; rfl) hg0 _) ?_) | skip
    refine au ?_
    first | (refine Sim.goB (okE_map (by intro _; exact ⟨rfl, rfl, rfl⟩) _) ?_) | skip
    refine au ?_
    first | refine Sim.ite (by simp) (fun _ => ?_) (fun _ => Sim.no) | refine Sim.guard (fun _ => ?_)
    refine au ?_
    refine Sim.kl hS (ys := List.map u8av (out ++ [(UInt8.toNat b2 : Int), (UInt8.toNat b4 : Int)])) (by simp) ?_
    refine au ?_
    exact Sim.ret ⟨_, _, rfl, rfl, ⟨_, rfl, Mg.own⟩⟩
  · refine au ?_
    exact Sim.ret ⟨_, rfl, ⟨_, rfl, hg0⟩⟩
noncomputable def r40_hex (s0 : List UInt8) : Option ((List UInt8)) :=
  if s0 = ([] : List UInt8) then
    some ([45] : List UInt8)
  else
    if 0 ≤ (wr (2 * (List.length s0 : Int))) ∧ (wr (2 * (List.length s0 : Int))) ≤ lenMax then
      (r40_hex_0 s0 ([48, 49, 50, 51, 52, 53, 54, 55, 56, 57, 97, 98, 99, 100, 101, 102] : List UInt8) ([] : List Int) 0).bind fun r0 =>
      some (bytesOf r0)
    else none
theorem r40_hex_sim (s0 : List UInt8) : Sim (r40_hex s0) (Gv fun r q => q = (.str r, [])) (LM.call n_r40_hex [.str s0] []) := by
  unfold r40_hex
  refine sim_evR M XE rfl rfl fun S hS hw hw8 R hR => ?_
  simp only [hw]
  refine au (.ite Iff.rfl (fun hc => ?_) fun hc => ?_)
  · exact au (.ret ⟨_, rfl, rfl⟩)
  · refine au ?_
    first | refine Sim.ite Iff.rfl (fun _ => ?_) (fun _ => Sim.no) | refine Sim.guard (fun _ => ?_)
    refine au ?_
    refine Sim.callL hR (r40_hex_0_sim s0 ([48, 49, 50, 51, 52, 53, 54, 55, 56, 57, 97, 98, 99, 100, 101, 102] : List UInt8) ([] : List Int) 0 (.own 1) Mg.own _ rfl) ?_
    rintro r0 q ⟨g2, rfl, hg2⟩
    refine au ?_
    refine Sim.go (bytes_mapM _) ?_
    exact au (.ret ⟨_, rfl, rfl⟩)
noncomputable def r40_Word (s0 : List UInt8) : Option ((List UInt8)) :=
  (r40_hex s0).bind fun r0 =>
  some r0
theorem r40_Word_sim (s0 : List UInt8) : Sim (r40_Word s0) (Gv fun r q => q = (.str r, [])) (LM.call n_r40_Word [.str s0] []) := by
  unfold r40_Word
  refine sim_evR M XE rfl rfl fun S hS hw hw8 R hR => ?_
  refine au (cE hR (r40_hex_sim _) fun r0 => ?_)
  exact au (.ret ⟨_, rfl, rfl⟩)
noncomputable def l40_LinesWords (L0 : List UInt8) : Option Bool :=
  if 1000 < (List.length L0 : Int) then
    (l40_known).bind fun r0 =>
    some r0
  else
    (lines_Bytes L0).bind fun r2 =>
    (r40_Bytes L0).bind fun r3 =>
    (lines_Number L0).bind fun r4 =>
    (r40_Number L0).bind fun r5 =>
    (lines_Word L0).bind fun r6 =>
    (r40_Word L0).bind fun r7 =>
    if r6 ≠ r7 then
      some false
    else
      if r2.1 ≠ r3.1 then
        some false
      else
        if (r2.2 != r3.2) = true then
          some false
        else
          if r4.1 ≠ r5.1 then
            some false
          else
            if (r4.2 != r5.2) = true then
              some false
            else
              (lines_Word L0).bind fun r8 =>
              (lines_Bytes r8).bind fun r9 =>
              if r9.2 = true then
                if r9.1 = L0 then
                  if (!r2.2) = true then
                    (l40_known).bind fun r10 =>
                    some r10
                  else
                    (lines_Word r2.1).bind fun r11 =>
                    if r11 = L0 then
                      (l40_known).bind fun r12 =>
                      some r12
                    else
                      some false
                else
                  some false
              else
                some false
theorem l40_LinesWords_sim (L0 : List UInt8) : Sim (l40_LinesWords L0) (Gv fun r q => q = (.bool r, [])) (LM.call n_l40_LinesWords [.str L0] []) := by
  unfold l40_LinesWords
  refine sim_evR M XE rfl rfl fun S hS hw hw8 R hR => ?_
  refine au (.ite Iff.rfl (fun hc => ?_) fun hc => ?_)
  · refine au (cE hR (l40_known_sim) fun r0 => ?_)
    exact au (.ret ⟨_, rfl, rfl⟩)
  · refine au (cE hR (lines_Bytes_sim _) fun r2 => ?_)
    refine au (cE hR (r40_Bytes_sim _) fun r3 => ?_)
    refine au (cE hR (lines_Number_sim _) fun r4 => ?_)
    refine au (cE hR (r40_Number_sim _) fun r5 => ?_)
    refine au (cE hR (lines_Word_sim _) fun r6 => ?_)
    refine au (cE hR (r40_Word_sim _) fun r7 => ?_)
    refine au (.ite Iff.rfl (fun hc2 => ?_) fun hc2 => ?_)
    · exact au (.ret ⟨_, rfl, rfl⟩)
    · refine au (.ite Iff.rfl (fun hc3 => ?_) fun hc3 => ?_)
      · exact au (.ret ⟨_, rfl, rfl⟩)
      · refine au (.iteB (fun hc4 => ?_) fun hc4 => ?_)
        · exact au (.ret ⟨_, rfl, rfl⟩)
        · refine au (.ite Iff.rfl (fun hc5 => ?_) fun hc5 => ?_)
          · exact au (.ret ⟨_, rfl, rfl⟩)
          · refine au (.iteB (fun hc6 => ?_) fun hc6 => ?_)
            · exact au (.ret ⟨_, rfl, rfl⟩)
            · refine au (cE hR (lines_Word_sim _) fun r8 => ?_)
              refine au (cE hR (lines_Bytes_sim _) fun r9 => ?_)
              refine au (.iteB (fun hc7 => ?_) fun hc7 => ?_)
              · refine au (.ite Iff.rfl (fun hc8 => ?_) fun hc8 => ?_)
                · refine au (.iteB (fun hc9 => ?_) fun hc9 => ?_)
                  · refine au (cE hR (l40_known_sim) fun r10 => ?_)
                    exact au (.ret ⟨_, rfl, rfl⟩)
                  · refine au (cE hR (lines_Word_sim _) fun r11 => ?_)
                    refine au (.ite Iff.rfl (fun hc10 => ?_) fun hc10 => ?_)
                    · refine au (cE hR (l40_known_sim) fun r12 => ?_)
                      exact au (.ret ⟨_, rfl, rfl⟩)
                    · exact au (.ret ⟨_, rfl, rfl⟩)
                · exact au (.ret ⟨_, rfl, rfl⟩)
              · exact au (.ret ⟨_, rfl, rfl⟩)
end Go.Proofs.YtfjlpfjpidikjaaGreatDoor
