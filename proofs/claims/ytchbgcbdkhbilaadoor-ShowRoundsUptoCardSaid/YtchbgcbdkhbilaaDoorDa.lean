/-
  The program's functions as plain functions (printed by a program of mine), each beside the machine's.
-/
import Derived.Test.YtchbgcbdkhbilaaDoorFm
import Derived.Test.YtchbgcbdkhbilaaDoorPFe
set_option linter.unusedVariables false
set_option linter.unusedSimpArgs false
set_option maxRecDepth 100000
set_option maxHeartbeats 4000000
namespace Go.Proofs.YtchbgcbdkhbilaaDoor
open Go.Proofs.PF
noncomputable abbrev LM : MRec := lim M XE
structure Ar5 (α : Type) where
  a0 : α
  a1 : α
  a2 : α
  a3 : α
  a4 : α
  deriving DecidableEq, Inhabited
@[reducible] def Ar5.cells {α : Type} (f : α → AV) (x : Ar5 α) : List AV := [f x.a0, f x.a1, f x.a2, f x.a3, f x.a4]
@[reducible] def Ar5.av {α : Type} (f : α → AV) (x : Ar5 α) : AV := .agg [f x.a0, f x.a1, f x.a2, f x.a3, f x.a4]
def Ar5.get? {α : Type} (x : Ar5 α) : Nat → Option α
  | 0 => some x.a0
  | 1 => some x.a1
  | 2 => some x.a2
  | 3 => some x.a3
  | 4 => some x.a4
  | _ => none
def Ar5.set? {α : Type} (x : Ar5 α) (k : Nat) (v : α) : Option (Ar5 α) :=
  match k with
  | 0 => some { x with a0 := v }
  | 1 => some { x with a1 := v }
  | 2 => some { x with a2 := v }
  | 3 => some { x with a3 := v }
  | 4 => some { x with a4 := v }
  | _ => none
structure Ar18 (α : Type) where
  a0 : α
  a1 : α
  a2 : α
  a3 : α
  a4 : α
  a5 : α
  a6 : α
  a7 : α
  a8 : α
  a9 : α
  a10 : α
  a11 : α
  a12 : α
  a13 : α
  a14 : α
  a15 : α
  a16 : α
  a17 : α
  deriving DecidableEq, Inhabited
@[reducible] def Ar18.cells {α : Type} (f : α → AV) (x : Ar18 α) : List AV := [f x.a0, f x.a1, f x.a2, f x.a3, f x.a4, f x.a5, f x.a6, f x.a7, f x.a8, f x.a9, f x.a10, f x.a11, f x.a12, f x.a13, f x.a14, f x.a15, f x.a16, f x.a17]
@[reducible] def Ar18.av {α : Type} (f : α → AV) (x : Ar18 α) : AV := .agg [f x.a0, f x.a1, f x.a2, f x.a3, f x.a4, f x.a5, f x.a6, f x.a7, f x.a8, f x.a9, f x.a10, f x.a11, f x.a12, f x.a13, f x.a14, f x.a15, f x.a16, f x.a17]
def Ar18.get? {α : Type} (x : Ar18 α) : Nat → Option α
  | 0 => some x.a0
  | 1 => some x.a1
  | 2 => some x.a2
  | 3 => some x.a3
  | 4 => some x.a4
  | 5 => some x.a5
  | 6 => some x.a6
  | 7 => some x.a7
  | 8 => some x.a8
  | 9 => some x.a9
  | 10 => some x.a10
  | 11 => some x.a11
  | 12 => some x.a12
  | 13 => some x.a13
  | 14 => some x.a14
  | 15 => some x.a15
  | 16 => some x.a16
  | 17 => some x.a17
  | _ => none
def Ar18.set? {α : Type} (x : Ar18 α) (k : Nat) (v : α) : Option (Ar18 α) :=
  match k with
  | 0 => some { x with a0 := v }
  | 1 => some { x with a1 := v }
  | 2 => some { x with a2 := v }
  | 3 => some { x with a3 := v }
  | 4 => some { x with a4 := v }
  | 5 => some { x with a5 := v }
  | 6 => some { x with a6 := v }
  | 7 => some { x with a7 := v }
  | 8 => some { x with a8 := v }
  | 9 => some { x with a9 := v }
  | 10 => some { x with a10 := v }
  | 11 => some { x with a11 := v }
  | 12 => some { x with a12 := v }
  | 13 => some { x with a13 := v }
  | 14 => some { x with a14 := v }
  | 15 => some { x with a15 := v }
  | 16 => some { x with a16 := v }
  | 17 => some { x with a17 := v }
  | _ => none
structure Glines_writer where
  f_out : List Int
  deriving DecidableEq, Inhabited
@[reducible] def Glines_writer.cells (x : Glines_writer) : List AV := [lav u8av x.f_out]
@[reducible] def Glines_writer.av (x : Glines_writer) : AV := .agg [lav u8av x.f_out]
structure GDeliver where
  From : Int
  Slot : Int
  Cycle : Int
  Text : List UInt8
  deriving DecidableEq, Inhabited
@[reducible] def GDeliver.cells (x : GDeliver) : List AV := [iav x.From, iav x.Slot, iav x.Cycle, .str x.Text]
@[reducible] def GDeliver.av (x : GDeliver) : AV := .agg [iav x.From, iav x.Slot, iav x.Cycle, .str x.Text]
structure GReport where
  Pulse : Bool
  Sync : Bool
  Number : Int
  Slot : Int
  Members : List UInt8
  Sent : Int
  Got : List GDeliver
  deriving DecidableEq, Inhabited
@[reducible] def GReport.cells (x : GReport) : List AV := [.bool x.Pulse, .bool x.Sync, iav x.Number, iav x.Slot, .str x.Members, iav x.Sent, lav GDeliver.av x.Got]
@[reducible] def GReport.av (x : GReport) : AV := .agg [.bool x.Pulse, .bool x.Sync, iav x.Number, iav x.Slot, .str x.Members, iav x.Sent, lav GDeliver.av x.Got]
structure GCycle where
  At : Int
  Number : Int
  Members : List UInt8
  Sync : Bool
  Got : List GDeliver
  deriving DecidableEq, Inhabited
@[reducible] def GCycle.cells (x : GCycle) : List AV := [iav x.At, iav x.Number, .str x.Members, .bool x.Sync, lav GDeliver.av x.Got]
@[reducible] def GCycle.av (x : GCycle) : AV := .agg [iav x.At, iav x.Number, .str x.Members, .bool x.Sync, lav GDeliver.av x.Got]
structure GVerdict where
  Ticks : Int
  Last : Int
  Settled : Int
  All : Int
  Cycles : Int
  Faults : Ar5 Int
  deriving DecidableEq, Inhabited
@[reducible] def GVerdict.cells (x : GVerdict) : List AV := [iav x.Ticks, iav x.Last, iav x.Settled, iav x.All, iav x.Cycles, iav x.Faults.a0, iav x.Faults.a1, iav x.Faults.a2, iav x.Faults.a3, iav x.Faults.a4]
@[reducible] def GVerdict.av (x : GVerdict) : AV := .agg [iav x.Ticks, iav x.Last, iav x.Settled, iav x.All, iav x.Cycles, iav x.Faults.a0, iav x.Faults.a1, iav x.Faults.a2, iav x.Faults.a3, iav x.Faults.a4]
structure Gs_wordL_nI where
  f_word : List UInt8
  f_n : Int
  deriving DecidableEq, Inhabited
@[reducible] def Gs_wordL_nI.cells (x : Gs_wordL_nI) : List AV := [.str x.f_word, iav x.f_n]
@[reducible] def Gs_wordL_nI.av (x : Gs_wordL_nI) : AV := .agg [.str x.f_word, iav x.f_n]
structure GRound where
  Number : Int
  Members : List UInt8
  Lines : List (List UInt8)
  Got : List (List GDeliver)
  deriving DecidableEq, Inhabited
@[reducible] def GRound.cells (x : GRound) : List AV := [iav x.Number, .str x.Members, lav sav x.Lines, lav (lav GDeliver.av) x.Got]
@[reducible] def GRound.av (x : GRound) : AV := .agg [iav x.Number, .str x.Members, lav sav x.Lines, lav (lav GDeliver.av) x.Got]
noncomputable def strconv_Itoa (c : Int) : Option (List UInt8) := if -9223372036854775808 ≤ c ∧ c ≤ 9223372036854775807 then some (Lib.itoa c) else none
theorem strconv_Itoa_sim (c : Int) : Sim (strconv_Itoa c) (Gv fun r q => q = (.str r, [])) (LM.call n_strconv_Itoa [.int .i64 c] []) := by
  unfold strconv_Itoa
  refine Sim.guard fun h => Sim.ret ⟨(.str (Lib.itoa c), []), ?_, rfl⟩
  rw [lim_ext_eq M XE rfl]
  first
  | (show (if -9223372036854775808 ≤ c ∧ c ≤ 9223372036854775807 then some (AV.str (Lib.itoa c), ([] : List PF.Obj)) else none) = _; rw [if_pos h])
  | (show (match (if -9223372036854775808 ≤ c ∧ c ≤ 9223372036854775807 then some (AV.str (Lib.itoa c), ([] : List PF.Obj)) else none) with
    | some r => some r
    | none => _) = _; rw [if_pos h])
noncomputable def strings_Join (l : List (List UInt8)) (s : List UInt8) : Option (List UInt8) := if l.length ≤ 140737488355328 ∧ (Lib.join l s).length ≤ 140737488355328 then some (Lib.join l s) else none
theorem strings_Join_sim (l : List (List UInt8)) (s : List UInt8) : Sim (strings_Join l s) (Gv fun r q => q = (.str r, [])) (LM.call n_strings_Join [lav sav l, .str s] []) := by
  unfold strings_Join
  refine Sim.guard fun h => Sim.ret ⟨(.str (Lib.join l s), []), ?_, rfl⟩
  rw [lim_ext_eq M XE rfl]
  first
  | (show ((strs (List.map AV.str l)).bind fun l => if l.length ≤ 140737488355328 ∧ (Lib.join l s).length ≤ 140737488355328 then some (AV.str (Lib.join l s), ([] : List PF.Obj)) else none) = _; rw [strs_map, Option.bind_some, if_pos h])
  | (show (match ((strs (List.map AV.str l)).bind fun l => if l.length ≤ 140737488355328 ∧ (Lib.join l s).length ≤ 140737488355328 then some (AV.str (Lib.join l s), ([] : List PF.Obj)) else none) with
    | some r => some r
    | none => _) = _; rw [strs_map, Option.bind_some, if_pos h])
noncomputable def show_text (words : List (List UInt8)) : Option ((List UInt8)) :=
  (strings_Join words ([32] : List UInt8)).bind fun r0 =>
  some r0
theorem show_text_sim (words : List (List UInt8)) : Sim (show_text words) (Gv fun r q => q = (.str r, [])) (LM.call n_show_text [lav sav words] []) := by
  unfold show_text
  refine sim_evR M XE rfl rfl fun S hS hw hw8 R hR => ?_
  refine au (cE hR (strings_Join_sim _ _) fun r0 => ?_)
  exact au (.ret ⟨_, rfl, rfl⟩)
noncomputable def show_Name (e0 : Int) : Option ((List UInt8)) :=
  if e0 < 0 then
    (strconv_Itoa e0).bind fun r0 =>
    (show_text [([101, 114, 114, 111, 114] : List UInt8), r0]).bind fun r2 =>
    some r2
  else
    if 18 ≤ e0 then
      (strconv_Itoa e0).bind fun r3 =>
      (show_text [([101, 114, 114, 111, 114] : List UInt8), r3]).bind fun r4 =>
      some r4
    else
      if 0 ≤ e0 ∧ e0 < (18 : Nat) then
        (Ar18.get? (Ar18.mk ([111, 107] : List UInt8) ([110, 105, 108] : List UInt8) ([97, 114, 103] : List UInt8) ([102, 111, 114, 109] : List UInt8) ([115, 117, 109] : List UInt8) ([115, 104, 111, 114, 116] : List UInt8) ([108, 111, 110, 103] : List UInt8) ([110, 111, 100, 101] : List UInt8) ([99, 111, 110, 102] : List UInt8) ([102, 117, 108, 108] : List UInt8) ([108, 97, 116, 101] : List UInt8) ([115, 108, 111, 116] : List UInt8) ([111, 119, 110, 101, 114] : List UInt8) ([116, 119, 105, 99, 101] : List UInt8) ([109, 117, 116, 101] : List UInt8) ([116, 101, 120, 116] : List UInt8) ([119, 111, 114, 100] : List UInt8) ([114, 97, 116, 101] : List UInt8)) (Int.toNat e0)).bind fun z0 =>
        some z0
      else none
theorem show_Name_sim (e0 : Int) : Sim (show_Name e0) (Gv fun r q => q = (.str r, [])) (LM.call n_show_Name [iav e0] []) := by
  unfold show_Name
  refine sim_evR M XE rfl rfl fun S hS hw hw8 R hR => ?_
  refine au (.ite Iff.rfl (fun hc => ?_) fun hc => ?_)
  · refine au (cE hR (strconv_Itoa_sim _) fun r0 => ?_)
    refine au ?_
    refine Sim.kl hS (ys := List.map sav [([101, 114, 114, 111, 114] : List UInt8), r0]) rfl ?_
    refine au (cE hR (show_text_sim _) fun r2 => ?_)
    exact au (.ret ⟨_, rfl, rfl⟩)
  · refine au (.ite Iff.rfl (fun hc2 => ?_) fun hc2 => ?_)
    · refine au (cE hR (strconv_Itoa_sim _) fun r3 => ?_)
      refine au ?_
      refine Sim.kl hS (ys := List.map sav [([101, 114, 114, 111, 114] : List UInt8), r3]) rfl ?_
      refine au (cE hR (show_text_sim _) fun r4 => ?_)
      exact au (.ret ⟨_, rfl, rfl⟩)
    · refine au ?_
      first | refine Sim.ite Iff.rfl (fun hb => ?_) (fun _ => Sim.no) | refine Sim.guard (fun hb => ?_)
      refine au ?_
      refine Sim.opt (f := sav) (by have hb' : (Int.toNat e0) < 18 := (by omega); generalize (Int.toNat e0) = j at hb' ⊢; rcases j with _|_|_|_|_|_|_|_|_|_|_|_|_|_|_|_|_|_|j <;> first | rfl | exact absurd hb' (by omega)) (fun z0 _ => ?_)
      exact au (.ret ⟨_, rfl, rfl⟩)
noncomputable def show_flag (b0 : Bool) : Option ((List UInt8)) :=
  if b0 = true then
    some ([121, 101, 115] : List UInt8)
  else
    some ([110, 111] : List UInt8)
theorem show_flag_sim (b0 : Bool) : Sim (show_flag b0) (Gv fun r q => q = (.str r, [])) (LM.call n_show_flag [.bool b0] []) := by
  unfold show_flag
  refine sim_evR M XE rfl rfl fun S hS hw hw8 R hR => ?_
  refine au (.iteB (fun hc => ?_) fun hc => ?_)
  · exact au (.ret ⟨_, rfl, rfl⟩)
  · exact au (.ret ⟨_, rfl, rfl⟩)
noncomputable def lines_writer_put (all : List Int) (o0 : Glines_writer) : Option Glines_writer :=
  if List.length o0.f_out + List.length all ≤ lenMax then
    some (Glines_writer.mk (o0.f_out ++ all))
  else none
theorem lines_writer_put_sim (all : List Int) (o0 : Glines_writer) (g0 : Gr) (hg0 : Mg 1 g0) (g2 : Gr) (hg2 : Mg 1 g2) : Sim (lines_writer_put all o0) (Gv fun r q => ∃ g0, q = (.tup [], [⟨true, [.lst g0 (List.map u8av r.f_out)]⟩]) ∧ Mg 1 g0) (LM.call n_lines_writer_put [.ptr 0 0, .lst g0 (List.map u8av all)] [⟨true, [.lst g2 (List.map u8av o0.f_out)]⟩]) := by
  unfold lines_writer_put
  refine sim_evR M XE rfl rfl fun S hS hw hw8 R hR => ?_
  refine au ?_
  refine Sim.kl hS rfl ?_
  refine au ?_
  first | (refine Sim.goB (may_map (by intro _; rfl) hg2 _) ?_) | skip
  refine au ?_
  first | (refine Sim.goB (okE_map (by intro _; exact ⟨rfl, rfl, rfl⟩) _) ?_) | skip
  refine au ?_
  first | refine Sim.ite (by simp) (fun _ => ?_) (fun _ => Sim.no) | refine Sim.guard (fun _ => ?_)
  refine au ?_
  refine Sim.kl hS (ys := List.map u8av (o0.f_out ++ all)) (by simp) ?_
  refine au ?_
  exact Sim.ret ⟨_, rfl, ⟨_, rfl, Mg.own⟩⟩
noncomputable def lines_writer_word_0_step (s2 : List UInt8) (x0 : Int) (x2 : Int) (o2 : Glines_writer) : Option ((Int × Glines_writer) ⊕ Glines_writer) :=
  if x2 < x0 then
    (idx? s2 x2).bind fun b0 =>
    (idx? ([48, 49, 50, 51, 52, 53, 54, 55, 56, 57, 97, 98, 99, 100, 101, 102] : List UInt8) (shrI .u8 (UInt8.toNat b0 : Int) 4)).bind fun b2 =>
    (idx? s2 x2).bind fun b3 =>
    (idx? ([48, 49, 50, 51, 52, 53, 54, 55, 56, 57, 97, 98, 99, 100, 101, 102] : List UInt8) (andI .u8 (UInt8.toNat b3 : Int) 15)).bind fun b4 =>
    (lines_writer_put [(UInt8.toNat b2 : Int), (UInt8.toNat b4 : Int)] o2).bind fun r2 =>
    some (.inl ((wr (x2 + 1)), r2))
  else
    some (.inr o2)
noncomputable def lines_writer_word_0 (s2 : List UInt8) (x0 : Int) (x2 : Int) (o2 : Glines_writer) : Option Glines_writer :=
  loopO (fun s : Int × Glines_writer => lines_writer_word_0_step s2 x0 s.1 s.2) (x2, o2)
@[reducible] def lines_writer_word_0_st (s2 : List UInt8) (x0 : Int) (x2 : Int) (o2 : Glines_writer) (g3 : Gr) : PF.St := ⟨[(0, .ptr 0 0), (1, .str s2), (11, iav x0), (12, iav x2)], [(0, ⟨true, [.lst g3 (List.map u8av o2.f_out)]⟩)]⟩
def lines_writer_word_0_rel (s2 : List UInt8) (x0 : Int) (r : Glines_writer) (q : Ex × PF.St) : Prop := (fun r (q : Ex × PF.St) => ∃ g0', q = ((.exit 0), ⟨[], [(0, ⟨true, [.lst g0' (List.map u8av r.f_out)]⟩)]⟩) ∧ Mg 1 g0') r q
def lines_writer_word_0_inv (s2 : List UInt8) (x0 : Int) (v : Int × Glines_writer) (e : PF.St) : Prop := ∃ g3, e = lines_writer_word_0_st s2 x0 v.1 v.2 g3 ∧ Mg 1 g3
theorem lines_writer_word_0_sim (s2 : List UInt8) (x0 : Int) (x2 : Int) (o2 : Glines_writer) (g3 : Gr) (hg3 : Mg 1 g3) (s : PF.St) (hk : keep [0, 1, 11, 12] [] s = some (lines_writer_word_0_st s2 x0 x2 o2 g3)) : Sim (lines_writer_word_0 s2 x0 x2 o2) (Gv (lines_writer_word_0_rel s2 x0)) (LM.loop ([0, 1, 11, 12], [], [], B_lines_writer_word_0) s) := by
  refine sim_loop M XE (lines_writer_word_0_inv s2 x0) (lines_writer_word_0_rel s2 x0) ?_ _ _ _ hk ⟨g3, rfl, hg3⟩
  clear hk hg3
  rintro S hS hw hw8 R hR ⟨x2, o2⟩ env hp ⟨g3, he, hg3⟩
  change (⟨env, hp⟩ : PF.St) = lines_writer_word_0_st s2 x0 x2 o2 g3 at he
  cases he
  show Sim (lines_writer_word_0_step s2 x0 x2 o2) _ _
  unfold lines_writer_word_0_step
  simp only [hw]
  refine au (.ite Iff.rfl (fun hc2 => ?_) fun hc2 => ?_)
  · refine au ?_
    refine Sim.ix rfl (fun b0 hb0 => ?_)
    refine au ?_
    refine Sim.go hb0 ?_
    refine au ?_
    refine Sim.ix rfl (fun b2 hb2 => ?_)
    refine au ?_
    refine Sim.go hb2 ?_
    refine au ?_
    refine Sim.ix rfl (fun b3 hb3 => ?_)
    refine au ?_
    refine Sim.go hb3 ?_
    refine au ?_
    refine Sim.ix rfl (fun b4 hb4 => ?_)
    refine au ?_
    refine Sim.go hb4 ?_
    refine au ?_
    refine Sim.kl hS (ys := List.map u8av [(UInt8.toNat b2 : Int), (UInt8.toNat b4 : Int)]) rfl ?_
    refine au ?_
    refine Sim.callR hR (lines_writer_put_sim _ _ .full Mg.full g3 hg3) ?_
    rintro r2 q ⟨g4, rfl, hg4⟩
    refine au ?_
    exact Sim.ret ⟨_, _, rfl, rfl, ⟨_, rfl, hg4⟩⟩
  · refine au ?_
    exact Sim.ret ⟨_, rfl, ⟨_, rfl, hg3⟩⟩
noncomputable def lines_writer_word_0a_step (s3 : List UInt8) (x3 : Int) (x4 : Int) (o3 : Glines_writer) : Option ((Int × Glines_writer) ⊕ Glines_writer) :=
  if x4 < x3 then
    (idx? s3 x4).bind fun b5 =>
    (idx? ([48, 49, 50, 51, 52, 53, 54, 55, 56, 57, 97, 98, 99, 100, 101, 102] : List UInt8) (shrI .u8 (UInt8.toNat b5 : Int) 4)).bind fun b6 =>
    (idx? s3 x4).bind fun b7 =>
    (idx? ([48, 49, 50, 51, 52, 53, 54, 55, 56, 57, 97, 98, 99, 100, 101, 102] : List UInt8) (andI .u8 (UInt8.toNat b7 : Int) 15)).bind fun b8 =>
    (lines_writer_put [(UInt8.toNat b6 : Int), (UInt8.toNat b8 : Int)] o3).bind fun r4 =>
    some (.inl ((wr (x4 + 1)), r4))
  else
    some (.inr o3)
noncomputable def lines_writer_word_0a (s3 : List UInt8) (x3 : Int) (x4 : Int) (o3 : Glines_writer) : Option Glines_writer :=
  loopO (fun s : Int × Glines_writer => lines_writer_word_0a_step s3 x3 s.1 s.2) (x4, o3)
@[reducible] def lines_writer_word_0a_st (s3 : List UInt8) (x3 : Int) (x4 : Int) (o3 : Glines_writer) (g6 : Gr) : PF.St := ⟨[(0, .ptr 0 0), (1, .str s3), (11, iav x3), (12, iav x4)], [(0, ⟨true, [.lst g6 (List.map u8av o3.f_out)]⟩)]⟩
def lines_writer_word_0a_rel (s3 : List UInt8) (x3 : Int) (r : Glines_writer) (q : Ex × PF.St) : Prop := (fun r (q : Ex × PF.St) => ∃ g0', q = ((.exit 0), ⟨[], [(0, ⟨true, [.lst g0' (List.map u8av r.f_out)]⟩)]⟩) ∧ Mg 1 g0') r q
def lines_writer_word_0a_inv (s3 : List UInt8) (x3 : Int) (v : Int × Glines_writer) (e : PF.St) : Prop := ∃ g6, e = lines_writer_word_0a_st s3 x3 v.1 v.2 g6 ∧ Mg 1 g6
theorem lines_writer_word_0a_sim (s3 : List UInt8) (x3 : Int) (x4 : Int) (o3 : Glines_writer) (g6 : Gr) (hg6 : Mg 1 g6) (s : PF.St) (hk : keep [0, 1, 11, 12] [] s = some (lines_writer_word_0a_st s3 x3 x4 o3 g6)) : Sim (lines_writer_word_0a s3 x3 x4 o3) (Gv (lines_writer_word_0a_rel s3 x3)) (LM.loop ([0, 1, 11, 12], [], [], B_lines_writer_word_0) s) := by
  refine sim_loop M XE (lines_writer_word_0a_inv s3 x3) (lines_writer_word_0a_rel s3 x3) ?_ _ _ _ hk ⟨g6, rfl, hg6⟩
  clear hk hg6
  rintro S hS hw hw8 R hR ⟨x4, o3⟩ env hp ⟨g6, he, hg6⟩
  change (⟨env, hp⟩ : PF.St) = lines_writer_word_0a_st s3 x3 x4 o3 g6 at he
  cases he
  show Sim (lines_writer_word_0a_step s3 x3 x4 o3) _ _
  unfold lines_writer_word_0a_step
  simp only [hw]
  refine au (.ite Iff.rfl (fun hc3 => ?_) fun hc3 => ?_)
  · refine au ?_
    refine Sim.ix rfl (fun b5 hb5 => ?_)
    refine au ?_
    refine Sim.go hb5 ?_
    refine au ?_
    refine Sim.ix rfl (fun b6 hb6 => ?_)
    refine au ?_
    refine Sim.go hb6 ?_
    refine au ?_
    refine Sim.ix rfl (fun b7 hb7 => ?_)
    refine au ?_
    refine Sim.go hb7 ?_
    refine au ?_
    refine Sim.ix rfl (fun b8 hb8 => ?_)
    refine au ?_
    refine Sim.go hb8 ?_
    refine au ?_
    refine Sim.kl hS (ys := List.map u8av [(UInt8.toNat b6 : Int), (UInt8.toNat b8 : Int)]) rfl ?_
    refine au ?_
    refine Sim.callR hR (lines_writer_put_sim _ _ .full Mg.full g6 hg6) ?_
    rintro r4 q ⟨g7, rfl, hg7⟩
    refine au ?_
    exact Sim.ret ⟨_, _, rfl, rfl, ⟨_, rfl, hg7⟩⟩
  · refine au ?_
    exact Sim.ret ⟨_, rfl, ⟨_, rfl, hg6⟩⟩
noncomputable def lines_writer_word (s0 : List UInt8) (o0 : Glines_writer) : Option Glines_writer :=
  if s0 = ([] : List UInt8) then
    (lines_writer_put [45] o0).bind fun r0 =>
    (lines_writer_word_0 s0 (List.length s0 : Int) 0 r0).bind fun r3 =>
    some r3
  else
    (lines_writer_word_0a s0 (List.length s0 : Int) 0 o0).bind fun r5 =>
    some r5
theorem lines_writer_word_sim (s0 : List UInt8) (o0 : Glines_writer) (g0 : Gr) (hg0 : Mg 1 g0) : Sim (lines_writer_word s0 o0) (Gv fun r q => ∃ g0, q = (.tup [], [⟨true, [.lst g0 (List.map u8av r.f_out)]⟩]) ∧ Mg 1 g0) (LM.call n_lines_writer_word [.ptr 0 0, .str s0] [⟨true, [.lst g0 (List.map u8av o0.f_out)]⟩]) := by
  unfold lines_writer_word
  refine sim_evR M XE rfl rfl fun S hS hw hw8 R hR => ?_
  refine au (.ite Iff.rfl (fun hc => ?_) fun hc => ?_)
  · refine au ?_
    refine Sim.kl hS (ys := List.map u8av [45]) rfl ?_
    refine au ?_
    refine Sim.callR hR (lines_writer_put_sim _ _ .full Mg.full g0 hg0) ?_
    rintro r0 q ⟨g2, rfl, hg2⟩
    refine au ?_
    refine Sim.callL hR (lines_writer_word_0_sim s0 (List.length s0 : Int) 0 r0 g2 hg2 _ rfl) ?_
    rintro r3 q ⟨g5, rfl, hg5⟩
    refine au ?_
    exact Sim.ret ⟨_, rfl, ⟨_, rfl, hg5⟩⟩
  · refine au ?_
    refine Sim.callL hR (lines_writer_word_0a_sim s0 (List.length s0 : Int) 0 o0 g0 hg0 _ rfl) ?_
    rintro r5 q ⟨g8, rfl, hg8⟩
    refine au ?_
    exact Sim.ret ⟨_, rfl, ⟨_, rfl, hg8⟩⟩
noncomputable def lines_Word (bytes : List UInt8) : Option ((List UInt8)) :=
  (lines_writer_word bytes (Glines_writer.mk ([] : List Int))).bind fun r0 =>
  some (bytesOf r0.f_out)
theorem lines_Word_sim (bytes : List UInt8) : Sim (lines_Word bytes) (Gv fun r q => q = (.str r, [])) (LM.call n_lines_Word [.str bytes] []) := by
  unfold lines_Word
  refine sim_evR M XE rfl rfl fun S hS hw hw8 R hR => ?_
  refine au ?_
  refine Sim.callR hR (lines_writer_word_sim _ _ .full Mg.full) ?_
  rintro r0 q ⟨g0, rfl, hg0⟩
  refine au ?_
  refine Sim.go (bytes_mapM _) ?_
  exact au (.ret ⟨_, rfl, rfl⟩)
noncomputable def show_message (d0 : GDeliver) : Option ((List UInt8)) :=
  (strconv_Itoa d0.From).bind fun r0 =>
  (strconv_Itoa d0.Slot).bind fun r2 =>
  (strconv_Itoa d0.Cycle).bind fun r3 =>
  (lines_Word d0.Text).bind fun r4 =>
  if List.length [r0, r2, r3] + List.length [r4] ≤ lenMax then
    (strings_Join ([r0, r2, r3] ++ [r4]) ([58] : List UInt8)).bind fun r5 =>
    some r5
  else none
theorem show_message_sim (d0 : GDeliver) : Sim (show_message d0) (Gv fun r q => q = (.str r, [])) (LM.call n_show_message [GDeliver.av d0] []) := by
  unfold show_message
  refine sim_evR M XE rfl rfl fun S hS hw hw8 R hR => ?_
  refine au (cE hR (strconv_Itoa_sim _) fun r0 => ?_)
  refine au (cE hR (strconv_Itoa_sim _) fun r2 => ?_)
  refine au (cE hR (strconv_Itoa_sim _) fun r3 => ?_)
  refine au ?_
  refine Sim.kl hS (ys := List.map sav [r0, r2, r3]) rfl ?_
  refine au (cE hR (lines_Word_sim _) fun r4 => ?_)
  refine au ?_
  refine Sim.kl hS (ys := List.map sav [r4]) rfl ?_
  refine au ?_
  first | (refine Sim.goB (may_map (by intro _; rfl) Mg.full _) ?_) | skip
  refine au ?_
  first | (refine Sim.goB (okE_map (by intro _; exact ⟨rfl, rfl, rfl⟩) _) ?_) | skip
  refine au ?_
  first | refine Sim.ite (by simp) (fun _ => ?_) (fun _ => Sim.no) | refine Sim.guard (fun _ => ?_)
  refine au ?_
  refine Sim.kl hS (ys := List.map sav ([r0, r2, r3] ++ [r4])) (by simp) ?_
  refine au (cE hR (strings_Join_sim _ _) fun r5 => ?_)
  exact au (.ret ⟨_, rfl, rfl⟩)
noncomputable def show_with_0_step (x0 : List GDeliver) (x2 : Int) (words2 : List (List UInt8)) (x3 : Int) : Option (((List (List UInt8)) × Int) ⊕ ((List (List UInt8)))) :=
  if x3 < x2 then
    (idx? x0 x3).bind fun z0 =>
    (show_message z0).bind fun r0 =>
    if List.length words2 + List.length [r0] ≤ lenMax then
      some (.inl ((words2 ++ [r0]), (wr (x3 + 1))))
    else none
  else
    some (.inr words2)
noncomputable def show_with_0 (x0 : List GDeliver) (x2 : Int) (words2 : List (List UInt8)) (x3 : Int) : Option ((List (List UInt8))) :=
  loopO (fun s : (List (List UInt8)) × Int => show_with_0_step x0 x2 s.1 s.2) (words2, x3)
@[reducible] def show_with_0_st (x0 : List GDeliver) (x2 : Int) (words2 : List (List UInt8)) (x3 : Int) (g2 : Gr) : PF.St := ⟨[(0, .lst g2 (List.map sav words2)), (7, lav GDeliver.av x0), (8, iav x2), (9, iav x3)], []⟩
def show_with_0_rel (x0 : List GDeliver) (x2 : Int) (r : ((List (List UInt8)))) (q : Ex × PF.St) : Prop := (fun r (q : Ex × PF.St) => ∃ g0', q = ((.exit 0), ⟨[(0, .lst g0' (List.map sav r))], []⟩) ∧ Mg 1 g0') r q
def show_with_0_inv (x0 : List GDeliver) (x2 : Int) (v : (List (List UInt8)) × Int) (e : PF.St) : Prop := ∃ g2, e = show_with_0_st x0 x2 v.1 v.2 g2 ∧ Mg 1 g2
theorem show_with_0_sim (x0 : List GDeliver) (x2 : Int) (words2 : List (List UInt8)) (x3 : Int) (g2 : Gr) (hg2 : Mg 1 g2) (s : PF.St) (hk : keep [0, 7, 8, 9] [] s = some (show_with_0_st x0 x2 words2 x3 g2)) : Sim (show_with_0 x0 x2 words2 x3) (Gv (show_with_0_rel x0 x2)) (LM.loop ([0, 7, 8, 9], [], [0], B_show_with_0) s) := by
  refine sim_loop M XE (show_with_0_inv x0 x2) (show_with_0_rel x0 x2) ?_ _ _ _ hk ⟨g2, rfl, hg2⟩
  clear hk hg2
  rintro S hS hw hw8 R hR ⟨words2, x3⟩ env hp ⟨g2, he, hg2⟩
  change (⟨env, hp⟩ : PF.St) = show_with_0_st x0 x2 words2 x3 g2 at he
  cases he
  show Sim (show_with_0_step x0 x2 words2 x3) _ _
  unfold show_with_0_step
  simp only [hw]
  refine au (.ite Iff.rfl (fun hc => ?_) fun hc => ?_)
  · refine au ?_
    refine Sim.ix (by simp) (fun z0 hz0 => ?_)
    refine au ?_
    refine Sim.go (idx_map _ hz0) ?_
    refine au (cE hR (show_message_sim _) fun r0 => ?_)
    refine au ?_
    refine Sim.kl hS (ys := List.map sav [r0]) rfl ?_
    refine au ?_
    first | (refine Sim.goB (may_map (by intro _; rfl) hg2 _) ?_) | skip
    refine au ?_
    first | (refine Sim.goB (okE_map (by intro _; exact ⟨rfl, rfl, rfl⟩) _) ?_) | skip
    refine au ?_
    first | refine Sim.ite (by simp) (fun _ => ?_) (fun _ => Sim.no) | refine Sim.guard (fun _ => ?_)
    refine au ?_
    refine Sim.kl hS (ys := List.map sav (words2 ++ [r0])) (by simp) ?_
    refine au ?_
    exact Sim.ret ⟨_, _, rfl, rfl, ⟨_, rfl, Mg.own⟩⟩
  · refine au ?_
    exact Sim.ret ⟨_, rfl, ⟨_, rfl, hg2⟩⟩
noncomputable def show_with (words : List (List UInt8)) (got : List GDeliver) : Option ((List UInt8)) :=
  (show_with_0 got (List.length got : Int) words 0).bind fun r2 =>
  (show_text r2).bind fun r3 =>
  some r3
theorem show_with_sim (words : List (List UInt8)) (got : List GDeliver) (g0 : Gr) (hg0 : Mg 1 g0) : Sim (show_with words got) (Gv fun r q => q = (.str r, [])) (LM.call n_show_with [.lst g0 (List.map sav words), lav GDeliver.av got] []) := by
  unfold show_with
  refine sim_evR M XE rfl rfl fun S hS hw hw8 R hR => ?_
  refine au ?_
  refine Sim.ki hS (m := (List.length got : Int)) (by simp) ?_
  refine au ?_
  refine Sim.callL hR (show_with_0_sim got (List.length got : Int) words 0 g0 hg0 _ rfl) ?_
  rintro r2 q ⟨g3, rfl, hg3⟩
  refine au (cE hR (show_text_sim _) fun r3 => ?_)
  exact au (.ret ⟨_, rfl, rfl⟩)
noncomputable def show_Report (r0 : GReport) : Option ((List UInt8)) :=
  (show_flag r0.Pulse).bind fun r2 =>
  (show_flag r0.Sync).bind fun r3 =>
  (strconv_Itoa r0.Number).bind fun r4 =>
  (strconv_Itoa r0.Slot).bind fun r5 =>
  (lines_Word r0.Members).bind fun r6 =>
  (strconv_Itoa r0.Sent).bind fun r7 =>
  (show_with [([112, 117, 108, 115, 101] : List UInt8), r2, ([115, 121, 110, 99] : List UInt8), r3, ([110, 117, 109, 98, 101, 114] : List UInt8), r4, ([115, 108, 111, 116] : List UInt8), r5, ([109, 101, 109, 98, 101, 114, 115] : List UInt8), r6, ([115, 101, 110, 116] : List UInt8), r7] r0.Got).bind fun r8 =>
  some r8
theorem show_Report_sim (r0 : GReport) : Sim (show_Report r0) (Gv fun r q => q = (.str r, [])) (LM.call n_show_Report [GReport.av r0] []) := by
  unfold show_Report
  refine sim_evR M XE rfl rfl fun S hS hw hw8 R hR => ?_
  refine au (cE hR (show_flag_sim _) fun r2 => ?_)
  refine au (cE hR (show_flag_sim _) fun r3 => ?_)
  refine au (cE hR (strconv_Itoa_sim _) fun r4 => ?_)
  refine au (cE hR (strconv_Itoa_sim _) fun r5 => ?_)
  refine au (cE hR (lines_Word_sim _) fun r6 => ?_)
  refine au (cE hR (strconv_Itoa_sim _) fun r7 => ?_)
  refine au ?_
  refine Sim.kl hS (ys := List.map sav [([112, 117, 108, 115, 101] : List UInt8), r2, ([115, 121, 110, 99] : List UInt8), r3, ([110, 117, 109, 98, 101, 114] : List UInt8), r4, ([115, 108, 111, 116] : List UInt8), r5, ([109, 101, 109, 98, 101, 114, 115] : List UInt8), r6, ([115, 101, 110, 116] : List UInt8), r7]) rfl ?_
  refine au (cE hR (show_with_sim _ _ .full Mg.full) fun r8 => ?_)
  exact au (.ret ⟨_, rfl, rfl⟩)
noncomputable def show_Cycle (c0 : GCycle) : Option ((List UInt8)) :=
  (strconv_Itoa c0.At).bind fun r0 =>
  (show_flag c0.Sync).bind fun r2 =>
  (strconv_Itoa c0.Number).bind fun r3 =>
  (lines_Word c0.Members).bind fun r4 =>
  (show_with [([99, 121, 99, 108, 101] : List UInt8), r0, ([115, 121, 110, 99] : List UInt8), r2, ([110, 117, 109, 98, 101, 114] : List UInt8), r3, ([109, 101, 109, 98, 101, 114, 115] : List UInt8), r4] c0.Got).bind fun r5 =>
  some r5
theorem show_Cycle_sim (c0 : GCycle) : Sim (show_Cycle c0) (Gv fun r q => q = (.str r, [])) (LM.call n_show_Cycle [GCycle.av c0] []) := by
  unfold show_Cycle
  refine sim_evR M XE rfl rfl fun S hS hw hw8 R hR => ?_
  refine au (cE hR (strconv_Itoa_sim _) fun r0 => ?_)
  refine au (cE hR (show_flag_sim _) fun r2 => ?_)
  refine au (cE hR (strconv_Itoa_sim _) fun r3 => ?_)
  refine au (cE hR (lines_Word_sim _) fun r4 => ?_)
  refine au ?_
  refine Sim.kl hS (ys := List.map sav [([99, 121, 99, 108, 101] : List UInt8), r0, ([115, 121, 110, 99] : List UInt8), r2, ([110, 117, 109, 98, 101, 114] : List UInt8), r3, ([109, 101, 109, 98, 101, 114, 115] : List UInt8), r4]) rfl ?_
  refine au (cE hR (show_with_sim _ _ .full Mg.full) fun r5 => ?_)
  exact au (.ret ⟨_, rfl, rfl⟩)
noncomputable def show_line (words : List (List UInt8)) : Option ((List UInt8)) :=
  (show_text words).bind fun r0 =>
  if List.length r0 + List.length ([10] : List UInt8) ≤ 9223372036854775807 then
    some (r0 ++ ([10] : List UInt8))
  else none
theorem show_line_sim (words : List (List UInt8)) : Sim (show_line words) (Gv fun r q => q = (.str r, [])) (LM.call n_show_line [lav sav words] []) := by
  unfold show_line
  refine sim_evR M XE rfl rfl fun S hS hw hw8 R hR => ?_
  refine au (cE hR (show_text_sim _) fun r0 => ?_)
  refine au ?_
  first | refine Sim.ite Iff.rfl (fun _ => ?_) (fun _ => Sim.no) | refine Sim.guard (fun _ => ?_)
  exact au (.ret ⟨_, rfl, rfl⟩)
noncomputable def show_Verdict_0_step (x0 : List Gs_wordL_nI) (x2 : Int) (v2 : GVerdict) (out : List UInt8) (x3 : Int) : Option (((List UInt8) × Int) ⊕ ((List UInt8))) :=
  if x3 < x2 then
    (idx? x0 x3).bind fun z0 =>
    (strconv_Itoa z0.f_n).bind fun r0 =>
    (show_line [z0.f_word, r0]).bind fun r2 =>
    if List.length out + List.length r2 ≤ 9223372036854775807 then
      some (.inl ((out ++ r2), (wr (x3 + 1))))
    else none
  else
    some (.inr out)
noncomputable def show_Verdict_0 (x0 : List Gs_wordL_nI) (x2 : Int) (v2 : GVerdict) (out : List UInt8) (x3 : Int) : Option ((List UInt8)) :=
  loopO (fun s : (List UInt8) × Int => show_Verdict_0_step x0 x2 v2 s.1 s.2) (out, x3)
@[reducible] def show_Verdict_0_st (x0 : List Gs_wordL_nI) (x2 : Int) (v2 : GVerdict) (out : List UInt8) (x3 : Int) (g0 : Gr) : PF.St := ⟨[(1, .ptr 101 0), (3, .str out), (24, .lst g0 (List.map Gs_wordL_nI.av x0)), (25, iav x2), (26, iav x3)], [(101, ⟨true, GVerdict.cells v2⟩)]⟩
def show_Verdict_0_rel (x0 : List Gs_wordL_nI) (x2 : Int) (v2 : GVerdict) (r : ((List UInt8))) (q : Ex × PF.St) : Prop := (fun r (q : Ex × PF.St) => q = ((.exit 0), ⟨[(1, .ptr 101 0), (3, .str r)], [(101, ⟨true, GVerdict.cells v2⟩)]⟩)) r q
def show_Verdict_0_inv (x0 : List Gs_wordL_nI) (x2 : Int) (v2 : GVerdict) (v : (List UInt8) × Int) (e : PF.St) : Prop := ∃ g0, e = show_Verdict_0_st x0 x2 v2 v.1 v.2 g0 ∧ Mg 2 g0
theorem show_Verdict_0_sim (x0 : List Gs_wordL_nI) (x2 : Int) (v2 : GVerdict) (out : List UInt8) (x3 : Int) (g0 : Gr) (hg0 : Mg 2 g0) (s : PF.St) (hk : keep [1, 3, 24, 25, 26] [101] s = some (show_Verdict_0_st x0 x2 v2 out x3 g0)) : Sim (show_Verdict_0 x0 x2 v2 out x3) (Gv (show_Verdict_0_rel x0 x2 v2)) (LM.loop ([1, 3, 24, 25, 26], [101], [1, 3], B_show_Verdict_0) s) := by
  refine sim_loop M XE (show_Verdict_0_inv x0 x2 v2) (show_Verdict_0_rel x0 x2 v2) ?_ _ _ _ hk ⟨g0, rfl, hg0⟩
  clear hk hg0
  rintro S hS hw hw8 R hR ⟨out, x3⟩ env hp ⟨g0, he, hg0⟩
  change (⟨env, hp⟩ : PF.St) = show_Verdict_0_st x0 x2 v2 out x3 g0 at he
  cases he
  show Sim (show_Verdict_0_step x0 x2 v2 out x3) _ _
  unfold show_Verdict_0_step
  simp only [hw]
  refine au (.ite Iff.rfl (fun hc => ?_) fun hc => ?_)
  · refine au ?_
    refine Sim.ix (by simp) (fun z0 hz0 => ?_)
    refine au ?_
    refine Sim.go (idx_map _ hz0) ?_
    refine au (cE hR (strconv_Itoa_sim _) fun r0 => ?_)
    refine au ?_
    refine Sim.kl hS (ys := List.map sav [z0.f_word, r0]) rfl ?_
    refine au (cE hR (show_line_sim _) fun r2 => ?_)
    refine au ?_
    first | refine Sim.ite Iff.rfl (fun _ => ?_) (fun _ => Sim.no) | refine Sim.guard (fun _ => ?_)
    refine au ?_
    exact Sim.ret ⟨_, _, rfl, rfl, ⟨_, rfl, hg0⟩⟩
  · exact au (.ret ⟨_, rfl, rfl⟩)
noncomputable def show_Verdict_1_step (x4 : Ar5 (List UInt8)) (faults : Ar5 (List UInt8)) (v3 : GVerdict) (out2 : List UInt8) (x5 : Int) : Option (((List UInt8) × Int) ⊕ ((List UInt8))) :=
  if x5 < 5 then
    if 0 ≤ x5 ∧ x5 < (5 : Nat) then
      (Ar5.get? (Ar5.mk x4.a0 x4.a1 x4.a2 x4.a3 x4.a4) (Int.toNat x5)).bind fun z2 =>
      if 0 ≤ x5 ∧ x5 < (5 : Nat) then
        (Ar5.get? (Ar5.mk v3.Faults.a0 v3.Faults.a1 v3.Faults.a2 v3.Faults.a3 v3.Faults.a4) (Int.toNat x5)).bind fun z3 =>
        (show_Name z3).bind fun r4 =>
        (show_line [z2, r4]).bind fun r5 =>
        if List.length out2 + List.length r5 ≤ 9223372036854775807 then
          some (.inl ((out2 ++ r5), (wr (x5 + 1))))
        else none
      else none
    else none
  else
    some (.inr out2)
noncomputable def show_Verdict_1 (x4 : Ar5 (List UInt8)) (faults : Ar5 (List UInt8)) (v3 : GVerdict) (out2 : List UInt8) (x5 : Int) : Option ((List UInt8)) :=
  loopO (fun s : (List UInt8) × Int => show_Verdict_1_step x4 faults v3 s.1 s.2) (out2, x5)
@[reducible] def show_Verdict_1_st (x4 : Ar5 (List UInt8)) (faults : Ar5 (List UInt8)) (v3 : GVerdict) (out2 : List UInt8) (x5 : Int) : PF.St := ⟨[(1, .ptr 101 0), (3, .str out2), (41, Ar5.av sav x4), (42, iav x5)], [(106, ⟨true, Ar5.cells sav faults⟩), (101, ⟨true, GVerdict.cells v3⟩)]⟩
def show_Verdict_1_rel (x4 : Ar5 (List UInt8)) (faults : Ar5 (List UInt8)) (v3 : GVerdict) (r : ((List UInt8))) (q : Ex × PF.St) : Prop := (fun r (q : Ex × PF.St) => q = ((.exit 2), ⟨[(3, .str r)], [(106, ⟨true, Ar5.cells sav faults⟩), (101, ⟨true, GVerdict.cells v3⟩)]⟩)) r q
def show_Verdict_1_inv (x4 : Ar5 (List UInt8)) (faults : Ar5 (List UInt8)) (v3 : GVerdict) (v : (List UInt8) × Int) (e : PF.St) : Prop := e = show_Verdict_1_st x4 faults v3 v.1 v.2
theorem show_Verdict_1_sim (x4 : Ar5 (List UInt8)) (faults : Ar5 (List UInt8)) (v3 : GVerdict) (out2 : List UInt8) (x5 : Int) (s : PF.St) (hk : keep [1, 3, 41, 42] [101, 106] s = some (show_Verdict_1_st x4 faults v3 out2 x5)) : Sim (show_Verdict_1 x4 faults v3 out2 x5) (Gv (show_Verdict_1_rel x4 faults v3)) (LM.loop ([1, 3, 41, 42], [101, 106], [3], B_show_Verdict_1) s) := by
  refine sim_loop M XE (show_Verdict_1_inv x4 faults v3) (show_Verdict_1_rel x4 faults v3) ?_ _ _ _ hk rfl
  clear hk
  rintro S hS hw hw8 R hR ⟨out2, x5⟩ env hp he
  change (⟨env, hp⟩ : PF.St) = show_Verdict_1_st x4 faults v3 out2 x5 at he
  cases he
  show Sim (show_Verdict_1_step x4 faults v3 out2 x5) _ _
  unfold show_Verdict_1_step
  simp only [hw]
  refine au (.ite Iff.rfl (fun hc2 => ?_) fun hc2 => ?_)
  · refine au ?_
    first | refine Sim.ite Iff.rfl (fun hb => ?_) (fun _ => Sim.no) | refine Sim.guard (fun hb => ?_)
    refine au ?_
    refine Sim.opt (f := sav) (by have hb' : (Int.toNat x5) < 5 := (by omega); generalize (Int.toNat x5) = j at hb' ⊢; rcases j with _|_|_|_|_|j <;> first | rfl | exact absurd hb' (by omega)) (fun z2 _ => ?_)
    refine au ?_
    first | refine Sim.ite Iff.rfl (fun hb2 => ?_) (fun _ => Sim.no) | refine Sim.guard (fun hb2 => ?_)
    refine au ?_
    refine Sim.opt (f := iav) (by have hb' : (Int.toNat x5) < 5 := (by omega); generalize (Int.toNat x5) = j at hb' ⊢; rcases j with _|_|_|_|_|j <;> first | rfl | exact absurd hb' (by omega)) (fun z3 _ => ?_)
    refine au (cE hR (show_Name_sim _) fun r4 => ?_)
    refine au ?_
    refine Sim.kl hS (ys := List.map sav [z2, r4]) rfl ?_
    refine au (cE hR (show_line_sim _) fun r5 => ?_)
    refine au ?_
    first | refine Sim.ite Iff.rfl (fun _ => ?_) (fun _ => Sim.no) | refine Sim.guard (fun _ => ?_)
    refine au ?_
    exact Sim.ret ⟨_, _, rfl, rfl, rfl⟩
  · exact au (.ret ⟨_, rfl, rfl⟩)
noncomputable def show_Verdict (v0 : GVerdict) : Option ((List UInt8)) :=
  (show_Verdict_0 [(Gs_wordL_nI.mk ([116, 105, 99, 107, 115] : List UInt8) v0.Ticks), (Gs_wordL_nI.mk ([108, 97, 115, 116] : List UInt8) v0.Last), (Gs_wordL_nI.mk ([115, 101, 116, 116, 108, 101, 100] : List UInt8) v0.Settled), (Gs_wordL_nI.mk ([97, 108, 108] : List UInt8) v0.All), (Gs_wordL_nI.mk ([99, 121, 99, 108, 101, 115] : List UInt8) v0.Cycles)] (List.length [(Gs_wordL_nI.mk ([116, 105, 99, 107, 115] : List UInt8) v0.Ticks), (Gs_wordL_nI.mk ([108, 97, 115, 116] : List UInt8) v0.Last), (Gs_wordL_nI.mk ([115, 101, 116, 116, 108, 101, 100] : List UInt8) v0.Settled), (Gs_wordL_nI.mk ([97, 108, 108] : List UInt8) v0.All), (Gs_wordL_nI.mk ([99, 121, 99, 108, 101, 115] : List UInt8) v0.Cycles)] : Int) v0 ([] : List UInt8) 0).bind fun r3 =>
  (show_Verdict_1 (Ar5.mk ([112, 117, 108, 115, 101, 115] : List UInt8) ([110, 117, 109, 98, 101, 114, 115] : List UInt8) ([115, 108, 111, 116, 115] : List UInt8) ([114, 111, 117, 110, 100, 115] : List UInt8) ([109, 101, 109, 98, 101, 114, 115] : List UInt8)) (Ar5.mk ([112, 117, 108, 115, 101, 115] : List UInt8) ([110, 117, 109, 98, 101, 114, 115] : List UInt8) ([115, 108, 111, 116, 115] : List UInt8) ([114, 111, 117, 110, 100, 115] : List UInt8) ([109, 101, 109, 98, 101, 114, 115] : List UInt8)) v0 r3 0).bind fun r6 =>
  some r6
theorem show_Verdict_sim (v0 : GVerdict) : Sim (show_Verdict v0) (Gv fun r q => q = (.str r, [])) (LM.call n_show_Verdict [GVerdict.av v0] []) := by
  unfold show_Verdict
  refine sim_evR M XE rfl rfl fun S hS hw hw8 R hR => ?_
  refine au ?_
  refine Sim.kl hS (ys := List.map Gs_wordL_nI.av [(Gs_wordL_nI.mk ([116, 105, 99, 107, 115] : List UInt8) v0.Ticks), (Gs_wordL_nI.mk ([108, 97, 115, 116] : List UInt8) v0.Last), (Gs_wordL_nI.mk ([115, 101, 116, 116, 108, 101, 100] : List UInt8) v0.Settled), (Gs_wordL_nI.mk ([97, 108, 108] : List UInt8) v0.All), (Gs_wordL_nI.mk ([99, 121, 99, 108, 101, 115] : List UInt8) v0.Cycles)]) rfl ?_
  refine au ?_
  refine Sim.ki hS (m := (List.length [(Gs_wordL_nI.mk ([116, 105, 99, 107, 115] : List UInt8) v0.Ticks), (Gs_wordL_nI.mk ([108, 97, 115, 116] : List UInt8) v0.Last), (Gs_wordL_nI.mk ([115, 101, 116, 116, 108, 101, 100] : List UInt8) v0.Settled), (Gs_wordL_nI.mk ([97, 108, 108] : List UInt8) v0.All), (Gs_wordL_nI.mk ([99, 121, 99, 108, 101, 115] : List UInt8) v0.Cycles)] : Int)) (by simp) ?_
  refine au ?_
  refine Sim.callL hR (show_Verdict_0_sim [(Gs_wordL_nI.mk ([116, 105, 99, 107, 115] : List UInt8) v0.Ticks), (Gs_wordL_nI.mk ([108, 97, 115, 116] : List UInt8) v0.Last), (Gs_wordL_nI.mk ([115, 101, 116, 116, 108, 101, 100] : List UInt8) v0.Settled), (Gs_wordL_nI.mk ([97, 108, 108] : List UInt8) v0.All), (Gs_wordL_nI.mk ([99, 121, 99, 108, 101, 115] : List UInt8) v0.Cycles)] (List.length [(Gs_wordL_nI.mk ([116, 105, 99, 107, 115] : List UInt8) v0.Ticks), (Gs_wordL_nI.mk ([108, 97, 115, 116] : List UInt8) v0.Last), (Gs_wordL_nI.mk ([115, 101, 116, 116, 108, 101, 100] : List UInt8) v0.Settled), (Gs_wordL_nI.mk ([97, 108, 108] : List UInt8) v0.All), (Gs_wordL_nI.mk ([99, 121, 99, 108, 101, 115] : List UInt8) v0.Cycles)] : Int) v0 ([] : List UInt8) 0 .full Mg.full _ rfl) ?_
  rintro r3 q rfl
  refine au ?_
  refine Sim.callL hR (show_Verdict_1_sim (Ar5.mk ([112, 117, 108, 115, 101, 115] : List UInt8) ([110, 117, 109, 98, 101, 114, 115] : List UInt8) ([115, 108, 111, 116, 115] : List UInt8) ([114, 111, 117, 110, 100, 115] : List UInt8) ([109, 101, 109, 98, 101, 114, 115] : List UInt8)) (Ar5.mk ([112, 117, 108, 115, 101, 115] : List UInt8) ([110, 117, 109, 98, 101, 114, 115] : List UInt8) ([115, 108, 111, 116, 115] : List UInt8) ([114, 111, 117, 110, 100, 115] : List UInt8) ([109, 101, 109, 98, 101, 114, 115] : List UInt8)) v0 r3 0 _ rfl) ?_
  rintro r6 q rfl
  exact au (.ret ⟨_, rfl, rfl⟩)
noncomputable def show_Round_0_step (x0 : List (List UInt8)) (x2 : Int) (r5 : GRound) (out : List UInt8) (x3 : Int) : Option (((List UInt8) × Int) ⊕ ((List UInt8))) :=
  if x3 < x2 then
    (idx? x0 x3).bind fun z0 =>
    (strconv_Itoa x3).bind fun r6 =>
    (lines_Word z0).bind fun r7 =>
    (show_line [([108, 105, 110, 101] : List UInt8), r6, r7]).bind fun r8 =>
    if List.length out + List.length r8 ≤ 9223372036854775807 then
      some (.inl ((out ++ r8), (wr (x3 + 1))))
    else none
  else
    some (.inr out)
noncomputable def show_Round_0 (x0 : List (List UInt8)) (x2 : Int) (r5 : GRound) (out : List UInt8) (x3 : Int) : Option ((List UInt8)) :=
  loopO (fun s : (List UInt8) × Int => show_Round_0_step x0 x2 r5 s.1 s.2) (out, x3)
@[reducible] def show_Round_0_st (x0 : List (List UInt8)) (x2 : Int) (r5 : GRound) (out : List UInt8) (x3 : Int) : PF.St := ⟨[(1, .ptr 101 0), (3, .str out), (17, lav sav x0), (18, iav x2), (19, iav x3)], [(101, ⟨true, GRound.cells r5⟩)]⟩
def show_Round_0_rel (x0 : List (List UInt8)) (x2 : Int) (r5 : GRound) (r : ((List UInt8))) (q : Ex × PF.St) : Prop := (fun r (q : Ex × PF.St) => q = ((.exit 0), ⟨[(1, .ptr 101 0), (3, .str r)], [(101, ⟨true, GRound.cells r5⟩)]⟩)) r q
def show_Round_0_inv (x0 : List (List UInt8)) (x2 : Int) (r5 : GRound) (v : (List UInt8) × Int) (e : PF.St) : Prop := e = show_Round_0_st x0 x2 r5 v.1 v.2
theorem show_Round_0_sim (x0 : List (List UInt8)) (x2 : Int) (r5 : GRound) (out : List UInt8) (x3 : Int) (s : PF.St) (hk : keep [1, 3, 17, 18, 19] [101] s = some (show_Round_0_st x0 x2 r5 out x3)) : Sim (show_Round_0 x0 x2 r5 out x3) (Gv (show_Round_0_rel x0 x2 r5)) (LM.loop ([1, 3, 17, 18, 19], [101], [1, 3], B_show_Round_0) s) := by
  refine sim_loop M XE (show_Round_0_inv x0 x2 r5) (show_Round_0_rel x0 x2 r5) ?_ _ _ _ hk rfl
  clear hk
  rintro S hS hw hw8 R hR ⟨out, x3⟩ env hp he
  change (⟨env, hp⟩ : PF.St) = show_Round_0_st x0 x2 r5 out x3 at he
  cases he
  show Sim (show_Round_0_step x0 x2 r5 out x3) _ _
  unfold show_Round_0_step
  simp only [hw]
  refine au (.ite Iff.rfl (fun hc => ?_) fun hc => ?_)
  · refine au ?_
    refine Sim.ix (by simp) (fun z0 hz0 => ?_)
    refine au ?_
    refine Sim.go (idx_map _ hz0) ?_
    refine au (cE hR (strconv_Itoa_sim _) fun r6 => ?_)
    refine au (cE hR (lines_Word_sim _) fun r7 => ?_)
    refine au ?_
    refine Sim.kl hS (ys := List.map sav [([108, 105, 110, 101] : List UInt8), r6, r7]) rfl ?_
    refine au (cE hR (show_line_sim _) fun r8 => ?_)
    refine au ?_
    first | refine Sim.ite Iff.rfl (fun _ => ?_) (fun _ => Sim.no) | refine Sim.guard (fun _ => ?_)
    refine au ?_
    exact Sim.ret ⟨_, _, rfl, rfl, rfl⟩
  · exact au (.ret ⟨_, rfl, rfl⟩)
noncomputable def show_Round_1_step (x4 : List (List GDeliver)) (x5 : Int) (r10 : GRound) (out2 : List UInt8) (x6 : Int) : Option (((List UInt8) × Int) ⊕ ((List UInt8))) :=
  if x6 < x5 then
    (idx? x4 x6).bind fun z2 =>
    (strconv_Itoa x6).bind fun r11 =>
    (show_with [([103, 111, 116] : List UInt8), r11] z2).bind fun r12 =>
    if List.length r12 + List.length ([10] : List UInt8) ≤ 9223372036854775807 then
      if List.length out2 + List.length (r12 ++ ([10] : List UInt8)) ≤ 9223372036854775807 then
        some (.inl ((out2 ++ (r12 ++ ([10] : List UInt8))), (wr (x6 + 1))))
      else none
    else none
  else
    some (.inr out2)
noncomputable def show_Round_1 (x4 : List (List GDeliver)) (x5 : Int) (r10 : GRound) (out2 : List UInt8) (x6 : Int) : Option ((List UInt8)) :=
  loopO (fun s : (List UInt8) × Int => show_Round_1_step x4 x5 r10 s.1 s.2) (out2, x6)
@[reducible] def show_Round_1_st (x4 : List (List GDeliver)) (x5 : Int) (r10 : GRound) (out2 : List UInt8) (x6 : Int) : PF.St := ⟨[(3, .str out2), (34, lav (lav GDeliver.av) x4), (35, iav x5), (36, iav x6)], [(101, ⟨true, GRound.cells r10⟩)]⟩
def show_Round_1_rel (x4 : List (List GDeliver)) (x5 : Int) (r10 : GRound) (r : ((List UInt8))) (q : Ex × PF.St) : Prop := (fun r (q : Ex × PF.St) => q = ((.exit 2), ⟨[(3, .str r)], [(101, ⟨true, GRound.cells r10⟩)]⟩)) r q
def show_Round_1_inv (x4 : List (List GDeliver)) (x5 : Int) (r10 : GRound) (v : (List UInt8) × Int) (e : PF.St) : Prop := e = show_Round_1_st x4 x5 r10 v.1 v.2
theorem show_Round_1_sim (x4 : List (List GDeliver)) (x5 : Int) (r10 : GRound) (out2 : List UInt8) (x6 : Int) (s : PF.St) (hk : keep [3, 34, 35, 36] [101] s = some (show_Round_1_st x4 x5 r10 out2 x6)) : Sim (show_Round_1 x4 x5 r10 out2 x6) (Gv (show_Round_1_rel x4 x5 r10)) (LM.loop ([3, 34, 35, 36], [101], [3], B_show_Round_1) s) := by
  refine sim_loop M XE (show_Round_1_inv x4 x5 r10) (show_Round_1_rel x4 x5 r10) ?_ _ _ _ hk rfl
  clear hk
  rintro S hS hw hw8 R hR ⟨out2, x6⟩ env hp he
  change (⟨env, hp⟩ : PF.St) = show_Round_1_st x4 x5 r10 out2 x6 at he
  cases he
  show Sim (show_Round_1_step x4 x5 r10 out2 x6) _ _
  unfold show_Round_1_step
  simp only [hw]
  refine au (.ite Iff.rfl (fun hc2 => ?_) fun hc2 => ?_)
  · refine au ?_
    refine Sim.ix (by simp) (fun z2 hz2 => ?_)
    refine au ?_
    refine Sim.go (idx_map _ hz2) ?_
    refine au (cE hR (strconv_Itoa_sim _) fun r11 => ?_)
    refine au ?_
    refine Sim.kl hS (ys := List.map sav [([103, 111, 116] : List UInt8), r11]) rfl ?_
    refine au (cE hR (show_with_sim _ _ .full Mg.full) fun r12 => ?_)
    refine au ?_
    first | refine Sim.ite Iff.rfl (fun _ => ?_) (fun _ => Sim.no) | refine Sim.guard (fun _ => ?_)
    refine au ?_
    first | refine Sim.ite Iff.rfl (fun _ => ?_) (fun _ => Sim.no) | refine Sim.guard (fun _ => ?_)
    refine au ?_
    exact Sim.ret ⟨_, _, rfl, rfl, rfl⟩
  · exact au (.ret ⟨_, rfl, rfl⟩)
noncomputable def show_Round (r0 : GRound) : Option ((List UInt8)) :=
  (strconv_Itoa r0.Number).bind fun r2 =>
  (lines_Word r0.Members).bind fun r3 =>
  (show_line [([114, 111, 117, 110, 100] : List UInt8), r2, r3]).bind fun r4 =>
  (show_Round_0 r0.Lines (List.length r0.Lines : Int) r0 r4 0).bind fun r9 =>
  (show_Round_1 r0.Got (List.length r0.Got : Int) r0 r9 0).bind fun r13 =>
  some r13
theorem show_Round_sim (r0 : GRound) : Sim (show_Round r0) (Gv fun r q => q = (.str r, [])) (LM.call n_show_Round [GRound.av r0] []) := by
  unfold show_Round
  refine sim_evR M XE rfl rfl fun S hS hw hw8 R hR => ?_
  refine au (cE hR (strconv_Itoa_sim _) fun r2 => ?_)
  refine au (cE hR (lines_Word_sim _) fun r3 => ?_)
  refine au ?_
  refine Sim.kl hS (ys := List.map sav [([114, 111, 117, 110, 100] : List UInt8), r2, r3]) rfl ?_
  refine au (cE hR (show_line_sim _) fun r4 => ?_)
  refine au ?_
  refine Sim.ki hS (m := (List.length r0.Lines : Int)) (by simp) ?_
  refine au ?_
  refine Sim.callL hR (show_Round_0_sim r0.Lines (List.length r0.Lines : Int) r0 r4 0 _ rfl) ?_
  rintro r9 q rfl
  refine au ?_
  refine Sim.ki hS (m := (List.length r0.Got : Int)) (by simp) ?_
  refine au ?_
  refine Sim.callL hR (show_Round_1_sim r0.Got (List.length r0.Got : Int) r0 r9 0 _ rfl) ?_
  rintro r13 q rfl
  exact au (.ret ⟨_, rfl, rfl⟩)
def l42_known : Option Bool := some true
theorem l42_known_sim : Sim l42_known (Gv fun r q => q = (.bool r, [])) (LM.call n_l42_known [] []) := Sim.ret ⟨_, (lim_call M XE).2 ⟨400, by kernel_rfl⟩, rfl⟩
noncomputable def r01_Byte (n0 : Int) : Option ((List UInt8)) :=
  some (bytesOf [(w8 n0)])
theorem r01_Byte_sim (n0 : Int) : Sim (r01_Byte n0) (Gv fun r q => q = (.str r, [])) (LM.call n_r01_Byte [iav n0] []) := by
  unfold r01_Byte
  refine sim_evR M XE rfl rfl fun S hS hw hw8 R hR => ?_
  simp only [hw8]
  refine au ?_
  refine Sim.kl hS (ys := List.map u8av [(S.w8 n0)]) rfl ?_
  refine au ?_
  first | (refine Sim.go (bytes_mapM _) ?_) | skip
  exact au (.ret ⟨_, rfl, rfl⟩)
noncomputable def r42_number_body (rec_r42_number : Int → Option ((List UInt8))) (n0 : Int) : Option ((List UInt8)) :=
  if (-10) < n0 then
    if n0 < 0 then
      (r01_Byte (wr (48 - n0))).bind fun r0 =>
      if List.length ([45] : List UInt8) + List.length r0 ≤ 9223372036854775807 then
        some (([45] : List UInt8) ++ r0)
      else none
    else
      if 0 ≤ n0 then
        if n0 < 10 then
          (r01_Byte (wr (48 + n0))).bind fun r2 =>
          some r2
        else
          if (Int.tmod n0 10) < 0 then
            (rec_r42_number (wr (Int.tdiv n0 10))).bind fun r3 =>
            (r01_Byte (wr (48 + (IntKind.wrap .i64 (0 - (Int.tmod n0 10)))))).bind fun r4 =>
            if List.length r3 + List.length r4 ≤ 9223372036854775807 then
              some (r3 ++ r4)
            else none
          else
            (rec_r42_number (wr (Int.tdiv n0 10))).bind fun r5 =>
            (r01_Byte (wr (48 + (Int.tmod n0 10)))).bind fun r6 =>
            if List.length r5 + List.length r6 ≤ 9223372036854775807 then
              some (r5 ++ r6)
            else none
      else
        if (Int.tmod n0 10) < 0 then
          (rec_r42_number (wr (Int.tdiv n0 10))).bind fun r7 =>
          (r01_Byte (wr (48 + (IntKind.wrap .i64 (0 - (Int.tmod n0 10)))))).bind fun r8 =>
          if List.length r7 + List.length r8 ≤ 9223372036854775807 then
            some (r7 ++ r8)
          else none
        else
          (rec_r42_number (wr (Int.tdiv n0 10))).bind fun r9 =>
          (r01_Byte (wr (48 + (Int.tmod n0 10)))).bind fun r10 =>
          if List.length r9 + List.length r10 ≤ 9223372036854775807 then
            some (r9 ++ r10)
          else none
  else
    if 0 ≤ n0 then
      if n0 < 10 then
        (r01_Byte (wr (48 + n0))).bind fun r11 =>
        some r11
      else
        if (Int.tmod n0 10) < 0 then
          (rec_r42_number (wr (Int.tdiv n0 10))).bind fun r12 =>
          (r01_Byte (wr (48 + (IntKind.wrap .i64 (0 - (Int.tmod n0 10)))))).bind fun r13 =>
          if List.length r12 + List.length r13 ≤ 9223372036854775807 then
            some (r12 ++ r13)
          else none
        else
          (rec_r42_number (wr (Int.tdiv n0 10))).bind fun r14 =>
          (r01_Byte (wr (48 + (Int.tmod n0 10)))).bind fun r15 =>
          if List.length r14 + List.length r15 ≤ 9223372036854775807 then
            some (r14 ++ r15)
          else none
    else
      if (Int.tmod n0 10) < 0 then
        (rec_r42_number (wr (Int.tdiv n0 10))).bind fun r16 =>
        (r01_Byte (wr (48 + (IntKind.wrap .i64 (0 - (Int.tmod n0 10)))))).bind fun r17 =>
        if List.length r16 + List.length r17 ≤ 9223372036854775807 then
          some (r16 ++ r17)
        else none
      else
        (rec_r42_number (wr (Int.tdiv n0 10))).bind fun r18 =>
        (r01_Byte (wr (48 + (Int.tmod n0 10)))).bind fun r19 =>
        if List.length r18 + List.length r19 ≤ 9223372036854775807 then
          some (r18 ++ r19)
        else none
noncomputable def r42_number (n0 : Int) : Option ((List UInt8)) := iterO (fun r (p : Int) => r42_number_body (fun n0 => r n0) p) recN n0
theorem r42_number_sim (n0 : Int) : Sim (r42_number n0) (Gv fun r q => q = (.str r, [])) (LM.call n_r42_number [iav n0] []) := by
  have key : ∀ (f : Int → Option ((List UInt8))), (∀ (n0 : Int), Sim (f n0) (Gv fun r q => q = (.str r, [])) (LM.call n_r42_number [iav n0] [])) → ∀ (n0 : Int), Sim (r42_number_body f n0) (Gv fun r q => q = (.str r, [])) (LM.call n_r42_number [iav n0] []) := by
    intro rec_r42_number rec_r42_number_sim n0
    unfold r42_number_body
    refine sim_evR M XE rfl rfl fun S hS hw hw8 R hR => ?_
    simp only [hw]
    refine au (.ite Iff.rfl (fun hc => ?_) fun hc => ?_)
    · refine au (.ite Iff.rfl (fun hc2 => ?_) fun hc2 => ?_)
      · refine au (cE hR (r01_Byte_sim _) fun r0 => ?_)
        refine au ?_
        first | refine Sim.ite Iff.rfl (fun _ => ?_) (fun _ => Sim.no) | refine Sim.guard (fun _ => ?_)
        exact au (.ret ⟨_, rfl, rfl⟩)
      · refine au (.ite Iff.rfl (fun hc3 => ?_) fun hc3 => ?_)
        · refine au (.ite Iff.rfl (fun hc4 => ?_) fun hc4 => ?_)
          · refine au (cE hR (r01_Byte_sim _) fun r2 => ?_)
            exact au (.ret ⟨_, rfl, rfl⟩)
          · refine au (.ite Iff.rfl (fun hc5 => ?_) fun hc5 => ?_)
            · refine au (cE hR (rec_r42_number_sim _) fun r3 => ?_)
              refine au (cE hR (r01_Byte_sim _) fun r4 => ?_)
              refine au ?_
              first | refine Sim.ite Iff.rfl (fun _ => ?_) (fun _ => Sim.no) | refine Sim.guard (fun _ => ?_)
              exact au (.ret ⟨_, rfl, rfl⟩)
            · refine au (cE hR (rec_r42_number_sim _) fun r5 => ?_)
              refine au (cE hR (r01_Byte_sim _) fun r6 => ?_)
              refine au ?_
              first | refine Sim.ite Iff.rfl (fun _ => ?_) (fun _ => Sim.no) | refine Sim.guard (fun _ => ?_)
              exact au (.ret ⟨_, rfl, rfl⟩)
        · refine au (.ite Iff.rfl (fun hc6 => ?_) fun hc6 => ?_)
          · refine au (cE hR (rec_r42_number_sim _) fun r7 => ?_)
            refine au (cE hR (r01_Byte_sim _) fun r8 => ?_)
            refine au ?_
            first | refine Sim.ite Iff.rfl (fun _ => ?_) (fun _ => Sim.no) | refine Sim.guard (fun _ => ?_)
            exact au (.ret ⟨_, rfl, rfl⟩)
          · refine au (cE hR (rec_r42_number_sim _) fun r9 => ?_)
            refine au (cE hR (r01_Byte_sim _) fun r10 => ?_)
            refine au ?_
            first | refine Sim.ite Iff.rfl (fun _ => ?_) (fun _ => Sim.no) | refine Sim.guard (fun _ => ?_)
            exact au (.ret ⟨_, rfl, rfl⟩)
    · refine au (.ite Iff.rfl (fun hc7 => ?_) fun hc7 => ?_)
      · refine au (.ite Iff.rfl (fun hc8 => ?_) fun hc8 => ?_)
        · refine au (cE hR (r01_Byte_sim _) fun r11 => ?_)
          exact au (.ret ⟨_, rfl, rfl⟩)
        · refine au (.ite Iff.rfl (fun hc9 => ?_) fun hc9 => ?_)
          · refine au (cE hR (rec_r42_number_sim _) fun r12 => ?_)
            refine au (cE hR (r01_Byte_sim _) fun r13 => ?_)
            refine au ?_
            first | refine Sim.ite Iff.rfl (fun _ => ?_) (fun _ => Sim.no) | refine Sim.guard (fun _ => ?_)
            exact au (.ret ⟨_, rfl, rfl⟩)
          · refine au (cE hR (rec_r42_number_sim _) fun r14 => ?_)
            refine au (cE hR (r01_Byte_sim _) fun r15 => ?_)
            refine au ?_
            first | refine Sim.ite Iff.rfl (fun _ => ?_) (fun _ => Sim.no) | refine Sim.guard (fun _ => ?_)
            exact au (.ret ⟨_, rfl, rfl⟩)
      · refine au (.ite Iff.rfl (fun hc10 => ?_) fun hc10 => ?_)
        · refine au (cE hR (rec_r42_number_sim _) fun r16 => ?_)
          refine au (cE hR (r01_Byte_sim _) fun r17 => ?_)
          refine au ?_
          first | refine Sim.ite Iff.rfl (fun _ => ?_) (fun _ => Sim.no) | refine Sim.guard (fun _ => ?_)
          exact au (.ret ⟨_, rfl, rfl⟩)
        · refine au (cE hR (rec_r42_number_sim _) fun r18 => ?_)
          refine au (cE hR (r01_Byte_sim _) fun r19 => ?_)
          refine au ?_
          first | refine Sim.ite Iff.rfl (fun _ => ?_) (fun _ => Sim.no) | refine Sim.guard (fun _ => ?_)
          exact au (.ret ⟨_, rfl, rfl⟩)
  unfold r42_number
  exact iterO_sim (A := fun p => LM.call n_r42_number ((fun n0 => [iav n0]) p) []) (G := Gv fun r q => q = (.str r, [])) (fun f hf p => key _ (fun n0 => hf n0) p) recN n0
noncomputable def r42_Name (e0 : Int) : Option ((List UInt8)) :=
  if 0 ≤ e0 then
    if e0 < (List.length [([111, 107] : List UInt8), ([110, 105, 108] : List UInt8), ([97, 114, 103] : List UInt8), ([102, 111, 114, 109] : List UInt8), ([115, 117, 109] : List UInt8), ([115, 104, 111, 114, 116] : List UInt8), ([108, 111, 110, 103] : List UInt8), ([110, 111, 100, 101] : List UInt8), ([99, 111, 110, 102] : List UInt8), ([102, 117, 108, 108] : List UInt8), ([108, 97, 116, 101] : List UInt8), ([115, 108, 111, 116] : List UInt8), ([111, 119, 110, 101, 114] : List UInt8), ([116, 119, 105, 99, 101] : List UInt8), ([109, 117, 116, 101] : List UInt8), ([116, 101, 120, 116] : List UInt8), ([119, 111, 114, 100] : List UInt8), ([114, 97, 116, 101] : List UInt8)] : Int) then
      (idx? [([111, 107] : List UInt8), ([110, 105, 108] : List UInt8), ([97, 114, 103] : List UInt8), ([102, 111, 114, 109] : List UInt8), ([115, 117, 109] : List UInt8), ([115, 104, 111, 114, 116] : List UInt8), ([108, 111, 110, 103] : List UInt8), ([110, 111, 100, 101] : List UInt8), ([99, 111, 110, 102] : List UInt8), ([102, 117, 108, 108] : List UInt8), ([108, 97, 116, 101] : List UInt8), ([115, 108, 111, 116] : List UInt8), ([111, 119, 110, 101, 114] : List UInt8), ([116, 119, 105, 99, 101] : List UInt8), ([109, 117, 116, 101] : List UInt8), ([116, 101, 120, 116] : List UInt8), ([119, 111, 114, 100] : List UInt8), ([114, 97, 116, 101] : List UInt8)] e0).bind fun z0 =>
      some z0
    else
      (r42_number e0).bind fun r0 =>
      if List.length ([101, 114, 114, 111, 114, 32] : List UInt8) + List.length r0 ≤ 9223372036854775807 then
        some (([101, 114, 114, 111, 114, 32] : List UInt8) ++ r0)
      else none
  else
    (r42_number e0).bind fun r2 =>
    if List.length ([101, 114, 114, 111, 114, 32] : List UInt8) + List.length r2 ≤ 9223372036854775807 then
      some (([101, 114, 114, 111, 114, 32] : List UInt8) ++ r2)
    else none
theorem r42_Name_sim (e0 : Int) : Sim (r42_Name e0) (Gv fun r q => q = (.str r, [])) (LM.call n_r42_Name [iav e0] []) := by
  unfold r42_Name
  refine sim_evR M XE rfl rfl fun S hS hw hw8 R hR => ?_
  refine au ?_
  refine Sim.kl hS (ys := List.map sav [([111, 107] : List UInt8), ([110, 105, 108] : List UInt8), ([97, 114, 103] : List UInt8), ([102, 111, 114, 109] : List UInt8), ([115, 117, 109] : List UInt8), ([115, 104, 111, 114, 116] : List UInt8), ([108, 111, 110, 103] : List UInt8), ([110, 111, 100, 101] : List UInt8), ([99, 111, 110, 102] : List UInt8), ([102, 117, 108, 108] : List UInt8), ([108, 97, 116, 101] : List UInt8), ([115, 108, 111, 116] : List UInt8), ([111, 119, 110, 101, 114] : List UInt8), ([116, 119, 105, 99, 101] : List UInt8), ([109, 117, 116, 101] : List UInt8), ([116, 101, 120, 116] : List UInt8), ([119, 111, 114, 100] : List UInt8), ([114, 97, 116, 101] : List UInt8)]) rfl ?_
  refine au (.ite Iff.rfl (fun hc => ?_) fun hc => ?_)
  · refine au ?_
    refine Sim.ki hS (m := (List.length [([111, 107] : List UInt8), ([110, 105, 108] : List UInt8), ([97, 114, 103] : List UInt8), ([102, 111, 114, 109] : List UInt8), ([115, 117, 109] : List UInt8), ([115, 104, 111, 114, 116] : List UInt8), ([108, 111, 110, 103] : List UInt8), ([110, 111, 100, 101] : List UInt8), ([99, 111, 110, 102] : List UInt8), ([102, 117, 108, 108] : List UInt8), ([108, 97, 116, 101] : List UInt8), ([115, 108, 111, 116] : List UInt8), ([111, 119, 110, 101, 114] : List UInt8), ([116, 119, 105, 99, 101] : List UInt8), ([109, 117, 116, 101] : List UInt8), ([116, 101, 120, 116] : List UInt8), ([119, 111, 114, 100] : List UInt8), ([114, 97, 116, 101] : List UInt8)] : Int)) (by simp) ?_
    refine au (.ite Iff.rfl (fun hc2 => ?_) fun hc2 => ?_)
    · refine au ?_
      refine Sim.ix (by simp) (fun z0 hz0 => ?_)
      refine au ?_
      refine Sim.go (idx_map _ hz0) ?_
      exact au (.ret ⟨_, rfl, rfl⟩)
    · refine au (cE hR (r42_number_sim _) fun r0 => ?_)
      refine au ?_
      first | refine Sim.ite Iff.rfl (fun _ => ?_) (fun _ => Sim.no) | refine Sim.guard (fun _ => ?_)
      exact au (.ret ⟨_, rfl, rfl⟩)
  · refine au (cE hR (r42_number_sim _) fun r2 => ?_)
    refine au ?_
    first | refine Sim.ite Iff.rfl (fun _ => ?_) (fun _ => Sim.no) | refine Sim.guard (fun _ => ?_)
    exact au (.ret ⟨_, rfl, rfl⟩)
noncomputable def r42_flag (b0 : Bool) : Option ((List UInt8)) :=
  if b0 = true then
    some ([121, 101, 115] : List UInt8)
  else
    some ([110, 111] : List UInt8)
theorem r42_flag_sim (b0 : Bool) : Sim (r42_flag b0) (Gv fun r q => q = (.str r, [])) (LM.call n_r42_flag [.bool b0] []) := by
  unfold r42_flag
  refine sim_evR M XE rfl rfl fun S hS hw hw8 R hR => ?_
  refine au (.iteB (fun hc => ?_) fun hc => ?_)
  · exact au (.ret ⟨_, rfl, rfl⟩)
  · exact au (.ret ⟨_, rfl, rfl⟩)
noncomputable def r40_hex_0_step (s2 : List UInt8) (all : List UInt8) (out : List Int) (i0 : Int) : Option (((List Int) × Int) ⊕ ((List Int))) :=
  if i0 < (List.length s2 : Int) then
    (idx? s2 i0).bind fun b0 =>
    (idx? all (IntKind.wrap .u8 (Int.tdiv (UInt8.toNat b0 : Int) 16))).bind fun b2 =>
    (idx? s2 i0).bind fun b3 =>
    (idx? all (Int.tmod (UInt8.toNat b3 : Int) 16)).bind fun b4 =>
    if List.length out + List.length [(UInt8.toNat b2 : Int), (UInt8.toNat b4 : Int)] ≤ lenMax then
      some (.inl ((out ++ [(UInt8.toNat b2 : Int), (UInt8.toNat b4 : Int)]), (wr (i0 + 1))))
    else none
  else
    some (.inr out)
noncomputable def r40_hex_0 (s2 : List UInt8) (all : List UInt8) (out : List Int) (i0 : Int) : Option ((List Int)) :=
  loopO (fun s : (List Int) × Int => r40_hex_0_step s2 all s.1 s.2) (out, i0)
@[reducible] def r40_hex_0_st (s2 : List UInt8) (all : List UInt8) (out : List Int) (i0 : Int) (g0 : Gr) : PF.St := ⟨[(0, .str s2), (3, .str all), (4, .lst g0 (List.map u8av out)), (5, iav i0)], []⟩
def r40_hex_0_rel (s2 : List UInt8) (all : List UInt8) (r : ((List Int))) (q : Ex × PF.St) : Prop := (fun r (q : Ex × PF.St) => ∃ g0', q = ((.exit 0), ⟨[(4, .lst g0' (List.map u8av r))], []⟩) ∧ Mg 1 g0') r q
def r40_hex_0_inv (s2 : List UInt8) (all : List UInt8) (v : (List Int) × Int) (e : PF.St) : Prop := ∃ g0, e = r40_hex_0_st s2 all v.1 v.2 g0 ∧ Mg 1 g0
theorem r40_hex_0_sim (s2 : List UInt8) (all : List UInt8) (out : List Int) (i0 : Int) (g0 : Gr) (hg0 : Mg 1 g0) (s : PF.St) (hk : keep [0, 3, 4, 5] [] s = some (r40_hex_0_st s2 all out i0 g0)) : Sim (r40_hex_0 s2 all out i0) (Gv (r40_hex_0_rel s2 all)) (LM.loop ([0, 3, 4, 5], [], [4], B_r40_hex_0) s) := by
  refine sim_loop M XE (r40_hex_0_inv s2 all) (r40_hex_0_rel s2 all) ?_ _ _ _ hk ⟨g0, rfl, hg0⟩
  clear hk hg0
  rintro S hS hw hw8 R hR ⟨out, i0⟩ env hp ⟨g0, he, hg0⟩
  change (⟨env, hp⟩ : PF.St) = r40_hex_0_st s2 all out i0 g0 at he
  cases he
  show Sim (r40_hex_0_step s2 all out i0) _ _
  unfold r40_hex_0_step
  simp only [hw]
  refine au (.ite Iff.rfl (fun hc2 => ?_) fun hc2 => ?_)
  · refine au ?_
    refine Sim.ix rfl (fun b0 hb0 => ?_)
    refine au ?_
    refine Sim.go hb0 ?_
    refine au ?_
    refine Sim.ix rfl (fun b2 hb2 => ?_)
    refine au ?_
    refine Sim.go hb2 ?_
    refine au ?_
    refine Sim.ix rfl (fun b3 hb3 => ?_)
    refine au ?_
    refine Sim.go hb3 ?_
    refine au ?_
    refine Sim.ix rfl (fun b4 hb4 => ?_)
    refine au ?_
    refine Sim.go hb4 ?_
    refine au ?_
    refine Sim.kl hS (ys := List.map u8av [(UInt8.toNat b2 : Int), (UInt8.toNat b4 : Int)]) rfl ?_
    refine au ?_
    first | (refine Sim.goB (may_map (by intro _; rfl) hg0 _) ?_) | skip
    refine au ?_
    first | (refine Sim.goB (okE_map (by intro _; exact ⟨rfl, rfl, rfl⟩) _) ?_) | skip
    refine au ?_
    first | refine Sim.ite (by simp) (fun _ => ?_) (fun _ => Sim.no) | refine Sim.guard (fun _ => ?_)
    refine au ?_
    refine Sim.kl hS (ys := List.map u8av (out ++ [(UInt8.toNat b2 : Int), (UInt8.toNat b4 : Int)])) (by simp) ?_
    refine au ?_
    exact Sim.ret ⟨_, _, rfl, rfl, ⟨_, rfl, Mg.own⟩⟩
  · refine au ?_
    exact Sim.ret ⟨_, rfl, ⟨_, rfl, hg0⟩⟩
noncomputable def r40_hex (s0 : List UInt8) : Option ((List UInt8)) :=
  if s0 = ([] : List UInt8) then
    some ([45] : List UInt8)
  else
    if 0 ≤ (wr (2 * (List.length s0 : Int))) ∧ (wr (2 * (List.length s0 : Int))) ≤ lenMax then
      (r40_hex_0 s0 ([48, 49, 50, 51, 52, 53, 54, 55, 56, 57, 97, 98, 99, 100, 101, 102] : List UInt8) ([] : List Int) 0).bind fun r0 =>
      some (bytesOf r0)
    else none
theorem r40_hex_sim (s0 : List UInt8) : Sim (r40_hex s0) (Gv fun r q => q = (.str r, [])) (LM.call n_r40_hex [.str s0] []) := by
  unfold r40_hex
  refine sim_evR M XE rfl rfl fun S hS hw hw8 R hR => ?_
  simp only [hw]
  refine au (.ite Iff.rfl (fun hc => ?_) fun hc => ?_)
  · exact au (.ret ⟨_, rfl, rfl⟩)
  · refine au ?_
    first | refine Sim.ite Iff.rfl (fun _ => ?_) (fun _ => Sim.no) | refine Sim.guard (fun _ => ?_)
    refine au ?_
    refine Sim.callL hR (r40_hex_0_sim s0 ([48, 49, 50, 51, 52, 53, 54, 55, 56, 57, 97, 98, 99, 100, 101, 102] : List UInt8) ([] : List Int) 0 (.own 1) Mg.own _ rfl) ?_
    rintro r0 q ⟨g2, rfl, hg2⟩
    refine au ?_
    refine Sim.go (bytes_mapM _) ?_
    exact au (.ret ⟨_, rfl, rfl⟩)
noncomputable def r40_Word (s0 : List UInt8) : Option ((List UInt8)) :=
  (r40_hex s0).bind fun r0 =>
  some r0
theorem r40_Word_sim (s0 : List UInt8) : Sim (r40_Word s0) (Gv fun r q => q = (.str r, [])) (LM.call n_r40_Word [.str s0] []) := by
  unfold r40_Word
  refine sim_evR M XE rfl rfl fun S hS hw hw8 R hR => ?_
  refine au (cE hR (r40_hex_sim _) fun r0 => ?_)
  exact au (.ret ⟨_, rfl, rfl⟩)
noncomputable def r42_got_0_step (l2 : List GDeliver) (s0 : List UInt8) (i0 : Int) : Option (((List UInt8) × Int) ⊕ ((List UInt8))) :=
  if i0 < (List.length l2 : Int) then
    if List.length s0 + List.length ([32] : List UInt8) ≤ 9223372036854775807 then
      (idx? l2 i0).bind fun z0 =>
      (r42_number z0.From).bind fun r0 =>
      if List.length (s0 ++ ([32] : List UInt8)) + List.length r0 ≤ 9223372036854775807 then
        if List.length ((s0 ++ ([32] : List UInt8)) ++ r0) + List.length ([58] : List UInt8) ≤ 9223372036854775807 then
          (idx? l2 i0).bind fun z2 =>
          (r42_number z2.Slot).bind fun r2 =>
          if List.length (((s0 ++ ([32] : List UInt8)) ++ r0) ++ ([58] : List UInt8)) + List.length r2 ≤ 9223372036854775807 then
            if List.length ((((s0 ++ ([32] : List UInt8)) ++ r0) ++ ([58] : List UInt8)) ++ r2) + List.length ([58] : List UInt8) ≤ 9223372036854775807 then
              (idx? l2 i0).bind fun z3 =>
              (r42_number z3.Cycle).bind fun r3 =>
              if List.length (((((s0 ++ ([32] : List UInt8)) ++ r0) ++ ([58] : List UInt8)) ++ r2) ++ ([58] : List UInt8)) + List.length r3 ≤ 9223372036854775807 then
                if List.length ((((((s0 ++ ([32] : List UInt8)) ++ r0) ++ ([58] : List UInt8)) ++ r2) ++ ([58] : List UInt8)) ++ r3) + List.length ([58] : List UInt8) ≤ 9223372036854775807 then
                  (idx? l2 i0).bind fun z4 =>
                  (r40_Word z4.Text).bind fun r4 =>
                  if List.length (((((((s0 ++ ([32] : List UInt8)) ++ r0) ++ ([58] : List UInt8)) ++ r2) ++ ([58] : List UInt8)) ++ r3) ++ ([58] : List UInt8)) + List.length r4 ≤ 9223372036854775807 then
                    some (.inl (((((((((s0 ++ ([32] : List UInt8)) ++ r0) ++ ([58] : List UInt8)) ++ r2) ++ ([58] : List UInt8)) ++ r3) ++ ([58] : List UInt8)) ++ r4), (wr (i0 + 1))))
                  else none
                else none
              else none
            else none
          else none
        else none
      else none
    else none
  else
    some (.inr s0)
noncomputable def r42_got_0 (l2 : List GDeliver) (s0 : List UInt8) (i0 : Int) : Option ((List UInt8)) :=
  loopO (fun s : (List UInt8) × Int => r42_got_0_step l2 s.1 s.2) (s0, i0)
@[reducible] def r42_got_0_st (l2 : List GDeliver) (s0 : List UInt8) (i0 : Int) : PF.St := ⟨[(0, lav GDeliver.av l2), (3, .str s0), (4, iav i0)], []⟩
def r42_got_0_rel (l2 : List GDeliver) (r : ((List UInt8))) (q : Ex × PF.St) : Prop := (fun r (q : Ex × PF.St) => q = ((.exit 0), ⟨[(3, .str r)], []⟩)) r q
def r42_got_0_inv (l2 : List GDeliver) (v : (List UInt8) × Int) (e : PF.St) : Prop := e = r42_got_0_st l2 v.1 v.2
theorem r42_got_0_sim (l2 : List GDeliver) (s0 : List UInt8) (i0 : Int) (s : PF.St) (hk : keep [0, 3, 4] [] s = some (r42_got_0_st l2 s0 i0)) : Sim (r42_got_0 l2 s0 i0) (Gv (r42_got_0_rel l2)) (LM.loop ([0, 3, 4], [], [3], B_r42_got_0) s) := by
  refine sim_loop M XE (r42_got_0_inv l2) (r42_got_0_rel l2) ?_ _ _ _ hk rfl
  clear hk
  rintro S hS hw hw8 R hR ⟨s0, i0⟩ env hp he
  change (⟨env, hp⟩ : PF.St) = r42_got_0_st l2 s0 i0 at he
  cases he
  show Sim (r42_got_0_step l2 s0 i0) _ _
  unfold r42_got_0_step
  simp only [hw]
  refine au ?_
  refine Sim.ki hS (m := (List.length l2 : Int)) (by simp) ?_
  refine au (.ite Iff.rfl (fun hc => ?_) fun hc => ?_)
  · refine au ?_
    first | refine Sim.ite Iff.rfl (fun _ => ?_) (fun _ => Sim.no) | refine Sim.guard (fun _ => ?_)
    refine au ?_
    refine Sim.ix (by simp) (fun z0 hz0 => ?_)
    refine au ?_
    refine Sim.go (idx_map _ hz0) ?_
    refine au (cE hR (r42_number_sim _) fun r0 => ?_)
    refine au ?_
    first | refine Sim.ite Iff.rfl (fun _ => ?_) (fun _ => Sim.no) | refine Sim.guard (fun _ => ?_)
    refine au ?_
    first | refine Sim.ite Iff.rfl (fun _ => ?_) (fun _ => Sim.no) | refine Sim.guard (fun _ => ?_)
    refine au ?_
    refine Sim.ix (by simp) (fun z2 hz2 => ?_)
    refine au ?_
    refine Sim.go (idx_map _ hz2) ?_
    refine au (cE hR (r42_number_sim _) fun r2 => ?_)
    refine au ?_
    first | refine Sim.ite Iff.rfl (fun _ => ?_) (fun _ => Sim.no) | refine Sim.guard (fun _ => ?_)
    refine au ?_
    first | refine Sim.ite Iff.rfl (fun _ => ?_) (fun _ => Sim.no) | refine Sim.guard (fun _ => ?_)
    refine au ?_
    refine Sim.ix (by simp) (fun z3 hz3 => ?_)
    refine au ?_
    refine Sim.go (idx_map _ hz3) ?_
    refine au (cE hR (r42_number_sim _) fun r3 => ?_)
    refine au ?_
    first | refine Sim.ite Iff.rfl (fun _ => ?_) (fun _ => Sim.no) | refine Sim.guard (fun _ => ?_)
    refine au ?_
    first | refine Sim.ite Iff.rfl (fun _ => ?_) (fun _ => Sim.no) | refine Sim.guard (fun _ => ?_)
    refine au ?_
    refine Sim.ix (by simp) (fun z4 hz4 => ?_)
    refine au ?_
    refine Sim.go (idx_map _ hz4) ?_
    refine au (cE hR (r40_Word_sim _) fun r4 => ?_)
    refine au ?_
    first | refine Sim.ite Iff.rfl (fun _ => ?_) (fun _ => Sim.no) | refine Sim.guard (fun _ => ?_)
    refine au ?_
    exact Sim.ret ⟨_, _, rfl, rfl, rfl⟩
  · exact au (.ret ⟨_, rfl, rfl⟩)
noncomputable def r42_got (l0 : List GDeliver) : Option ((List UInt8)) :=
  (r42_got_0 l0 ([] : List UInt8) 0).bind fun r5 =>
  some r5
theorem r42_got_sim (l0 : List GDeliver) : Sim (r42_got l0) (Gv fun r q => q = (.str r, [])) (LM.call n_r42_got [lav GDeliver.av l0] []) := by
  unfold r42_got
  refine sim_evR M XE rfl rfl fun S hS hw hw8 R hR => ?_
  refine au ?_
  refine Sim.callL hR (r42_got_0_sim l0 ([] : List UInt8) 0 _ rfl) ?_
  rintro r5 q rfl
  exact au (.ret ⟨_, rfl, rfl⟩)
noncomputable def r42_Report (r0 : GReport) : Option ((List UInt8)) :=
  (r42_flag r0.Pulse).bind fun r2 =>
  if List.length ([112, 117, 108, 115, 101, 32] : List UInt8) + List.length r2 ≤ 9223372036854775807 then
    if List.length (([112, 117, 108, 115, 101, 32] : List UInt8) ++ r2) + List.length ([32, 115, 121, 110, 99, 32] : List UInt8) ≤ 9223372036854775807 then
      (r42_flag r0.Sync).bind fun r3 =>
      if List.length ((([112, 117, 108, 115, 101, 32] : List UInt8) ++ r2) ++ ([32, 115, 121, 110, 99, 32] : List UInt8)) + List.length r3 ≤ 9223372036854775807 then
        if List.length (((([112, 117, 108, 115, 101, 32] : List UInt8) ++ r2) ++ ([32, 115, 121, 110, 99, 32] : List UInt8)) ++ r3) + List.length ([32, 110, 117, 109, 98, 101, 114, 32] : List UInt8) ≤ 9223372036854775807 then
          (r42_number r0.Number).bind fun r4 =>
          if List.length ((((([112, 117, 108, 115, 101, 32] : List UInt8) ++ r2) ++ ([32, 115, 121, 110, 99, 32] : List UInt8)) ++ r3) ++ ([32, 110, 117, 109, 98, 101, 114, 32] : List UInt8)) + List.length r4 ≤ 9223372036854775807 then
            if List.length (((((([112, 117, 108, 115, 101, 32] : List UInt8) ++ r2) ++ ([32, 115, 121, 110, 99, 32] : List UInt8)) ++ r3) ++ ([32, 110, 117, 109, 98, 101, 114, 32] : List UInt8)) ++ r4) + List.length ([32, 115, 108, 111, 116, 32] : List UInt8) ≤ 9223372036854775807 then
              (r42_number r0.Slot).bind fun r5 =>
              if List.length ((((((([112, 117, 108, 115, 101, 32] : List UInt8) ++ r2) ++ ([32, 115, 121, 110, 99, 32] : List UInt8)) ++ r3) ++ ([32, 110, 117, 109, 98, 101, 114, 32] : List UInt8)) ++ r4) ++ ([32, 115, 108, 111, 116, 32] : List UInt8)) + List.length r5 ≤ 9223372036854775807 then
                if List.length (((((((([112, 117, 108, 115, 101, 32] : List UInt8) ++ r2) ++ ([32, 115, 121, 110, 99, 32] : List UInt8)) ++ r3) ++ ([32, 110, 117, 109, 98, 101, 114, 32] : List UInt8)) ++ r4) ++ ([32, 115, 108, 111, 116, 32] : List UInt8)) ++ r5) + List.length ([32, 109, 101, 109, 98, 101, 114, 115, 32] : List UInt8) ≤ 9223372036854775807 then
                  (r40_Word r0.Members).bind fun r6 =>
                  if List.length ((((((((([112, 117, 108, 115, 101, 32] : List UInt8) ++ r2) ++ ([32, 115, 121, 110, 99, 32] : List UInt8)) ++ r3) ++ ([32, 110, 117, 109, 98, 101, 114, 32] : List UInt8)) ++ r4) ++ ([32, 115, 108, 111, 116, 32] : List UInt8)) ++ r5) ++ ([32, 109, 101, 109, 98, 101, 114, 115, 32] : List UInt8)) + List.length r6 ≤ 9223372036854775807 then
                    if List.length (((((((((([112, 117, 108, 115, 101, 32] : List UInt8) ++ r2) ++ ([32, 115, 121, 110, 99, 32] : List UInt8)) ++ r3) ++ ([32, 110, 117, 109, 98, 101, 114, 32] : List UInt8)) ++ r4) ++ ([32, 115, 108, 111, 116, 32] : List UInt8)) ++ r5) ++ ([32, 109, 101, 109, 98, 101, 114, 115, 32] : List UInt8)) ++ r6) + List.length ([32, 115, 101, 110, 116, 32] : List UInt8) ≤ 9223372036854775807 then
                      (r42_number r0.Sent).bind fun r7 =>
                      if List.length ((((((((((([112, 117, 108, 115, 101, 32] : List UInt8) ++ r2) ++ ([32, 115, 121, 110, 99, 32] : List UInt8)) ++ r3) ++ ([32, 110, 117, 109, 98, 101, 114, 32] : List UInt8)) ++ r4) ++ ([32, 115, 108, 111, 116, 32] : List UInt8)) ++ r5) ++ ([32, 109, 101, 109, 98, 101, 114, 115, 32] : List UInt8)) ++ r6) ++ ([32, 115, 101, 110, 116, 32] : List UInt8)) + List.length r7 ≤ 9223372036854775807 then
                        (r42_got r0.Got).bind fun r8 =>
                        if List.length (((((((((((([112, 117, 108, 115, 101, 32] : List UInt8) ++ r2) ++ ([32, 115, 121, 110, 99, 32] : List UInt8)) ++ r3) ++ ([32, 110, 117, 109, 98, 101, 114, 32] : List UInt8)) ++ r4) ++ ([32, 115, 108, 111, 116, 32] : List UInt8)) ++ r5) ++ ([32, 109, 101, 109, 98, 101, 114, 115, 32] : List UInt8)) ++ r6) ++ ([32, 115, 101, 110, 116, 32] : List UInt8)) ++ r7) + List.length r8 ≤ 9223372036854775807 then
                          some ((((((((((((([112, 117, 108, 115, 101, 32] : List UInt8) ++ r2) ++ ([32, 115, 121, 110, 99, 32] : List UInt8)) ++ r3) ++ ([32, 110, 117, 109, 98, 101, 114, 32] : List UInt8)) ++ r4) ++ ([32, 115, 108, 111, 116, 32] : List UInt8)) ++ r5) ++ ([32, 109, 101, 109, 98, 101, 114, 115, 32] : List UInt8)) ++ r6) ++ ([32, 115, 101, 110, 116, 32] : List UInt8)) ++ r7) ++ r8)
                        else none
                      else none
                    else none
                  else none
                else none
              else none
            else none
          else none
        else none
      else none
    else none
  else none
theorem r42_Report_sim (r0 : GReport) : Sim (r42_Report r0) (Gv fun r q => q = (.str r, [])) (LM.call n_r42_Report [GReport.av r0] []) := by
  unfold r42_Report
  refine sim_evR M XE rfl rfl fun S hS hw hw8 R hR => ?_
  refine au (cE hR (r42_flag_sim _) fun r2 => ?_)
  refine au ?_
  first | refine Sim.ite Iff.rfl (fun _ => ?_) (fun _ => Sim.no) | refine Sim.guard (fun _ => ?_)
  refine au ?_
  first | refine Sim.ite Iff.rfl (fun _ => ?_) (fun _ => Sim.no) | refine Sim.guard (fun _ => ?_)
  refine au (cE hR (r42_flag_sim _) fun r3 => ?_)
  refine au ?_
  first | refine Sim.ite Iff.rfl (fun _ => ?_) (fun _ => Sim.no) | refine Sim.guard (fun _ => ?_)
  refine au ?_
  first | refine Sim.ite Iff.rfl (fun _ => ?_) (fun _ => Sim.no) | refine Sim.guard (fun _ => ?_)
  refine au (cE hR (r42_number_sim _) fun r4 => ?_)
  refine au ?_
  first | refine Sim.ite Iff.rfl (fun _ => ?_) (fun _ => Sim.no) | refine Sim.guard (fun _ => ?_)
  refine au ?_
  first | refine Sim.ite Iff.rfl (fun _ => ?_) (fun _ => Sim.no) | refine Sim.guard (fun _ => ?_)
  refine au (cE hR (r42_number_sim _) fun r5 => ?_)
  refine au ?_
  first | refine Sim.ite Iff.rfl (fun _ => ?_) (fun _ => Sim.no) | refine Sim.guard (fun _ => ?_)
  refine au ?_
  first | refine Sim.ite Iff.rfl (fun _ => ?_) (fun _ => Sim.no) | refine Sim.guard (fun _ => ?_)
  refine au (cE hR (r40_Word_sim _) fun r6 => ?_)
  refine au ?_
  first | refine Sim.ite Iff.rfl (fun _ => ?_) (fun _ => Sim.no) | refine Sim.guard (fun _ => ?_)
  refine au ?_
  first | refine Sim.ite Iff.rfl (fun _ => ?_) (fun _ => Sim.no) | refine Sim.guard (fun _ => ?_)
  refine au (cE hR (r42_number_sim _) fun r7 => ?_)
  refine au ?_
  first | refine Sim.ite Iff.rfl (fun _ => ?_) (fun _ => Sim.no) | refine Sim.guard (fun _ => ?_)
  refine au (cE hR (r42_got_sim _) fun r8 => ?_)
  refine au ?_
  first | refine Sim.ite Iff.rfl (fun _ => ?_) (fun _ => Sim.no) | refine Sim.guard (fun _ => ?_)
  exact au (.ret ⟨_, rfl, rfl⟩)
noncomputable def r42_Cycle (c0 : GCycle) : Option ((List UInt8)) :=
  (r42_number c0.At).bind fun r0 =>
  if List.length ([99, 121, 99, 108, 101, 32] : List UInt8) + List.length r0 ≤ 9223372036854775807 then
    if List.length (([99, 121, 99, 108, 101, 32] : List UInt8) ++ r0) + List.length ([32, 115, 121, 110, 99, 32] : List UInt8) ≤ 9223372036854775807 then
      (r42_flag c0.Sync).bind fun r2 =>
      if List.length ((([99, 121, 99, 108, 101, 32] : List UInt8) ++ r0) ++ ([32, 115, 121, 110, 99, 32] : List UInt8)) + List.length r2 ≤ 9223372036854775807 then
        if List.length (((([99, 121, 99, 108, 101, 32] : List UInt8) ++ r0) ++ ([32, 115, 121, 110, 99, 32] : List UInt8)) ++ r2) + List.length ([32, 110, 117, 109, 98, 101, 114, 32] : List UInt8) ≤ 9223372036854775807 then
          (r42_number c0.Number).bind fun r3 =>
          if List.length ((((([99, 121, 99, 108, 101, 32] : List UInt8) ++ r0) ++ ([32, 115, 121, 110, 99, 32] : List UInt8)) ++ r2) ++ ([32, 110, 117, 109, 98, 101, 114, 32] : List UInt8)) + List.length r3 ≤ 9223372036854775807 then
            if List.length (((((([99, 121, 99, 108, 101, 32] : List UInt8) ++ r0) ++ ([32, 115, 121, 110, 99, 32] : List UInt8)) ++ r2) ++ ([32, 110, 117, 109, 98, 101, 114, 32] : List UInt8)) ++ r3) + List.length ([32, 109, 101, 109, 98, 101, 114, 115, 32] : List UInt8) ≤ 9223372036854775807 then
              (r40_Word c0.Members).bind fun r4 =>
              if List.length ((((((([99, 121, 99, 108, 101, 32] : List UInt8) ++ r0) ++ ([32, 115, 121, 110, 99, 32] : List UInt8)) ++ r2) ++ ([32, 110, 117, 109, 98, 101, 114, 32] : List UInt8)) ++ r3) ++ ([32, 109, 101, 109, 98, 101, 114, 115, 32] : List UInt8)) + List.length r4 ≤ 9223372036854775807 then
                (r42_got c0.Got).bind fun r5 =>
                if List.length (((((((([99, 121, 99, 108, 101, 32] : List UInt8) ++ r0) ++ ([32, 115, 121, 110, 99, 32] : List UInt8)) ++ r2) ++ ([32, 110, 117, 109, 98, 101, 114, 32] : List UInt8)) ++ r3) ++ ([32, 109, 101, 109, 98, 101, 114, 115, 32] : List UInt8)) ++ r4) + List.length r5 ≤ 9223372036854775807 then
                  some ((((((((([99, 121, 99, 108, 101, 32] : List UInt8) ++ r0) ++ ([32, 115, 121, 110, 99, 32] : List UInt8)) ++ r2) ++ ([32, 110, 117, 109, 98, 101, 114, 32] : List UInt8)) ++ r3) ++ ([32, 109, 101, 109, 98, 101, 114, 115, 32] : List UInt8)) ++ r4) ++ r5)
                else none
              else none
            else none
          else none
        else none
      else none
    else none
  else none
theorem r42_Cycle_sim (c0 : GCycle) : Sim (r42_Cycle c0) (Gv fun r q => q = (.str r, [])) (LM.call n_r42_Cycle [GCycle.av c0] []) := by
  unfold r42_Cycle
  refine sim_evR M XE rfl rfl fun S hS hw hw8 R hR => ?_
  refine au (cE hR (r42_number_sim _) fun r0 => ?_)
  refine au ?_
  first | refine Sim.ite Iff.rfl (fun _ => ?_) (fun _ => Sim.no) | refine Sim.guard (fun _ => ?_)
  refine au ?_
  first | refine Sim.ite Iff.rfl (fun _ => ?_) (fun _ => Sim.no) | refine Sim.guard (fun _ => ?_)
  refine au (cE hR (r42_flag_sim _) fun r2 => ?_)
  refine au ?_
  first | refine Sim.ite Iff.rfl (fun _ => ?_) (fun _ => Sim.no) | refine Sim.guard (fun _ => ?_)
  refine au ?_
  first | refine Sim.ite Iff.rfl (fun _ => ?_) (fun _ => Sim.no) | refine Sim.guard (fun _ => ?_)
  refine au (cE hR (r42_number_sim _) fun r3 => ?_)
  refine au ?_
  first | refine Sim.ite Iff.rfl (fun _ => ?_) (fun _ => Sim.no) | refine Sim.guard (fun _ => ?_)
  refine au ?_
  first | refine Sim.ite Iff.rfl (fun _ => ?_) (fun _ => Sim.no) | refine Sim.guard (fun _ => ?_)
  refine au (cE hR (r40_Word_sim _) fun r4 => ?_)
  refine au ?_
  first | refine Sim.ite Iff.rfl (fun _ => ?_) (fun _ => Sim.no) | refine Sim.guard (fun _ => ?_)
  refine au (cE hR (r42_got_sim _) fun r5 => ?_)
  refine au ?_
  first | refine Sim.ite Iff.rfl (fun _ => ?_) (fun _ => Sim.no) | refine Sim.guard (fun _ => ?_)
  exact au (.ret ⟨_, rfl, rfl⟩)
noncomputable def l42_ShowReports (e0 : Int) (r0 : GReport) (c0 : GCycle) : Option Bool :=
  if 40 < (List.length r0.Got : Int) then
    (l42_known).bind fun r2 =>
    some r2
  else
    if 40 < (List.length c0.Got : Int) then
      (l42_known).bind fun r3 =>
      some r3
    else
      (show_Name e0).bind fun r4 =>
      (r42_Name e0).bind fun r5 =>
      if r4 = r5 then
        (show_Report r0).bind fun r6 =>
        (r42_Report r0).bind fun r7 =>
        if r6 = r7 then
          (show_Cycle c0).bind fun r8 =>
          (r42_Cycle c0).bind fun r9 =>
          if r8 = r9 then
            (l42_known).bind fun r10 =>
            some r10
          else
            some false
        else
          some false
      else
        some false
theorem l42_ShowReports_sim (e0 : Int) (r0 : GReport) (c0 : GCycle) : Sim (l42_ShowReports e0 r0 c0) (Gv fun r q => q = (.bool r, [])) (LM.call n_l42_ShowReports [iav e0, GReport.av r0, GCycle.av c0] []) := by
  unfold l42_ShowReports
  refine sim_evR M XE rfl rfl fun S hS hw hw8 R hR => ?_
  refine au ?_
  refine Sim.ki hS (m := (List.length r0.Got : Int)) (by simp) ?_
  refine au (.ite Iff.rfl (fun hc => ?_) fun hc => ?_)
  · refine au (cE hR (l42_known_sim) fun r2 => ?_)
    exact au (.ret ⟨_, rfl, rfl⟩)
  · refine au ?_
    refine Sim.ki hS (m := (List.length c0.Got : Int)) (by simp) ?_
    refine au (.ite Iff.rfl (fun hc2 => ?_) fun hc2 => ?_)
    · refine au (cE hR (l42_known_sim) fun r3 => ?_)
      exact au (.ret ⟨_, rfl, rfl⟩)
    · refine au (cE hR (show_Name_sim _) fun r4 => ?_)
      refine au (cE hR (r42_Name_sim _) fun r5 => ?_)
      refine au (.ite Iff.rfl (fun hc3 => ?_) fun hc3 => ?_)
      · refine au (cE hR (show_Report_sim _) fun r6 => ?_)
        refine au (cE hR (r42_Report_sim _) fun r7 => ?_)
        refine au (.ite Iff.rfl (fun hc4 => ?_) fun hc4 => ?_)
        · refine au (cE hR (show_Cycle_sim _) fun r8 => ?_)
          refine au (cE hR (r42_Cycle_sim _) fun r9 => ?_)
          refine au (.ite Iff.rfl (fun hc5 => ?_) fun hc5 => ?_)
          · refine au (cE hR (l42_known_sim) fun r10 => ?_)
            exact au (.ret ⟨_, rfl, rfl⟩)
          · exact au (.ret ⟨_, rfl, rfl⟩)
        · exact au (.ret ⟨_, rfl, rfl⟩)
      · exact au (.ret ⟨_, rfl, rfl⟩)
noncomputable def r38_Few_0_step (got2 : List (List GDeliver)) (i0 : Int) : Option ((Int) ⊕ ((Bool) ⊕ (Unit))) :=
  if i0 < (List.length got2 : Int) then
    (idx? got2 i0).bind fun z0 =>
    if 100 < (List.length z0 : Int) then
      some (.inr (.inl false))
    else
      some (.inl (wr (i0 + 1)))
  else
    some (.inr (.inr ()))
noncomputable def r38_Few_0 (got2 : List (List GDeliver)) (i0 : Int) : Option ((Bool) ⊕ (Unit)) :=
  loopO (fun s : Int => r38_Few_0_step got2 s) i0
@[reducible] def r38_Few_0_st (got2 : List (List GDeliver)) (i0 : Int) : PF.St := ⟨[(1, lav (lav GDeliver.av) got2), (5, iav i0)], []⟩
def r38_Few_0_rel (got2 : List (List GDeliver)) (r : ((Bool) ⊕ (Unit))) (q : Ex × PF.St) : Prop := (fun r (q : Ex × PF.St) => Sum.elim (fun r => (fun r (q : Ex × PF.St) => q = (Ex.ret, ⟨[(4, .bool r)], []⟩)) r q) (fun r => (fun r (q : Ex × PF.St) => q = ((.exit 0), ⟨[(4, .undef)], []⟩)) r q) r) r q
def r38_Few_0_inv (got2 : List (List GDeliver)) (v : Int) (e : PF.St) : Prop := e = r38_Few_0_st got2 v
theorem r38_Few_0_sim (got2 : List (List GDeliver)) (i0 : Int) (s : PF.St) (hk : keep [1, 5] [] s = some (r38_Few_0_st got2 i0)) : Sim (r38_Few_0 got2 i0) (Gv (r38_Few_0_rel got2)) (LM.loop ([1, 5], [], [4], B_r38_Few_0) s) := by
  refine sim_loop M XE (r38_Few_0_inv got2) (r38_Few_0_rel got2) ?_ _ _ _ hk rfl
  clear hk
  rintro S hS hw hw8 R hR i0 env hp he
  change (⟨env, hp⟩ : PF.St) = r38_Few_0_st got2 i0 at he
  cases he
  show Sim (r38_Few_0_step got2 i0) _ _
  unfold r38_Few_0_step
  simp only [hw]
  refine au ?_
  refine Sim.ki hS (m := (List.length got2 : Int)) (by simp) ?_
  refine au (.ite Iff.rfl (fun hc3 => ?_) fun hc3 => ?_)
  · refine au ?_
    refine Sim.ix (by simp) (fun z0 hz0 => ?_)
    refine au ?_
    refine Sim.go (idx_map _ hz0) ?_
    refine au ?_
    refine Sim.ki hS (m := (List.length z0 : Int)) (by simp) ?_
    refine au (.ite Iff.rfl (fun hc4 => ?_) fun hc4 => ?_)
    · exact au (.ret ⟨_, rfl, rfl⟩)
    · refine au ?_
      exact Sim.ret ⟨_, _, rfl, rfl, rfl⟩
  · exact au (.ret ⟨_, rfl, rfl⟩)
noncomputable def r38_Few (lines : List (List UInt8)) (got : List (List GDeliver)) : Option Bool :=
  if 40 < (List.length lines : Int) then
    some false
  else
    if 40 < (List.length got : Int) then
      some false
    else
      (r38_Few_0 got 0).bind fun r0 =>
      Sum.elim
        (fun r2 =>
          some r2)
        (fun r3 =>
          some true)
        r0
theorem r38_Few_sim (lines : List (List UInt8)) (got : List (List GDeliver)) : Sim (r38_Few lines got) (Gv fun r q => q = (.bool r, [])) (LM.call n_r38_Few [lav sav lines, lav (lav GDeliver.av) got] []) := by
  unfold r38_Few
  refine sim_evR M XE rfl rfl fun S hS hw hw8 R hR => ?_
  refine au ?_
  refine Sim.ki hS (m := (List.length lines : Int)) (by simp) ?_
  refine au (.ite Iff.rfl (fun hc => ?_) fun hc => ?_)
  · exact au (.ret ⟨_, rfl, rfl⟩)
  · refine au ?_
    refine Sim.ki hS (m := (List.length got : Int)) (by simp) ?_
    refine au (.ite Iff.rfl (fun hc2 => ?_) fun hc2 => ?_)
    · exact au (.ret ⟨_, rfl, rfl⟩)
    · refine au ?_
      refine Sim.callL hR (r38_Few_0_sim got 0 _ rfl) ?_
      rintro r0 q hr
      rcases r0 with r2 | r3
      · cases hr
        exact au (.ret ⟨_, rfl, rfl⟩)
      · cases hr
        exact au (.ret ⟨_, rfl, rfl⟩)
noncomputable def r42_Verdict_0_step (l0 : List (List UInt8)) (v2 : GVerdict) (s0 : List UInt8) (i0 : Int) : Option (((List UInt8) × Int) ⊕ ((List UInt8))) :=
  if i0 < 5 then
    (idx? l0 i0).bind fun z0 =>
    if List.length s0 + List.length z0 ≤ 9223372036854775807 then
      if List.length (s0 ++ z0) + List.length ([32] : List UInt8) ≤ 9223372036854775807 then
        if 0 ≤ i0 ∧ i0 < (5 : Nat) then
          (Ar5.get? (Ar5.mk v2.Faults.a0 v2.Faults.a1 v2.Faults.a2 v2.Faults.a3 v2.Faults.a4) (Int.toNat i0)).bind fun z2 =>
          (r42_Name z2).bind fun r6 =>
          if List.length ((s0 ++ z0) ++ ([32] : List UInt8)) + List.length r6 ≤ 9223372036854775807 then
            if List.length (((s0 ++ z0) ++ ([32] : List UInt8)) ++ r6) + List.length ([10] : List UInt8) ≤ 9223372036854775807 then
              some (.inl (((((s0 ++ z0) ++ ([32] : List UInt8)) ++ r6) ++ ([10] : List UInt8)), (wr (i0 + 1))))
            else none
          else none
        else none
      else none
    else none
  else
    some (.inr s0)
noncomputable def r42_Verdict_0 (l0 : List (List UInt8)) (v2 : GVerdict) (s0 : List UInt8) (i0 : Int) : Option ((List UInt8)) :=
  loopO (fun s : (List UInt8) × Int => r42_Verdict_0_step l0 v2 s.1 s.2) (s0, i0)
@[reducible] def r42_Verdict_0_st (l0 : List (List UInt8)) (v2 : GVerdict) (s0 : List UInt8) (i0 : Int) (g0 : Gr) : PF.St := ⟨[(1, .ptr 101 0), (3, .str s0), (4, .lst g0 (List.map sav l0)), (5, iav i0)], [(101, ⟨true, GVerdict.cells v2⟩)]⟩
def r42_Verdict_0_rel (l0 : List (List UInt8)) (v2 : GVerdict) (r : ((List UInt8))) (q : Ex × PF.St) : Prop := (fun r (q : Ex × PF.St) => q = ((.exit 0), ⟨[(3, .str r)], [(101, ⟨true, GVerdict.cells v2⟩)]⟩)) r q
def r42_Verdict_0_inv (l0 : List (List UInt8)) (v2 : GVerdict) (v : (List UInt8) × Int) (e : PF.St) : Prop := ∃ g0, e = r42_Verdict_0_st l0 v2 v.1 v.2 g0 ∧ Mg 1 g0
theorem r42_Verdict_0_sim (l0 : List (List UInt8)) (v2 : GVerdict) (s0 : List UInt8) (i0 : Int) (g0 : Gr) (hg0 : Mg 1 g0) (s : PF.St) (hk : keep [1, 3, 4, 5] [101] s = some (r42_Verdict_0_st l0 v2 s0 i0 g0)) : Sim (r42_Verdict_0 l0 v2 s0 i0) (Gv (r42_Verdict_0_rel l0 v2)) (LM.loop ([1, 3, 4, 5], [101], [3], B_r42_Verdict_0) s) := by
  refine sim_loop M XE (r42_Verdict_0_inv l0 v2) (r42_Verdict_0_rel l0 v2) ?_ _ _ _ hk ⟨g0, rfl, hg0⟩
  clear hk hg0
  rintro S hS hw hw8 R hR ⟨s0, i0⟩ env hp ⟨g0, he, hg0⟩
  change (⟨env, hp⟩ : PF.St) = r42_Verdict_0_st l0 v2 s0 i0 g0 at he
  cases he
  show Sim (r42_Verdict_0_step l0 v2 s0 i0) _ _
  unfold r42_Verdict_0_step
  simp only [hw]
  refine au (.ite Iff.rfl (fun hc => ?_) fun hc => ?_)
  · refine au ?_
    refine Sim.ix (by simp) (fun z0 hz0 => ?_)
    refine au ?_
    refine Sim.go (idx_map _ hz0) ?_
    refine au ?_
    first | refine Sim.ite Iff.rfl (fun _ => ?_) (fun _ => Sim.no) | refine Sim.guard (fun _ => ?_)
    refine au ?_
    first | refine Sim.ite Iff.rfl (fun _ => ?_) (fun _ => Sim.no) | refine Sim.guard (fun _ => ?_)
    refine au ?_
    first | refine Sim.ite Iff.rfl (fun hb => ?_) (fun _ => Sim.no) | refine Sim.guard (fun hb => ?_)
    refine au ?_
    refine Sim.opt (f := iav) (by have hb' : (Int.toNat i0) < 5 := (by omega); generalize (Int.toNat i0) = j at hb' ⊢; rcases j with _|_|_|_|_|j <;> first | rfl | exact absurd hb' (by omega)) (fun z2 _ => ?_)
    refine au (cE hR (r42_Name_sim _) fun r6 => ?_)
    refine au ?_
    first | refine Sim.ite Iff.rfl (fun _ => ?_) (fun _ => Sim.no) | refine Sim.guard (fun _ => ?_)
    refine au ?_
    first | refine Sim.ite Iff.rfl (fun _ => ?_) (fun _ => Sim.no) | refine Sim.guard (fun _ => ?_)
    refine au ?_
    exact Sim.ret ⟨_, _, rfl, rfl, ⟨_, rfl, hg0⟩⟩
  · exact au (.ret ⟨_, rfl, rfl⟩)
noncomputable def r42_Verdict (v0 : GVerdict) : Option ((List UInt8)) :=
  (r42_number v0.Ticks).bind fun r0 =>
  if List.length ([116, 105, 99, 107, 115, 32] : List UInt8) + List.length r0 ≤ 9223372036854775807 then
    if List.length (([116, 105, 99, 107, 115, 32] : List UInt8) ++ r0) + List.length ([10, 108, 97, 115, 116, 32] : List UInt8) ≤ 9223372036854775807 then
      (r42_number v0.Last).bind fun r2 =>
      if List.length ((([116, 105, 99, 107, 115, 32] : List UInt8) ++ r0) ++ ([10, 108, 97, 115, 116, 32] : List UInt8)) + List.length r2 ≤ 9223372036854775807 then
        if List.length (((([116, 105, 99, 107, 115, 32] : List UInt8) ++ r0) ++ ([10, 108, 97, 115, 116, 32] : List UInt8)) ++ r2) + List.length ([10, 115, 101, 116, 116, 108, 101, 100, 32] : List UInt8) ≤ 9223372036854775807 then
          (r42_number v0.Settled).bind fun r3 =>
          if List.length ((((([116, 105, 99, 107, 115, 32] : List UInt8) ++ r0) ++ ([10, 108, 97, 115, 116, 32] : List UInt8)) ++ r2) ++ ([10, 115, 101, 116, 116, 108, 101, 100, 32] : List UInt8)) + List.length r3 ≤ 9223372036854775807 then
            if List.length (((((([116, 105, 99, 107, 115, 32] : List UInt8) ++ r0) ++ ([10, 108, 97, 115, 116, 32] : List UInt8)) ++ r2) ++ ([10, 115, 101, 116, 116, 108, 101, 100, 32] : List UInt8)) ++ r3) + List.length ([10, 97, 108, 108, 32] : List UInt8) ≤ 9223372036854775807 then
              (r42_number v0.All).bind fun r4 =>
              if List.length ((((((([116, 105, 99, 107, 115, 32] : List UInt8) ++ r0) ++ ([10, 108, 97, 115, 116, 32] : List UInt8)) ++ r2) ++ ([10, 115, 101, 116, 116, 108, 101, 100, 32] : List UInt8)) ++ r3) ++ ([10, 97, 108, 108, 32] : List UInt8)) + List.length r4 ≤ 9223372036854775807 then
                if List.length (((((((([116, 105, 99, 107, 115, 32] : List UInt8) ++ r0) ++ ([10, 108, 97, 115, 116, 32] : List UInt8)) ++ r2) ++ ([10, 115, 101, 116, 116, 108, 101, 100, 32] : List UInt8)) ++ r3) ++ ([10, 97, 108, 108, 32] : List UInt8)) ++ r4) + List.length ([10, 99, 121, 99, 108, 101, 115, 32] : List UInt8) ≤ 9223372036854775807 then
                  (r42_number v0.Cycles).bind fun r5 =>
                  if List.length ((((((((([116, 105, 99, 107, 115, 32] : List UInt8) ++ r0) ++ ([10, 108, 97, 115, 116, 32] : List UInt8)) ++ r2) ++ ([10, 115, 101, 116, 116, 108, 101, 100, 32] : List UInt8)) ++ r3) ++ ([10, 97, 108, 108, 32] : List UInt8)) ++ r4) ++ ([10, 99, 121, 99, 108, 101, 115, 32] : List UInt8)) + List.length r5 ≤ 9223372036854775807 then
                    if List.length (((((((((([116, 105, 99, 107, 115, 32] : List UInt8) ++ r0) ++ ([10, 108, 97, 115, 116, 32] : List UInt8)) ++ r2) ++ ([10, 115, 101, 116, 116, 108, 101, 100, 32] : List UInt8)) ++ r3) ++ ([10, 97, 108, 108, 32] : List UInt8)) ++ r4) ++ ([10, 99, 121, 99, 108, 101, 115, 32] : List UInt8)) ++ r5) + List.length ([10] : List UInt8) ≤ 9223372036854775807 then
                      (r42_Verdict_0 [([112, 117, 108, 115, 101, 115] : List UInt8), ([110, 117, 109, 98, 101, 114, 115] : List UInt8), ([115, 108, 111, 116, 115] : List UInt8), ([114, 111, 117, 110, 100, 115] : List UInt8), ([109, 101, 109, 98, 101, 114, 115] : List UInt8)] v0 ((((((((((([116, 105, 99, 107, 115, 32] : List UInt8) ++ r0) ++ ([10, 108, 97, 115, 116, 32] : List UInt8)) ++ r2) ++ ([10, 115, 101, 116, 116, 108, 101, 100, 32] : List UInt8)) ++ r3) ++ ([10, 97, 108, 108, 32] : List UInt8)) ++ r4) ++ ([10, 99, 121, 99, 108, 101, 115, 32] : List UInt8)) ++ r5) ++ ([10] : List UInt8)) 0).bind fun r7 =>
                      some r7
                    else none
                  else none
                else none
              else none
            else none
          else none
        else none
      else none
    else none
  else none
theorem r42_Verdict_sim (v0 : GVerdict) : Sim (r42_Verdict v0) (Gv fun r q => q = (.str r, [])) (LM.call n_r42_Verdict [GVerdict.av v0] []) := by
  unfold r42_Verdict
  refine sim_evR M XE rfl rfl fun S hS hw hw8 R hR => ?_
  refine au (cE hR (r42_number_sim _) fun r0 => ?_)
  refine au ?_
  first | refine Sim.ite Iff.rfl (fun _ => ?_) (fun _ => Sim.no) | refine Sim.guard (fun _ => ?_)
  refine au ?_
  first | refine Sim.ite Iff.rfl (fun _ => ?_) (fun _ => Sim.no) | refine Sim.guard (fun _ => ?_)
  refine au (cE hR (r42_number_sim _) fun r2 => ?_)
  refine au ?_
  first | refine Sim.ite Iff.rfl (fun _ => ?_) (fun _ => Sim.no) | refine Sim.guard (fun _ => ?_)
  refine au ?_
  first | refine Sim.ite Iff.rfl (fun _ => ?_) (fun _ => Sim.no) | refine Sim.guard (fun _ => ?_)
  refine au (cE hR (r42_number_sim _) fun r3 => ?_)
  refine au ?_
  first | refine Sim.ite Iff.rfl (fun _ => ?_) (fun _ => Sim.no) | refine Sim.guard (fun _ => ?_)
  refine au ?_
  first | refine Sim.ite Iff.rfl (fun _ => ?_) (fun _ => Sim.no) | refine Sim.guard (fun _ => ?_)
  refine au (cE hR (r42_number_sim _) fun r4 => ?_)
  refine au ?_
  first | refine Sim.ite Iff.rfl (fun _ => ?_) (fun _ => Sim.no) | refine Sim.guard (fun _ => ?_)
  refine au ?_
  first | refine Sim.ite Iff.rfl (fun _ => ?_) (fun _ => Sim.no) | refine Sim.guard (fun _ => ?_)
  refine au (cE hR (r42_number_sim _) fun r5 => ?_)
  refine au ?_
  first | refine Sim.ite Iff.rfl (fun _ => ?_) (fun _ => Sim.no) | refine Sim.guard (fun _ => ?_)
  refine au ?_
  first | refine Sim.ite Iff.rfl (fun _ => ?_) (fun _ => Sim.no) | refine Sim.guard (fun _ => ?_)
  refine au ?_
  refine Sim.kl hS (ys := List.map sav [([112, 117, 108, 115, 101, 115] : List UInt8), ([110, 117, 109, 98, 101, 114, 115] : List UInt8), ([115, 108, 111, 116, 115] : List UInt8), ([114, 111, 117, 110, 100, 115] : List UInt8), ([109, 101, 109, 98, 101, 114, 115] : List UInt8)]) rfl ?_
  refine au ?_
  refine Sim.callL hR (r42_Verdict_0_sim [([112, 117, 108, 115, 101, 115] : List UInt8), ([110, 117, 109, 98, 101, 114, 115] : List UInt8), ([115, 108, 111, 116, 115] : List UInt8), ([114, 111, 117, 110, 100, 115] : List UInt8), ([109, 101, 109, 98, 101, 114, 115] : List UInt8)] v0 ((((((((((([116, 105, 99, 107, 115, 32] : List UInt8) ++ r0) ++ ([10, 108, 97, 115, 116, 32] : List UInt8)) ++ r2) ++ ([10, 115, 101, 116, 116, 108, 101, 100, 32] : List UInt8)) ++ r3) ++ ([10, 97, 108, 108, 32] : List UInt8)) ++ r4) ++ ([10, 99, 121, 99, 108, 101, 115, 32] : List UInt8)) ++ r5) ++ ([10] : List UInt8)) 0 .full Mg.full _ rfl) ?_
  rintro r7 q rfl
  exact au (.ret ⟨_, rfl, rfl⟩)
noncomputable def r42_Round_0_step (r4 : GRound) (s0 : List UInt8) (i0 : Int) : Option (((List UInt8) × Int) ⊕ ((List UInt8))) :=
  if i0 < (List.length r4.Lines : Int) then
    if List.length s0 + List.length ([108, 105, 110, 101, 32] : List UInt8) ≤ 9223372036854775807 then
      (r42_number i0).bind fun r5 =>
      if List.length (s0 ++ ([108, 105, 110, 101, 32] : List UInt8)) + List.length r5 ≤ 9223372036854775807 then
        if List.length ((s0 ++ ([108, 105, 110, 101, 32] : List UInt8)) ++ r5) + List.length ([32] : List UInt8) ≤ 9223372036854775807 then
          (idx? r4.Lines i0).bind fun z0 =>
          (r40_Word z0).bind fun r6 =>
          if List.length (((s0 ++ ([108, 105, 110, 101, 32] : List UInt8)) ++ r5) ++ ([32] : List UInt8)) + List.length r6 ≤ 9223372036854775807 then
            if List.length ((((s0 ++ ([108, 105, 110, 101, 32] : List UInt8)) ++ r5) ++ ([32] : List UInt8)) ++ r6) + List.length ([10] : List UInt8) ≤ 9223372036854775807 then
              some (.inl ((((((s0 ++ ([108, 105, 110, 101, 32] : List UInt8)) ++ r5) ++ ([32] : List UInt8)) ++ r6) ++ ([10] : List UInt8)), (wr (i0 + 1))))
            else none
          else none
        else none
      else none
    else none
  else
    some (.inr s0)
noncomputable def r42_Round_0 (r4 : GRound) (s0 : List UInt8) (i0 : Int) : Option ((List UInt8)) :=
  loopO (fun s : (List UInt8) × Int => r42_Round_0_step r4 s.1 s.2) (s0, i0)
@[reducible] def r42_Round_0_st (r4 : GRound) (s0 : List UInt8) (i0 : Int) : PF.St := ⟨[(1, .ptr 101 0), (3, .str s0), (4, iav i0)], [(101, ⟨true, GRound.cells r4⟩)]⟩
def r42_Round_0_rel (r4 : GRound) (r : ((List UInt8))) (q : Ex × PF.St) : Prop := (fun r (q : Ex × PF.St) => q = ((.exit 0), ⟨[(1, .ptr 101 0), (3, .str r)], [(101, ⟨true, GRound.cells r4⟩)]⟩)) r q
def r42_Round_0_inv (r4 : GRound) (v : (List UInt8) × Int) (e : PF.St) : Prop := e = r42_Round_0_st r4 v.1 v.2
theorem r42_Round_0_sim (r4 : GRound) (s0 : List UInt8) (i0 : Int) (s : PF.St) (hk : keep [1, 3, 4] [101] s = some (r42_Round_0_st r4 s0 i0)) : Sim (r42_Round_0 r4 s0 i0) (Gv (r42_Round_0_rel r4)) (LM.loop ([1, 3, 4], [101], [1, 3], B_r42_Round_0) s) := by
  refine sim_loop M XE (r42_Round_0_inv r4) (r42_Round_0_rel r4) ?_ _ _ _ hk rfl
  clear hk
  rintro S hS hw hw8 R hR ⟨s0, i0⟩ env hp he
  change (⟨env, hp⟩ : PF.St) = r42_Round_0_st r4 s0 i0 at he
  cases he
  show Sim (r42_Round_0_step r4 s0 i0) _ _
  unfold r42_Round_0_step
  simp only [hw]
  refine au ?_
  refine Sim.ki hS (m := (List.length r4.Lines : Int)) (by simp) ?_
  refine au (.ite Iff.rfl (fun hc => ?_) fun hc => ?_)
  · refine au ?_
    first | refine Sim.ite Iff.rfl (fun _ => ?_) (fun _ => Sim.no) | refine Sim.guard (fun _ => ?_)
    refine au (cE hR (r42_number_sim _) fun r5 => ?_)
    refine au ?_
    first | refine Sim.ite Iff.rfl (fun _ => ?_) (fun _ => Sim.no) | refine Sim.guard (fun _ => ?_)
    refine au ?_
    first | refine Sim.ite Iff.rfl (fun _ => ?_) (fun _ => Sim.no) | refine Sim.guard (fun _ => ?_)
    refine au ?_
    refine Sim.ix (by simp) (fun z0 hz0 => ?_)
    refine au ?_
    refine Sim.go (idx_map _ hz0) ?_
    refine au (cE hR (r40_Word_sim _) fun r6 => ?_)
    refine au ?_
    first | refine Sim.ite Iff.rfl (fun _ => ?_) (fun _ => Sim.no) | refine Sim.guard (fun _ => ?_)
    refine au ?_
    first | refine Sim.ite Iff.rfl (fun _ => ?_) (fun _ => Sim.no) | refine Sim.guard (fun _ => ?_)
    refine au ?_
    exact Sim.ret ⟨_, _, rfl, rfl, rfl⟩
  · exact au (.ret ⟨_, rfl, rfl⟩)
noncomputable def r42_Round_1_step (r8 : GRound) (s2 : List UInt8) (i2 : Int) : Option (((List UInt8) × Int) ⊕ ((List UInt8))) :=
  if i2 < (List.length r8.Got : Int) then
    if List.length s2 + List.length ([103, 111, 116, 32] : List UInt8) ≤ 9223372036854775807 then
      (r42_number i2).bind fun r9 =>
      if List.length (s2 ++ ([103, 111, 116, 32] : List UInt8)) + List.length r9 ≤ 9223372036854775807 then
        (idx? r8.Got i2).bind fun z2 =>
        (r42_got z2).bind fun r10 =>
        if List.length ((s2 ++ ([103, 111, 116, 32] : List UInt8)) ++ r9) + List.length r10 ≤ 9223372036854775807 then
          if List.length (((s2 ++ ([103, 111, 116, 32] : List UInt8)) ++ r9) ++ r10) + List.length ([10] : List UInt8) ≤ 9223372036854775807 then
            some (.inl (((((s2 ++ ([103, 111, 116, 32] : List UInt8)) ++ r9) ++ r10) ++ ([10] : List UInt8)), (wr (i2 + 1))))
          else none
        else none
      else none
    else none
  else
    some (.inr s2)
noncomputable def r42_Round_1 (r8 : GRound) (s2 : List UInt8) (i2 : Int) : Option ((List UInt8)) :=
  loopO (fun s : (List UInt8) × Int => r42_Round_1_step r8 s.1 s.2) (s2, i2)
@[reducible] def r42_Round_1_st (r8 : GRound) (s2 : List UInt8) (i2 : Int) : PF.St := ⟨[(1, .ptr 101 0), (3, .str s2), (5, iav i2)], [(101, ⟨true, GRound.cells r8⟩)]⟩
def r42_Round_1_rel (r8 : GRound) (r : ((List UInt8))) (q : Ex × PF.St) : Prop := (fun r (q : Ex × PF.St) => q = ((.exit 2), ⟨[(3, .str r)], [(101, ⟨true, GRound.cells r8⟩)]⟩)) r q
def r42_Round_1_inv (r8 : GRound) (v : (List UInt8) × Int) (e : PF.St) : Prop := e = r42_Round_1_st r8 v.1 v.2
theorem r42_Round_1_sim (r8 : GRound) (s2 : List UInt8) (i2 : Int) (s : PF.St) (hk : keep [1, 3, 5] [101] s = some (r42_Round_1_st r8 s2 i2)) : Sim (r42_Round_1 r8 s2 i2) (Gv (r42_Round_1_rel r8)) (LM.loop ([1, 3, 5], [101], [3], B_r42_Round_1) s) := by
  refine sim_loop M XE (r42_Round_1_inv r8) (r42_Round_1_rel r8) ?_ _ _ _ hk rfl
  clear hk
  rintro S hS hw hw8 R hR ⟨s2, i2⟩ env hp he
  change (⟨env, hp⟩ : PF.St) = r42_Round_1_st r8 s2 i2 at he
  cases he
  show Sim (r42_Round_1_step r8 s2 i2) _ _
  unfold r42_Round_1_step
  simp only [hw]
  refine au ?_
  refine Sim.ki hS (m := (List.length r8.Got : Int)) (by simp) ?_
  refine au (.ite Iff.rfl (fun hc2 => ?_) fun hc2 => ?_)
  · refine au ?_
    first | refine Sim.ite Iff.rfl (fun _ => ?_) (fun _ => Sim.no) | refine Sim.guard (fun _ => ?_)
    refine au (cE hR (r42_number_sim _) fun r9 => ?_)
    refine au ?_
    first | refine Sim.ite Iff.rfl (fun _ => ?_) (fun _ => Sim.no) | refine Sim.guard (fun _ => ?_)
    refine au ?_
    refine Sim.ix (by simp) (fun z2 hz2 => ?_)
    refine au ?_
    refine Sim.go (idx_map _ hz2) ?_
    refine au (cE hR (r42_got_sim _) fun r10 => ?_)
    refine au ?_
    first | refine Sim.ite Iff.rfl (fun _ => ?_) (fun _ => Sim.no) | refine Sim.guard (fun _ => ?_)
    refine au ?_
    first | refine Sim.ite Iff.rfl (fun _ => ?_) (fun _ => Sim.no) | refine Sim.guard (fun _ => ?_)
    refine au ?_
    exact Sim.ret ⟨_, _, rfl, rfl, rfl⟩
  · exact au (.ret ⟨_, rfl, rfl⟩)
noncomputable def r42_Round (r0 : GRound) : Option ((List UInt8)) :=
  (r42_number r0.Number).bind fun r2 =>
  if List.length ([114, 111, 117, 110, 100, 32] : List UInt8) + List.length r2 ≤ 9223372036854775807 then
    if List.length (([114, 111, 117, 110, 100, 32] : List UInt8) ++ r2) + List.length ([32] : List UInt8) ≤ 9223372036854775807 then
      (r40_Word r0.Members).bind fun r3 =>
      if List.length ((([114, 111, 117, 110, 100, 32] : List UInt8) ++ r2) ++ ([32] : List UInt8)) + List.length r3 ≤ 9223372036854775807 then
        if List.length (((([114, 111, 117, 110, 100, 32] : List UInt8) ++ r2) ++ ([32] : List UInt8)) ++ r3) + List.length ([10] : List UInt8) ≤ 9223372036854775807 then
          (r42_Round_0 r0 ((((([114, 111, 117, 110, 100, 32] : List UInt8) ++ r2) ++ ([32] : List UInt8)) ++ r3) ++ ([10] : List UInt8)) 0).bind fun r7 =>
          (r42_Round_1 r0 r7 0).bind fun r11 =>
          some r11
        else none
      else none
    else none
  else none
theorem r42_Round_sim (r0 : GRound) : Sim (r42_Round r0) (Gv fun r q => q = (.str r, [])) (LM.call n_r42_Round [GRound.av r0] []) := by
  unfold r42_Round
  refine sim_evR M XE rfl rfl fun S hS hw hw8 R hR => ?_
  refine au (cE hR (r42_number_sim _) fun r2 => ?_)
  refine au ?_
  first | refine Sim.ite Iff.rfl (fun _ => ?_) (fun _ => Sim.no) | refine Sim.guard (fun _ => ?_)
  refine au ?_
  first | refine Sim.ite Iff.rfl (fun _ => ?_) (fun _ => Sim.no) | refine Sim.guard (fun _ => ?_)
  refine au (cE hR (r40_Word_sim _) fun r3 => ?_)
  refine au ?_
  first | refine Sim.ite Iff.rfl (fun _ => ?_) (fun _ => Sim.no) | refine Sim.guard (fun _ => ?_)
  refine au ?_
  first | refine Sim.ite Iff.rfl (fun _ => ?_) (fun _ => Sim.no) | refine Sim.guard (fun _ => ?_)
  refine au ?_
  refine Sim.callL hR (r42_Round_0_sim r0 ((((([114, 111, 117, 110, 100, 32] : List UInt8) ++ r2) ++ ([32] : List UInt8)) ++ r3) ++ ([10] : List UInt8)) 0 _ rfl) ?_
  rintro r7 q rfl
  refine au ?_
  refine Sim.callL hR (r42_Round_1_sim r0 r7 0 _ rfl) ?_
  rintro r11 q rfl
  exact au (.ret ⟨_, rfl, rfl⟩)
noncomputable def l42_ShowRounds (v0 : GVerdict) (r0 : GRound) : Option Bool :=
  (r38_Few r0.Lines r0.Got).bind fun r2 =>
  if (!r2) = true then
    (l42_known).bind fun r3 =>
    some r3
  else
    (show_Verdict v0).bind fun r4 =>
    (r42_Verdict v0).bind fun r5 =>
    if r4 = r5 then
      (show_Round r0).bind fun r6 =>
      (r42_Round r0).bind fun r7 =>
      if r6 = r7 then
        (l42_known).bind fun r8 =>
        some r8
      else
        some false
    else
      some false
theorem l42_ShowRounds_sim (v0 : GVerdict) (r0 : GRound) : Sim (l42_ShowRounds v0 r0) (Gv fun r q => q = (.bool r, [])) (LM.call n_l42_ShowRounds [GVerdict.av v0, GRound.av r0] []) := by
  unfold l42_ShowRounds
  refine sim_evR M XE rfl rfl fun S hS hw hw8 R hR => ?_
  refine au (cE hR (r38_Few_sim _ _) fun r2 => ?_)
  refine au (.iteB (fun hc => ?_) fun hc => ?_)
  · refine au (cE hR (l42_known_sim) fun r3 => ?_)
    exact au (.ret ⟨_, rfl, rfl⟩)
  · refine au (cE hR (show_Verdict_sim _) fun r4 => ?_)
    refine au (cE hR (r42_Verdict_sim _) fun r5 => ?_)
    refine au (.ite Iff.rfl (fun hc2 => ?_) fun hc2 => ?_)
    · refine au (cE hR (show_Round_sim _) fun r6 => ?_)
      refine au (cE hR (r42_Round_sim _) fun r7 => ?_)
      refine au (.ite Iff.rfl (fun hc3 => ?_) fun hc3 => ?_)
      · refine au (cE hR (l42_known_sim) fun r8 => ?_)
        exact au (.ret ⟨_, rfl, rfl⟩)
      · exact au (.ret ⟨_, rfl, rfl⟩)
    · exact au (.ret ⟨_, rfl, rfl⟩)
noncomputable def r24_Same_0_step (a2 : List GDeliver) (b2 : List GDeliver) (i0 : Int) : Option ((Int) ⊕ ((Bool) ⊕ (Unit))) :=
  if i0 < (List.length a2 : Int) then
    (idx? a2 i0).bind fun z0 =>
    (idx? b2 i0).bind fun z2 =>
    if (!(decide (z0.From = z2.From) && (decide (z0.Slot = z2.Slot) && (decide (z0.Cycle = z2.Cycle) && (decide (z0.Text = z2.Text) && true))))) = true then
      some (.inr (.inl false))
    else
      some (.inl (wr (i0 + 1)))
  else
    some (.inr (.inr ()))
noncomputable def r24_Same_0 (a2 : List GDeliver) (b2 : List GDeliver) (i0 : Int) : Option ((Bool) ⊕ (Unit)) :=
  loopO (fun s : Int => r24_Same_0_step a2 b2 s) i0
@[reducible] def r24_Same_0_st (a2 : List GDeliver) (b2 : List GDeliver) (i0 : Int) : PF.St := ⟨[(0, lav GDeliver.av a2), (1, lav GDeliver.av b2), (5, iav i0)], []⟩
def r24_Same_0_rel (a2 : List GDeliver) (b2 : List GDeliver) (r : ((Bool) ⊕ (Unit))) (q : Ex × PF.St) : Prop := (fun r (q : Ex × PF.St) => Sum.elim (fun r => (fun r (q : Ex × PF.St) => q = (Ex.ret, ⟨[(4, .bool r)], []⟩)) r q) (fun r => (fun r (q : Ex × PF.St) => q = ((.exit 0), ⟨[(4, .undef)], []⟩)) r q) r) r q
def r24_Same_0_inv (a2 : List GDeliver) (b2 : List GDeliver) (v : Int) (e : PF.St) : Prop := e = r24_Same_0_st a2 b2 v
theorem r24_Same_0_sim (a2 : List GDeliver) (b2 : List GDeliver) (i0 : Int) (s : PF.St) (hk : keep [0, 1, 5] [] s = some (r24_Same_0_st a2 b2 i0)) : Sim (r24_Same_0 a2 b2 i0) (Gv (r24_Same_0_rel a2 b2)) (LM.loop ([0, 1, 5], [], [4], B_r24_Same_0) s) := by
  refine sim_loop M XE (r24_Same_0_inv a2 b2) (r24_Same_0_rel a2 b2) ?_ _ _ _ hk rfl
  clear hk
  rintro S hS hw hw8 R hR i0 env hp he
  change (⟨env, hp⟩ : PF.St) = r24_Same_0_st a2 b2 i0 at he
  cases he
  show Sim (r24_Same_0_step a2 b2 i0) _ _
  unfold r24_Same_0_step
  simp only [hw]
  refine au ?_
  refine Sim.ki hS (m := (List.length a2 : Int)) (by simp) ?_
  refine au (.ite Iff.rfl (fun hc2 => ?_) fun hc2 => ?_)
  · refine au ?_
    refine Sim.ix (by simp) (fun z0 hz0 => ?_)
    refine au ?_
    refine Sim.go (idx_map _ hz0) ?_
    refine au ?_
    refine Sim.ix (by simp) (fun z2 hz2 => ?_)
    refine au ?_
    refine Sim.go (idx_map _ hz2) ?_
    refine au (.iteB (fun hc3 => ?_) fun hc3 => ?_)
    · exact au (.ret ⟨_, rfl, rfl⟩)
    · refine au ?_
      exact Sim.ret ⟨_, _, rfl, rfl, rfl⟩
  · exact au (.ret ⟨_, rfl, rfl⟩)
noncomputable def r24_Same (a0 : List GDeliver) (b0 : List GDeliver) : Option Bool :=
  if (List.length a0 : Int) ≠ (List.length b0 : Int) then
    some false
  else
    (r24_Same_0 a0 b0 0).bind fun r0 =>
    Sum.elim
      (fun r2 =>
        some r2)
      (fun r3 =>
        some true)
      r0
theorem r24_Same_sim (a0 : List GDeliver) (b0 : List GDeliver) : Sim (r24_Same a0 b0) (Gv fun r q => q = (.bool r, [])) (LM.call n_r24_Same [lav GDeliver.av a0, lav GDeliver.av b0] []) := by
  unfold r24_Same
  refine sim_evR M XE rfl rfl fun S hS hw hw8 R hR => ?_
  refine au ?_
  refine Sim.ki hS (m := (List.length a0 : Int)) (by simp) ?_
  refine au ?_
  refine Sim.ki hS (m := (List.length b0 : Int)) (by simp) ?_
  refine au (.ite Iff.rfl (fun hc => ?_) fun hc => ?_)
  · exact au (.ret ⟨_, rfl, rfl⟩)
  · refine au ?_
    refine Sim.callL hR (r24_Same_0_sim a0 b0 0 _ rfl) ?_
    rintro r0 q hr
    rcases r0 with r2 | r3
    · cases hr
      exact au (.ret ⟨_, rfl, rfl⟩)
    · cases hr
      exact au (.ret ⟨_, rfl, rfl⟩)
noncomputable def r27_Same (a0 : GReport) (b0 : GReport) : Option Bool :=
  if (a0.Pulse == b0.Pulse) = true then
    if (a0.Sync == b0.Sync) = true then
      if a0.Number = b0.Number then
        if a0.Slot = b0.Slot then
          if a0.Members = b0.Members then
            if a0.Sent = b0.Sent then
              (r24_Same a0.Got b0.Got).bind fun r0 =>
              some r0
            else
              some false
          else
            some false
        else
          some false
      else
        some false
    else
      some false
  else
    some false
theorem r27_Same_sim (a0 : GReport) (b0 : GReport) : Sim (r27_Same a0 b0) (Gv fun r q => q = (.bool r, [])) (LM.call n_r27_Same [GReport.av a0, GReport.av b0] []) := by
  unfold r27_Same
  refine sim_evR M XE rfl rfl fun S hS hw hw8 R hR => ?_
  refine au (.iteB (fun hc => ?_) fun hc => ?_)
  · refine au (.iteB (fun hc2 => ?_) fun hc2 => ?_)
    · refine au (.ite Iff.rfl (fun hc3 => ?_) fun hc3 => ?_)
      · refine au (.ite Iff.rfl (fun hc4 => ?_) fun hc4 => ?_)
        · refine au (.ite Iff.rfl (fun hc5 => ?_) fun hc5 => ?_)
          · refine au (.ite Iff.rfl (fun hc6 => ?_) fun hc6 => ?_)
            · refine au (cE hR (r24_Same_sim _ _) fun r0 => ?_)
              exact au (.ret ⟨_, rfl, rfl⟩)
            · exact au (.ret ⟨_, rfl, rfl⟩)
          · exact au (.ret ⟨_, rfl, rfl⟩)
        · exact au (.ret ⟨_, rfl, rfl⟩)
      · exact au (.ret ⟨_, rfl, rfl⟩)
    · exact au (.ret ⟨_, rfl, rfl⟩)
  · exact au (.ret ⟨_, rfl, rfl⟩)
noncomputable def r36_Same_0_step (a2 : List GCycle) (b2 : List GCycle) (i0 : Int) : Option ((Int) ⊕ ((Bool) ⊕ (Unit))) :=
  if i0 < (List.length a2 : Int) then
    (idx? a2 i0).bind fun z0 =>
    (idx? b2 i0).bind fun z2 =>
    if z0.At ≠ z2.At then
      some (.inr (.inl false))
    else
      if z0.Number ≠ z2.Number then
        some (.inr (.inl false))
      else
        if z0.Members ≠ z2.Members then
          some (.inr (.inl false))
        else
          if (z0.Sync != z2.Sync) = true then
            some (.inr (.inl false))
          else
            (r24_Same z0.Got z2.Got).bind fun r0 =>
            if (!r0) = true then
              some (.inr (.inl false))
            else
              some (.inl (wr (i0 + 1)))
  else
    some (.inr (.inr ()))
noncomputable def r36_Same_0 (a2 : List GCycle) (b2 : List GCycle) (i0 : Int) : Option ((Bool) ⊕ (Unit)) :=
  loopO (fun s : Int => r36_Same_0_step a2 b2 s) i0
@[reducible] def r36_Same_0_st (a2 : List GCycle) (b2 : List GCycle) (i0 : Int) : PF.St := ⟨[(0, lav GCycle.av a2), (1, lav GCycle.av b2), (5, iav i0)], []⟩
def r36_Same_0_rel (a2 : List GCycle) (b2 : List GCycle) (r : ((Bool) ⊕ (Unit))) (q : Ex × PF.St) : Prop := (fun r (q : Ex × PF.St) => Sum.elim (fun r => (fun r (q : Ex × PF.St) => q = (Ex.ret, ⟨[(4, .bool r)], []⟩)) r q) (fun r => (fun r (q : Ex × PF.St) => q = ((.exit 0), ⟨[(4, .undef)], []⟩)) r q) r) r q
def r36_Same_0_inv (a2 : List GCycle) (b2 : List GCycle) (v : Int) (e : PF.St) : Prop := e = r36_Same_0_st a2 b2 v
theorem r36_Same_0_sim (a2 : List GCycle) (b2 : List GCycle) (i0 : Int) (s : PF.St) (hk : keep [0, 1, 5] [] s = some (r36_Same_0_st a2 b2 i0)) : Sim (r36_Same_0 a2 b2 i0) (Gv (r36_Same_0_rel a2 b2)) (LM.loop ([0, 1, 5], [], [4], B_r36_Same_0) s) := by
  refine sim_loop M XE (r36_Same_0_inv a2 b2) (r36_Same_0_rel a2 b2) ?_ _ _ _ hk rfl
  clear hk
  rintro S hS hw hw8 R hR i0 env hp he
  change (⟨env, hp⟩ : PF.St) = r36_Same_0_st a2 b2 i0 at he
  cases he
  show Sim (r36_Same_0_step a2 b2 i0) _ _
  unfold r36_Same_0_step
  simp only [hw]
  refine au ?_
  refine Sim.ki hS (m := (List.length a2 : Int)) (by simp) ?_
  refine au (.ite Iff.rfl (fun hc2 => ?_) fun hc2 => ?_)
  · refine au ?_
    refine Sim.ix (by simp) (fun z0 hz0 => ?_)
    refine au ?_
    refine Sim.go (idx_map _ hz0) ?_
    refine au ?_
    refine Sim.ix (by simp) (fun z2 hz2 => ?_)
    refine au ?_
    refine Sim.go (idx_map _ hz2) ?_
    refine au (.ite Iff.rfl (fun hc3 => ?_) fun hc3 => ?_)
    · exact au (.ret ⟨_, rfl, rfl⟩)
    · refine au (.ite Iff.rfl (fun hc4 => ?_) fun hc4 => ?_)
      · exact au (.ret ⟨_, rfl, rfl⟩)
      · refine au (.ite Iff.rfl (fun hc5 => ?_) fun hc5 => ?_)
        · exact au (.ret ⟨_, rfl, rfl⟩)
        · refine au (.iteB (fun hc6 => ?_) fun hc6 => ?_)
          · exact au (.ret ⟨_, rfl, rfl⟩)
          · refine au (cE hR (r24_Same_sim _ _) fun r0 => ?_)
            refine au (.iteB (fun hc7 => ?_) fun hc7 => ?_)
            · exact au (.ret ⟨_, rfl, rfl⟩)
            · refine au ?_
              exact Sim.ret ⟨_, _, rfl, rfl, rfl⟩
  · exact au (.ret ⟨_, rfl, rfl⟩)
noncomputable def r36_Same (a0 : List GCycle) (b0 : List GCycle) : Option Bool :=
  if (List.length a0 : Int) ≠ (List.length b0 : Int) then
    some false
  else
    (r36_Same_0 a0 b0 0).bind fun r2 =>
    Sum.elim
      (fun r3 =>
        some r3)
      (fun r4 =>
        some true)
      r2
theorem r36_Same_sim (a0 : List GCycle) (b0 : List GCycle) : Sim (r36_Same a0 b0) (Gv fun r q => q = (.bool r, [])) (LM.call n_r36_Same [lav GCycle.av a0, lav GCycle.av b0] []) := by
  unfold r36_Same
  refine sim_evR M XE rfl rfl fun S hS hw hw8 R hR => ?_
  refine au ?_
  refine Sim.ki hS (m := (List.length a0 : Int)) (by simp) ?_
  refine au ?_
  refine Sim.ki hS (m := (List.length b0 : Int)) (by simp) ?_
  refine au (.ite Iff.rfl (fun hc => ?_) fun hc => ?_)
  · exact au (.ret ⟨_, rfl, rfl⟩)
  · refine au ?_
    refine Sim.callL hR (r36_Same_0_sim a0 b0 0 _ rfl) ?_
    rintro r2 q hr
    rcases r2 with r3 | r4
    · cases hr
      exact au (.ret ⟨_, rfl, rfl⟩)
    · cases hr
      exact au (.ret ⟨_, rfl, rfl⟩)
noncomputable def l42_ShowApart (a0 : GReport) (b0 : GReport) (c0 : GCycle) (d0 : GCycle) : Option Bool :=
  if 40 < (List.length a0.Got : Int) then
    (l42_known).bind fun r0 =>
    some r0
  else
    if 40 < (List.length b0.Got : Int) then
      (l42_known).bind fun r2 =>
      some r2
    else
      if 40 < (List.length c0.Got : Int) then
        (l42_known).bind fun r3 =>
        some r3
      else
        if 40 < (List.length d0.Got : Int) then
          (l42_known).bind fun r4 =>
          some r4
        else
          (show_Report a0).bind fun r5 =>
          (show_Report b0).bind fun r6 =>
          (r27_Same a0 b0).bind fun r7 =>
          if ((decide (r5 = r6)) == r7) = true then
            (show_Cycle c0).bind fun r8 =>
            (show_Cycle d0).bind fun r9 =>
            (r36_Same [c0] [d0]).bind fun r10 =>
            if ((decide (r8 = r9)) == r10) = true then
              (l42_known).bind fun r11 =>
              some r11
            else
              some false
          else
            some false
theorem l42_ShowApart_sim (a0 : GReport) (b0 : GReport) (c0 : GCycle) (d0 : GCycle) : Sim (l42_ShowApart a0 b0 c0 d0) (Gv fun r q => q = (.bool r, [])) (LM.call n_l42_ShowApart [GReport.av a0, GReport.av b0, GCycle.av c0, GCycle.av d0] []) := by
  unfold l42_ShowApart
  refine sim_evR M XE rfl rfl fun S hS hw hw8 R hR => ?_
  refine au ?_
  refine Sim.ki hS (m := (List.length a0.Got : Int)) (by simp) ?_
  refine au (.ite Iff.rfl (fun hc => ?_) fun hc => ?_)
  · refine au (cE hR (l42_known_sim) fun r0 => ?_)
    exact au (.ret ⟨_, rfl, rfl⟩)
  · refine au ?_
    refine Sim.ki hS (m := (List.length b0.Got : Int)) (by simp) ?_
    refine au (.ite Iff.rfl (fun hc2 => ?_) fun hc2 => ?_)
    · refine au (cE hR (l42_known_sim) fun r2 => ?_)
      exact au (.ret ⟨_, rfl, rfl⟩)
    · refine au ?_
      refine Sim.ki hS (m := (List.length c0.Got : Int)) (by simp) ?_
      refine au (.ite Iff.rfl (fun hc3 => ?_) fun hc3 => ?_)
      · refine au (cE hR (l42_known_sim) fun r3 => ?_)
        exact au (.ret ⟨_, rfl, rfl⟩)
      · refine au ?_
        refine Sim.ki hS (m := (List.length d0.Got : Int)) (by simp) ?_
        refine au (.ite Iff.rfl (fun hc4 => ?_) fun hc4 => ?_)
        · refine au (cE hR (l42_known_sim) fun r4 => ?_)
          exact au (.ret ⟨_, rfl, rfl⟩)
        · refine au (cE hR (show_Report_sim _) fun r5 => ?_)
          refine au (cE hR (show_Report_sim _) fun r6 => ?_)
          refine au (cE hR (r27_Same_sim _ _) fun r7 => ?_)
          refine au (.iteB (fun hc5 => ?_) fun hc5 => ?_)
          · refine au (cE hR (show_Cycle_sim _) fun r8 => ?_)
            refine au (cE hR (show_Cycle_sim _) fun r9 => ?_)
            refine au ?_
            refine Sim.kl hS (ys := List.map GCycle.av [c0]) rfl ?_
            refine au ?_
            refine Sim.kl hS (ys := List.map GCycle.av [d0]) rfl ?_
            refine au (cE hR (r36_Same_sim _ _) fun r10 => ?_)
            refine au (.iteB (fun hc6 => ?_) fun hc6 => ?_)
            · refine au (cE hR (l42_known_sim) fun r11 => ?_)
              exact au (.ret ⟨_, rfl, rfl⟩)
            · exact au (.ret ⟨_, rfl, rfl⟩)
          · exact au (.ret ⟨_, rfl, rfl⟩)
noncomputable def r38_Same_0_step (t2 : GRound) (s0 : GRound) (t0 : Int) : Option ((Int) ⊕ ((Bool) ⊕ (Unit))) :=
  if t0 < (List.length s0.Lines : Int) then
    (idx? s0.Lines t0).bind fun z0 =>
    (idx? t2.Lines t0).bind fun z2 =>
    if z0 ≠ z2 then
      some (.inr (.inl false))
    else
      some (.inl (wr (t0 + 1)))
  else
    some (.inr (.inr ()))
noncomputable def r38_Same_0 (t2 : GRound) (s0 : GRound) (t0 : Int) : Option ((Bool) ⊕ (Unit)) :=
  loopO (fun s : Int => r38_Same_0_step t2 s0 s) t0
@[reducible] def r38_Same_0_st (t2 : GRound) (s0 : GRound) (t0 : Int) : PF.St := ⟨[(2, .ptr 102 0), (3, .ptr 103 0), (5, iav t0)], [(103, ⟨true, GRound.cells t2⟩), (102, ⟨true, GRound.cells s0⟩)]⟩
def r38_Same_0_rel (t2 : GRound) (s0 : GRound) (r : ((Bool) ⊕ (Unit))) (q : Ex × PF.St) : Prop := (fun r (q : Ex × PF.St) => Sum.elim (fun r => (fun r (q : Ex × PF.St) => q = (Ex.ret, ⟨[(2, .ptr 102 0), (3, .ptr 103 0), (4, .bool r)], [(103, ⟨true, GRound.cells t2⟩), (102, ⟨true, GRound.cells s0⟩)]⟩)) r q) (fun r => (fun r (q : Ex × PF.St) => q = ((.exit 0), ⟨[(2, .ptr 102 0), (3, .ptr 103 0), (4, .undef)], [(103, ⟨true, GRound.cells t2⟩), (102, ⟨true, GRound.cells s0⟩)]⟩)) r q) r) r q
def r38_Same_0_inv (t2 : GRound) (s0 : GRound) (v : Int) (e : PF.St) : Prop := e = r38_Same_0_st t2 s0 v
theorem r38_Same_0_sim (t2 : GRound) (s0 : GRound) (t0 : Int) (s : PF.St) (hk : keep [2, 3, 5] [102, 103] s = some (r38_Same_0_st t2 s0 t0)) : Sim (r38_Same_0 t2 s0 t0) (Gv (r38_Same_0_rel t2 s0)) (LM.loop ([2, 3, 5], [102, 103], [2, 3, 4], B_r38_Same_0) s) := by
  refine sim_loop M XE (r38_Same_0_inv t2 s0) (r38_Same_0_rel t2 s0) ?_ _ _ _ hk rfl
  clear hk
  rintro S hS hw hw8 R hR t0 env hp he
  change (⟨env, hp⟩ : PF.St) = r38_Same_0_st t2 s0 t0 at he
  cases he
  show Sim (r38_Same_0_step t2 s0 t0) _ _
  unfold r38_Same_0_step
  simp only [hw]
  refine au ?_
  refine Sim.ki hS (m := (List.length s0.Lines : Int)) (by simp) ?_
  refine au (.ite Iff.rfl (fun hc5 => ?_) fun hc5 => ?_)
  · refine au ?_
    refine Sim.ix (by simp) (fun z0 hz0 => ?_)
    refine au ?_
    refine Sim.go (idx_map _ hz0) ?_
    refine au ?_
    refine Sim.ix (by simp) (fun z2 hz2 => ?_)
    refine au ?_
    refine Sim.go (idx_map _ hz2) ?_
    refine au (.ite Iff.rfl (fun hc6 => ?_) fun hc6 => ?_)
    · exact au (.ret ⟨_, rfl, rfl⟩)
    · refine au ?_
      exact Sim.ret ⟨_, _, rfl, rfl, rfl⟩
  · exact au (.ret ⟨_, rfl, rfl⟩)
noncomputable def r38_Same_1_step (t3 : GRound) (s2 : GRound) (o0 : Int) : Option ((Int) ⊕ ((Bool) ⊕ (Unit))) :=
  if o0 < (List.length s2.Got : Int) then
    (idx? s2.Got o0).bind fun z3 =>
    (idx? t3.Got o0).bind fun z4 =>
    (r24_Same z3 z4).bind fun r4 =>
    if (!r4) = true then
      some (.inr (.inl false))
    else
      some (.inl (wr (o0 + 1)))
  else
    some (.inr (.inr ()))
noncomputable def r38_Same_1 (t3 : GRound) (s2 : GRound) (o0 : Int) : Option ((Bool) ⊕ (Unit)) :=
  loopO (fun s : Int => r38_Same_1_step t3 s2 s) o0
@[reducible] def r38_Same_1_st (t3 : GRound) (s2 : GRound) (o0 : Int) : PF.St := ⟨[(2, .ptr 102 0), (3, .ptr 103 0), (6, iav o0)], [(103, ⟨true, GRound.cells t3⟩), (102, ⟨true, GRound.cells s2⟩)]⟩
def r38_Same_1_rel (t3 : GRound) (s2 : GRound) (r : ((Bool) ⊕ (Unit))) (q : Ex × PF.St) : Prop := (fun r (q : Ex × PF.St) => Sum.elim (fun r => (fun r (q : Ex × PF.St) => q = (Ex.ret, ⟨[(4, .bool r)], [(103, ⟨true, GRound.cells t3⟩), (102, ⟨true, GRound.cells s2⟩)]⟩)) r q) (fun r => (fun r (q : Ex × PF.St) => q = ((.exit 2), ⟨[(4, .undef)], [(103, ⟨true, GRound.cells t3⟩), (102, ⟨true, GRound.cells s2⟩)]⟩)) r q) r) r q
def r38_Same_1_inv (t3 : GRound) (s2 : GRound) (v : Int) (e : PF.St) : Prop := e = r38_Same_1_st t3 s2 v
theorem r38_Same_1_sim (t3 : GRound) (s2 : GRound) (o0 : Int) (s : PF.St) (hk : keep [2, 3, 6] [102, 103] s = some (r38_Same_1_st t3 s2 o0)) : Sim (r38_Same_1 t3 s2 o0) (Gv (r38_Same_1_rel t3 s2)) (LM.loop ([2, 3, 6], [102, 103], [4], B_r38_Same_1) s) := by
  refine sim_loop M XE (r38_Same_1_inv t3 s2) (r38_Same_1_rel t3 s2) ?_ _ _ _ hk rfl
  clear hk
  rintro S hS hw hw8 R hR o0 env hp he
  change (⟨env, hp⟩ : PF.St) = r38_Same_1_st t3 s2 o0 at he
  cases he
  show Sim (r38_Same_1_step t3 s2 o0) _ _
  unfold r38_Same_1_step
  simp only [hw]
  refine au ?_
  refine Sim.ki hS (m := (List.length s2.Got : Int)) (by simp) ?_
  refine au (.ite Iff.rfl (fun hc7 => ?_) fun hc7 => ?_)
  · refine au ?_
    refine Sim.ix (by simp) (fun z3 hz3 => ?_)
    refine au ?_
    refine Sim.go (idx_map _ hz3) ?_
    refine au ?_
    refine Sim.ix (by simp) (fun z4 hz4 => ?_)
    refine au ?_
    refine Sim.go (idx_map _ hz4) ?_
    refine au (cE hR (r24_Same_sim _ _) fun r4 => ?_)
    refine au (.iteB (fun hc8 => ?_) fun hc8 => ?_)
    · exact au (.ret ⟨_, rfl, rfl⟩)
    · refine au ?_
      exact Sim.ret ⟨_, _, rfl, rfl, rfl⟩
  · exact au (.ret ⟨_, rfl, rfl⟩)
noncomputable def r38_Same (L0 : GRound) (i0 : GRound) : Option Bool :=
  if L0.Number ≠ i0.Number then
    some false
  else
    if L0.Members ≠ i0.Members then
      some false
    else
      if (List.length L0.Lines : Int) ≠ (List.length i0.Lines : Int) then
        some false
      else
        if (List.length L0.Got : Int) ≠ (List.length i0.Got : Int) then
          some false
        else
          (r38_Same_0 i0 L0 0).bind fun r0 =>
          Sum.elim
            (fun r2 =>
              some r2)
            (fun r3 =>
              (r38_Same_1 i0 L0 0).bind fun r5 =>
              Sum.elim
                (fun r6 =>
                  some r6)
                (fun r7 =>
                  some true)
                r5)
            r0
theorem r38_Same_sim (L0 : GRound) (i0 : GRound) : Sim (r38_Same L0 i0) (Gv fun r q => q = (.bool r, [])) (LM.call n_r38_Same [GRound.av L0, GRound.av i0] []) := by
  unfold r38_Same
  refine sim_evR M XE rfl rfl fun S hS hw hw8 R hR => ?_
  refine au (.ite Iff.rfl (fun hc => ?_) fun hc => ?_)
  · exact au (.ret ⟨_, rfl, rfl⟩)
  · refine au (.ite Iff.rfl (fun hc2 => ?_) fun hc2 => ?_)
    · exact au (.ret ⟨_, rfl, rfl⟩)
    · refine au ?_
      refine Sim.ki hS (m := (List.length L0.Lines : Int)) (by simp) ?_
      refine au ?_
      refine Sim.ki hS (m := (List.length i0.Lines : Int)) (by simp) ?_
      refine au (.ite Iff.rfl (fun hc3 => ?_) fun hc3 => ?_)
      · exact au (.ret ⟨_, rfl, rfl⟩)
      · refine au ?_
        refine Sim.ki hS (m := (List.length L0.Got : Int)) (by simp) ?_
        refine au ?_
        refine Sim.ki hS (m := (List.length i0.Got : Int)) (by simp) ?_
        refine au (.ite Iff.rfl (fun hc4 => ?_) fun hc4 => ?_)
        · exact au (.ret ⟨_, rfl, rfl⟩)
        · refine au ?_
          refine Sim.callL hR (r38_Same_0_sim i0 L0 0 _ rfl) ?_
          rintro r0 q hr
          rcases r0 with r2 | r3
          · cases hr
            exact au (.ret ⟨_, rfl, rfl⟩)
          · cases hr
            refine au ?_
            refine Sim.callL hR (r38_Same_1_sim i0 L0 0 _ rfl) ?_
            rintro r5 q hr
            rcases r5 with r6 | r7
            · cases hr
              exact au (.ret ⟨_, rfl, rfl⟩)
            · cases hr
              exact au (.ret ⟨_, rfl, rfl⟩)
noncomputable def l42_ShowWhole (a0 : GVerdict) (b0 : GVerdict) (c0 : GRound) (d0 : GRound) : Option Bool :=
  (r38_Few c0.Lines c0.Got).bind fun r0 =>
  if (!r0) = true then
    (l42_known).bind fun r2 =>
    some r2
  else
    (r38_Few d0.Lines d0.Got).bind fun r3 =>
    if (!r3) = true then
      (l42_known).bind fun r4 =>
      some r4
    else
      (show_Verdict a0).bind fun r5 =>
      (show_Verdict b0).bind fun r6 =>
      if ((decide (r5 = r6)) == (decide (a0.Ticks = b0.Ticks) && (decide (a0.Last = b0.Last) && (decide (a0.Settled = b0.Settled) && (decide (a0.All = b0.All) && (decide (a0.Cycles = b0.Cycles) && (decide (a0.Faults.a0 = b0.Faults.a0) && (decide (a0.Faults.a1 = b0.Faults.a1) && (decide (a0.Faults.a2 = b0.Faults.a2) && (decide (a0.Faults.a3 = b0.Faults.a3) && (decide (a0.Faults.a4 = b0.Faults.a4) && true))))))))))) = true then
        (show_Round c0).bind fun r7 =>
        (show_Round d0).bind fun r8 =>
        (r38_Same c0 d0).bind fun r9 =>
        if ((decide (r7 = r8)) == r9) = true then
          (l42_known).bind fun r10 =>
          some r10
        else
          some false
      else
        some false
theorem l42_ShowWhole_sim (a0 : GVerdict) (b0 : GVerdict) (c0 : GRound) (d0 : GRound) : Sim (l42_ShowWhole a0 b0 c0 d0) (Gv fun r q => q = (.bool r, [])) (LM.call n_l42_ShowWhole [GVerdict.av a0, GVerdict.av b0, GRound.av c0, GRound.av d0] []) := by
  unfold l42_ShowWhole
  refine sim_evR M XE rfl rfl fun S hS hw hw8 R hR => ?_
  refine au (cE hR (r38_Few_sim _ _) fun r0 => ?_)
  refine au (.iteB (fun hc => ?_) fun hc => ?_)
  · refine au (cE hR (l42_known_sim) fun r2 => ?_)
    exact au (.ret ⟨_, rfl, rfl⟩)
  · refine au (cE hR (r38_Few_sim _ _) fun r3 => ?_)
    refine au (.iteB (fun hc2 => ?_) fun hc2 => ?_)
    · refine au (cE hR (l42_known_sim) fun r4 => ?_)
      exact au (.ret ⟨_, rfl, rfl⟩)
    · refine au (cE hR (show_Verdict_sim _) fun r5 => ?_)
      refine au (cE hR (show_Verdict_sim _) fun r6 => ?_)
      refine au (.iteB (fun hc3 => ?_) fun hc3 => ?_)
      · refine au (cE hR (show_Round_sim _) fun r7 => ?_)
        refine au (cE hR (show_Round_sim _) fun r8 => ?_)
        refine au (cE hR (r38_Same_sim _ _) fun r9 => ?_)
        refine au (.iteB (fun hc4 => ?_) fun hc4 => ?_)
        · refine au (cE hR (l42_known_sim) fun r10 => ?_)
          exact au (.ret ⟨_, rfl, rfl⟩)
        · exact au (.ret ⟨_, rfl, rfl⟩)
      · exact au (.ret ⟨_, rfl, rfl⟩)
end Go.Proofs.YtchbgcbdkhbilaaDoor
