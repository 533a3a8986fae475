/-
  The program's functions as plain functions (printed by a program of mine), each beside the machine's.
-/
import Derived.Test.YtfjlpfjpidikjaaGreatDoorFm
import Derived.Test.YtfjlpfjpidikjaaGreatDoorPFe
set_option linter.unusedVariables false
set_option linter.unusedSimpArgs false
set_option maxRecDepth 100000
set_option maxHeartbeats 4000000
namespace Go.Proofs.YtfjlpfjpidikjaaGreatDoor
open Go.Proofs.PF
noncomputable abbrev LM : MRec := lim M XE
structure Ar13 (α : Type) where
  a0 : α
  a1 : α
  a2 : α
  a3 : α
  a4 : α
  a5 : α
  a6 : α
  a7 : α
  a8 : α
  a9 : α
  a10 : α
  a11 : α
  a12 : α
  deriving DecidableEq, Inhabited
@[reducible] def Ar13.cells {α : Type} (f : α → AV) (x : Ar13 α) : List AV := [f x.a0, f x.a1, f x.a2, f x.a3, f x.a4, f x.a5, f x.a6, f x.a7, f x.a8, f x.a9, f x.a10, f x.a11, f x.a12]
@[reducible] def Ar13.av {α : Type} (f : α → AV) (x : Ar13 α) : AV := .agg [f x.a0, f x.a1, f x.a2, f x.a3, f x.a4, f x.a5, f x.a6, f x.a7, f x.a8, f x.a9, f x.a10, f x.a11, f x.a12]
def Ar13.get? {α : Type} (x : Ar13 α) : Nat → Option α
  | 0 => some x.a0
  | 1 => some x.a1
  | 2 => some x.a2
  | 3 => some x.a3
  | 4 => some x.a4
  | 5 => some x.a5
  | 6 => some x.a6
  | 7 => some x.a7
  | 8 => some x.a8
  | 9 => some x.a9
  | 10 => some x.a10
  | 11 => some x.a11
  | 12 => some x.a12
  | _ => none
def Ar13.set? {α : Type} (x : Ar13 α) (k : Nat) (v : α) : Option (Ar13 α) :=
  match k with
  | 0 => some { x with a0 := v }
  | 1 => some { x with a1 := v }
  | 2 => some { x with a2 := v }
  | 3 => some { x with a3 := v }
  | 4 => some { x with a4 := v }
  | 5 => some { x with a5 := v }
  | 6 => some { x with a6 := v }
  | 7 => some { x with a7 := v }
  | 8 => some { x with a8 := v }
  | 9 => some { x with a9 := v }
  | 10 => some { x with a10 := v }
  | 11 => some { x with a11 := v }
  | 12 => some { x with a12 := v }
  | _ => none
structure GConf where
  N : Int
  F : Int
  D : Int
  Period : Int
  Rate : Int
  Drift : Int
  Offset : Int
  Slot : Int
  Mod : Int
  Fresh : Int
  Table : List Int
  deriving DecidableEq, Inhabited
@[reducible] def GConf.cells (x : GConf) : List AV := [iav x.N, iav x.F, iav x.D, iav x.Period, iav x.Rate, iav x.Drift, iav x.Offset, iav x.Slot, iav x.Mod, iav x.Fresh, lav iav x.Table]
@[reducible] def GConf.av (x : GConf) : AV := .agg [iav x.N, iav x.F, iav x.D, iav x.Period, iav x.Rate, iav x.Drift, iav x.Offset, iav x.Slot, iav x.Mod, iav x.Fresh, lav iav x.Table]
structure GSend where
  From : Int
  To : Int
  Delay : Int
  Bytes : List UInt8
  deriving DecidableEq, Inhabited
@[reducible] def GSend.cells (x : GSend) : List AV := [iav x.From, iav x.To, iav x.Delay, .str x.Bytes]
@[reducible] def GSend.av (x : GSend) : AV := .agg [iav x.From, iav x.To, iav x.Delay, .str x.Bytes]
structure GBurst where
  Node : Int
  Image : List UInt8
  deriving DecidableEq, Inhabited
@[reducible] def GBurst.cells (x : GBurst) : List AV := [iav x.Node, .str x.Image]
@[reducible] def GBurst.av (x : GBurst) : AV := .agg [iav x.Node, .str x.Image]
structure GWrite where
  Node : Int
  Text : List UInt8
  deriving DecidableEq, Inhabited
@[reducible] def GWrite.cells (x : GWrite) : List AV := [iav x.Node, .str x.Text]
@[reducible] def GWrite.av (x : GWrite) : AV := .agg [iav x.Node, .str x.Text]
structure GTick where
  Units : List Int
  Delays : List Int
  Sends : List GSend
  Bursts : List GBurst
  Strays : List GSend
  Writes : List GWrite
  deriving DecidableEq, Inhabited
@[reducible] def GTick.cells (x : GTick) : List AV := [lav iav x.Units, lav iav x.Delays, lav GSend.av x.Sends, lav GBurst.av x.Bursts, lav GSend.av x.Strays, lav GWrite.av x.Writes]
@[reducible] def GTick.av (x : GTick) : AV := .agg [lav iav x.Units, lav iav x.Delays, lav GSend.av x.Sends, lav GBurst.av x.Bursts, lav GSend.av x.Strays, lav GWrite.av x.Writes]
structure GScript where
  Conf : GConf
  Faulty : List Int
  Images : List (List UInt8)
  Ticks : List GTick
  deriving DecidableEq, Inhabited
@[reducible] def GScript.cells (x : GScript) : List AV := [iav x.Conf.N, iav x.Conf.F, iav x.Conf.D, iav x.Conf.Period, iav x.Conf.Rate, iav x.Conf.Drift, iav x.Conf.Offset, iav x.Conf.Slot, iav x.Conf.Mod, iav x.Conf.Fresh, lav iav x.Conf.Table, lav iav x.Faulty, lav sav x.Images, lav GTick.av x.Ticks]
@[reducible] def GScript.av (x : GScript) : AV := .agg [iav x.Conf.N, iav x.Conf.F, iav x.Conf.D, iav x.Conf.Period, iav x.Conf.Rate, iav x.Conf.Drift, iav x.Conf.Offset, iav x.Conf.Slot, iav x.Conf.Mod, iav x.Conf.Fresh, lav iav x.Conf.Table, lav iav x.Faulty, lav sav x.Images, lav GTick.av x.Ticks]
structure Gconf_span where
  f_low : Int
  f_high : Int
  deriving DecidableEq, Inhabited
@[reducible] def Gconf_span.cells (x : Gconf_span) : List AV := [iav x.f_low, iav x.f_high]
@[reducible] def Gconf_span.av (x : Gconf_span) : AV := .agg [iav x.f_low, iav x.f_high]
structure Gs_nI_spanG where
  f_n : Int
  f_span : Gconf_span
  deriving DecidableEq, Inhabited
@[reducible] def Gs_nI_spanG.cells (x : Gs_nI_spanG) : List AV := [iav x.f_n, iav x.f_span.f_low, iav x.f_span.f_high]
@[reducible] def Gs_nI_spanG.av (x : Gs_nI_spanG) : AV := .agg [iav x.f_n, iav x.f_span.f_low, iav x.f_span.f_high]
structure Gbound_plain where
  Conf : GConf
  deriving DecidableEq, Inhabited
@[reducible] def Gbound_plain.cells (x : Gbound_plain) : List AV := [iav x.Conf.N, iav x.Conf.F, iav x.Conf.D, iav x.Conf.Period, iav x.Conf.Rate, iav x.Conf.Drift, iav x.Conf.Offset, iav x.Conf.Slot, iav x.Conf.Mod, iav x.Conf.Fresh, lav iav x.Conf.Table]
@[reducible] def Gbound_plain.av (x : Gbound_plain) : AV := .agg [iav x.Conf.N, iav x.Conf.F, iav x.Conf.D, iav x.Conf.Period, iav x.Conf.Rate, iav x.Conf.Drift, iav x.Conf.Offset, iav x.Conf.Slot, iav x.Conf.Mod, iav x.Conf.Fresh, lav iav x.Conf.Table]
structure Gbound_sound where
  f_plain : Gbound_plain
  f_wide : Int
  deriving DecidableEq, Inhabited
@[reducible] def Gbound_sound.cells (x : Gbound_sound) : List AV := [iav x.f_plain.Conf.N, iav x.f_plain.Conf.F, iav x.f_plain.Conf.D, iav x.f_plain.Conf.Period, iav x.f_plain.Conf.Rate, iav x.f_plain.Conf.Drift, iav x.f_plain.Conf.Offset, iav x.f_plain.Conf.Slot, iav x.f_plain.Conf.Mod, iav x.f_plain.Conf.Fresh, lav iav x.f_plain.Conf.Table, iav x.f_wide]
@[reducible] def Gbound_sound.av (x : Gbound_sound) : AV := .agg [iav x.f_plain.Conf.N, iav x.f_plain.Conf.F, iav x.f_plain.Conf.D, iav x.f_plain.Conf.Period, iav x.f_plain.Conf.Rate, iav x.f_plain.Conf.Drift, iav x.f_plain.Conf.Offset, iav x.f_plain.Conf.Slot, iav x.f_plain.Conf.Mod, iav x.f_plain.Conf.Fresh, lav iav x.f_plain.Conf.Table, iav x.f_wide]
structure Glines_writer where
  f_out : List Int
  deriving DecidableEq, Inhabited
@[reducible] def Glines_writer.cells (x : Glines_writer) : List AV := [lav u8av x.f_out]
@[reducible] def Glines_writer.av (x : Glines_writer) : AV := .agg [lav u8av x.f_out]
noncomputable def strings_Split (s sep : List UInt8) : Option (List (List UInt8)) := if s.length < 4294967281 ∧ 1 ≤ sep.length then some (Lib.split s sep) else none
theorem strings_Split_sim (s sep : List UInt8) : Sim (strings_Split s sep) (Gv fun r q => q = (lav sav r, [])) (LM.call n_strings_Split [.str s, .str sep] []) := by
  unfold strings_Split
  refine Sim.guard fun h => Sim.ret ⟨(lav sav (Lib.split s sep), []), ?_, rfl⟩
  rw [lim_ext_eq M XE rfl]
  first
  | (show (if s.length < 4294967281 ∧ 1 ≤ sep.length then some (lav sav (Lib.split s sep), ([] : List PF.Obj)) else none) = _; rw [if_pos h])
  | (show (match (if s.length < 4294967281 ∧ 1 ≤ sep.length then some (lav sav (Lib.split s sep), ([] : List PF.Obj)) else none) with
    | some r => some r
    | none => _) = _; rw [if_pos h])
noncomputable def strconv_Itoa (c : Int) : Option (List UInt8) := if -9223372036854775808 ≤ c ∧ c ≤ 9223372036854775807 then some (Lib.itoa c) else none
theorem strconv_Itoa_sim (c : Int) : Sim (strconv_Itoa c) (Gv fun r q => q = (.str r, [])) (LM.call n_strconv_Itoa [.int .i64 c] []) := by
  unfold strconv_Itoa
  refine Sim.guard fun h => Sim.ret ⟨(.str (Lib.itoa c), []), ?_, rfl⟩
  rw [lim_ext_eq M XE rfl]
  first
  | (show (if -9223372036854775808 ≤ c ∧ c ≤ 9223372036854775807 then some (AV.str (Lib.itoa c), ([] : List PF.Obj)) else none) = _; rw [if_pos h])
  | (show (match (if -9223372036854775808 ≤ c ∧ c ≤ 9223372036854775807 then some (AV.str (Lib.itoa c), ([] : List PF.Obj)) else none) with
    | some r => some r
    | none => _) = _; rw [if_pos h])
noncomputable def strings_IndexByte (s : List UInt8) (c : Int) : Option Int := some (Lib.indexByte s c.toNat.toUInt8)
theorem strings_IndexByte_sim (s : List UInt8) (c : Int) : Sim (strings_IndexByte s c) (Gv fun r q => q = (iav r, [])) (LM.call n_strings_IndexByte [.str s, u8av c] []) := by
  unfold strings_IndexByte
  refine Sim.ret ⟨(iav (Lib.indexByte s c.toNat.toUInt8), []), ?_, rfl⟩
  rw [lim_ext_eq M XE rfl]
  rfl
noncomputable def strings_Cut (s sep : List UInt8) : Option (List UInt8 × List UInt8 × Bool) := if s.length < 4294967281 then some (Lib.cut s sep) else none
theorem strings_Cut_sim (s sep : List UInt8) : Sim (strings_Cut s sep) (Gv fun r q => q = (.tup [.str r.1, .str r.2.1, .bool r.2.2], [])) (LM.call n_strings_Cut [.str s, .str sep] []) := by
  unfold strings_Cut
  refine Sim.guard fun h => Sim.ret ⟨(.tup [.str (Lib.cut s sep).1, .str (Lib.cut s sep).2.1, .bool (Lib.cut s sep).2.2], []), ?_, rfl⟩
  rw [lim_ext_eq M XE rfl]
  first
  | (show (if s.length < 4294967281 then some (AV.tup [.str (Lib.cut s sep).1, .str (Lib.cut s sep).2.1, .bool (Lib.cut s sep).2.2], ([] : List PF.Obj)) else none) = _; rw [if_pos h])
  | (show (match (if s.length < 4294967281 then some (AV.tup [.str (Lib.cut s sep).1, .str (Lib.cut s sep).2.1, .bool (Lib.cut s sep).2.2], ([] : List PF.Obj)) else none) with
    | some r => some r
    | none => _) = _; rw [if_pos h])
noncomputable def r33_Few_0_step (s0 : GScript) (t0 : Int) : Option ((Int) ⊕ ((Bool) ⊕ (Unit))) :=
  if t0 < (List.length s0.Images : Int) then
    (idx? s0.Images t0).bind fun z0 =>
    if 16000 < (List.length z0 : Int) then
      some (.inr (.inl false))
    else
      some (.inl (wr (t0 + 1)))
  else
    some (.inr (.inr ()))
noncomputable def r33_Few_0 (s0 : GScript) (t0 : Int) : Option ((Bool) ⊕ (Unit)) :=
  loopO (fun s : Int => r33_Few_0_step s0 s) t0
@[reducible] def r33_Few_0_st (s0 : GScript) (t0 : Int) : PF.St := ⟨[(2, .ept (GScript.cells s0) 0), (5, iav t0)], []⟩
def r33_Few_0_rel (s0 : GScript) (r : ((Bool) ⊕ (Unit))) (q : Ex × PF.St) : Prop := (fun r (q : Ex × PF.St) => Sum.elim (fun r => (fun r (q : Ex × PF.St) => q = (Ex.ret, ⟨[(2, .ept (GScript.cells s0) 0), (4, .bool r)], []⟩)) r q) (fun r => (fun r (q : Ex × PF.St) => q = ((.exit 0), ⟨[(2, .ept (GScript.cells s0) 0), (4, .undef)], []⟩)) r q) r) r q
def r33_Few_0_inv (s0 : GScript) (v : Int) (e : PF.St) : Prop := e = r33_Few_0_st s0 v
theorem r33_Few_0_sim (s0 : GScript) (t0 : Int) (s : PF.St) (hk : keep [2, 5] [] s = some (r33_Few_0_st s0 t0)) : Sim (r33_Few_0 s0 t0) (Gv (r33_Few_0_rel s0)) (LM.loop ([2, 5], [], [2, 4], B_r33_Few_0) s) := by
  refine sim_loop M XE (r33_Few_0_inv s0) (r33_Few_0_rel s0) ?_ _ _ _ hk rfl
  clear hk
  rintro S hS hw hw8 R hR t0 env hp he
  change (⟨env, hp⟩ : PF.St) = r33_Few_0_st s0 t0 at he
  cases he
  show Sim (r33_Few_0_step s0 t0) _ _
  unfold r33_Few_0_step
  simp only [hw]
  refine au ?_
  refine Sim.ki hS (m := (List.length s0.Images : Int)) (by simp) ?_
  refine au (.ite Iff.rfl (fun hc5 => ?_) fun hc5 => ?_)
  · refine au ?_
    refine Sim.ix (by simp) (fun z0 hz0 => ?_)
    refine au ?_
    refine Sim.go (idx_map _ hz0) ?_
    refine au (.ite Iff.rfl (fun hc6 => ?_) fun hc6 => ?_)
    · exact au (.ret ⟨_, rfl, rfl⟩)
    · refine au ?_
      exact Sim.ret ⟨_, _, rfl, rfl, rfl⟩
  · exact au (.ret ⟨_, rfl, rfl⟩)
noncomputable def r33_Few_1_step (s3 : GScript) (o2 : Int) (x0 : List GBurst) (x2 : Int) (A0 : GTick) (x3 : Int) : Option ((Int) ⊕ ((Bool) ⊕ (Unit))) :=
  if x3 < x2 then
    (idx? x0 x3).bind fun z3 =>
    if 16000 < (List.length z3.Image : Int) then
      some (.inr (.inl false))
    else
      some (.inl (wr (x3 + 1)))
  else
    some (.inr (.inr ()))
noncomputable def r33_Few_1 (s3 : GScript) (o2 : Int) (x0 : List GBurst) (x2 : Int) (A0 : GTick) (x3 : Int) : Option ((Bool) ⊕ (Unit)) :=
  loopO (fun s : Int => r33_Few_1_step s3 o2 x0 x2 A0 s) x3
@[reducible] def r33_Few_1_st (s3 : GScript) (o2 : Int) (x0 : List GBurst) (x2 : Int) (A0 : GTick) (x3 : Int) (g0 : Gr) (g2 : Gr) : PF.St := ⟨[(2, .ept (GScript.cells s3) 0), (6, iav o2), (95, lav GBurst.av x0), (96, iav x2), (97, iav x3)], [(107, ⟨true, [.lst g0 (List.map iav A0.Units), .lst g2 (List.map iav A0.Delays), lav GSend.av A0.Sends, lav GBurst.av A0.Bursts, lav GSend.av A0.Strays, lav GWrite.av A0.Writes]⟩)]⟩
def r33_Few_1_rel (s3 : GScript) (o2 : Int) (x0 : List GBurst) (x2 : Int) (A0 : GTick) (r : ((Bool) ⊕ (Unit))) (q : Ex × PF.St) : Prop := (fun r (q : Ex × PF.St) => Sum.elim (fun r => (fun r (q : Ex × PF.St) => ∃ g0', ∃ g1', q = (Ex.ret, ⟨[(2, .ept (GScript.cells s3) 0), (4, .bool r), (6, iav o2)], [(107, ⟨true, [.lst g0' (List.map iav A0.Units), .lst g1' (List.map iav A0.Delays), lav GSend.av A0.Sends, lav GBurst.av A0.Bursts, lav GSend.av A0.Strays, lav GWrite.av A0.Writes]⟩)]⟩)) r q) (fun r => (fun r (q : Ex × PF.St) => ∃ g0', ∃ g1', q = ((.exit 4), ⟨[(2, .ept (GScript.cells s3) 0), (4, .undef), (6, iav o2)], [(107, ⟨true, [.lst g0' (List.map iav A0.Units), .lst g1' (List.map iav A0.Delays), lav GSend.av A0.Sends, lav GBurst.av A0.Bursts, lav GSend.av A0.Strays, lav GWrite.av A0.Writes]⟩)]⟩)) r q) r) r q
def r33_Few_1_inv (s3 : GScript) (o2 : Int) (x0 : List GBurst) (x2 : Int) (A0 : GTick) (v : Int) (e : PF.St) : Prop := ∃ g0, ∃ g2, e = r33_Few_1_st s3 o2 x0 x2 A0 v g0 g2
theorem r33_Few_1_sim (s3 : GScript) (o2 : Int) (x0 : List GBurst) (x2 : Int) (A0 : GTick) (x3 : Int) (g0 : Gr) (g2 : Gr) (s : PF.St) (hk : keep [2, 6, 95, 96, 97] [107] s = some (r33_Few_1_st s3 o2 x0 x2 A0 x3 g0 g2)) : Sim (r33_Few_1 s3 o2 x0 x2 A0 x3) (Gv (r33_Few_1_rel s3 o2 x0 x2 A0)) (LM.loop ([2, 6, 95, 96, 97], [107], [2, 4, 6], B_r33_Few_1) s) := by
  refine sim_loop M XE (r33_Few_1_inv s3 o2 x0 x2 A0) (r33_Few_1_rel s3 o2 x0 x2 A0) ?_ _ _ _ hk ⟨g0, g2, rfl⟩
  clear hk
  rintro S hS hw hw8 R hR x3 env hp ⟨g0, g2, he⟩
  change (⟨env, hp⟩ : PF.St) = r33_Few_1_st s3 o2 x0 x2 A0 x3 g0 g2 at he
  cases he
  show Sim (r33_Few_1_step s3 o2 x0 x2 A0 x3) _ _
  unfold r33_Few_1_step
  simp only [hw]
  refine au (.ite Iff.rfl (fun hc14 => ?_) fun hc14 => ?_)
  · refine au ?_
    refine Sim.ix (by simp) (fun z3 hz3 => ?_)
    refine au ?_
    refine Sim.go (idx_map _ hz3) ?_
    refine au (.ite Iff.rfl (fun hc15 => ?_) fun hc15 => ?_)
    · refine au ?_
      exact Sim.ret ⟨_, rfl, ⟨_, _, rfl⟩⟩
    · refine au ?_
      exact Sim.ret ⟨_, _, rfl, rfl, ⟨_, _, rfl⟩⟩
  · refine au ?_
    exact Sim.ret ⟨_, rfl, ⟨_, _, rfl⟩⟩
noncomputable def r33_Few_2_step (s2 : GScript) (o0 : Int) : Option ((Int) ⊕ ((Bool) ⊕ (Unit))) :=
  if o0 < (List.length s2.Ticks : Int) then
    (idx? s2.Ticks o0).bind fun z2 =>
    if 100 < (List.length z2.Units : Int) then
      some (.inr (.inl false))
    else
      if 400 < (List.length z2.Delays : Int) then
        some (.inr (.inl false))
      else
        if 100 < (List.length z2.Sends : Int) then
          some (.inr (.inl false))
        else
          if 100 < (List.length z2.Bursts : Int) then
            some (.inr (.inl false))
          else
            if 100 < (List.length z2.Strays : Int) then
              some (.inr (.inl false))
            else
              if 100 < (List.length z2.Writes : Int) then
                some (.inr (.inl false))
              else
                (r33_Few_1 s2 o0 z2.Bursts (List.length z2.Bursts : Int) z2 0).bind fun r4 =>
                Sum.elim
                  (fun r5 =>
                    some (.inr (.inl r5)))
                  (fun r6 =>
                    some (.inl (wr (o0 + 1))))
                  r4
  else
    some (.inr (.inr ()))
noncomputable def r33_Few_2 (s2 : GScript) (o0 : Int) : Option ((Bool) ⊕ (Unit)) :=
  loopO (fun s : Int => r33_Few_2_step s2 s) o0
@[reducible] def r33_Few_2_st (s2 : GScript) (o0 : Int) : PF.St := ⟨[(2, .ept (GScript.cells s2) 0), (6, iav o0)], []⟩
def r33_Few_2_rel (s2 : GScript) (r : ((Bool) ⊕ (Unit))) (q : Ex × PF.St) : Prop := (fun r (q : Ex × PF.St) => Sum.elim (fun r => (fun r (q : Ex × PF.St) => q = (Ex.ret, ⟨[(4, .bool r)], []⟩)) r q) (fun r => (fun r (q : Ex × PF.St) => q = ((.exit 2), ⟨[(4, .undef)], []⟩)) r q) r) r q
def r33_Few_2_inv (s2 : GScript) (v : Int) (e : PF.St) : Prop := e = r33_Few_2_st s2 v
theorem r33_Few_2_sim (s2 : GScript) (o0 : Int) (s : PF.St) (hk : keep [2, 6] [] s = some (r33_Few_2_st s2 o0)) : Sim (r33_Few_2 s2 o0) (Gv (r33_Few_2_rel s2)) (LM.loop ([2, 6], [], [4], B_r33_Few_2) s) := by
  refine sim_loop M XE (r33_Few_2_inv s2) (r33_Few_2_rel s2) ?_ _ _ _ hk rfl
  clear hk
  rintro S hS hw hw8 R hR o0 env hp he
  change (⟨env, hp⟩ : PF.St) = r33_Few_2_st s2 o0 at he
  cases he
  show Sim (r33_Few_2_step s2 o0) _ _
  unfold r33_Few_2_step
  simp only [hw]
  refine au ?_
  refine Sim.ki hS (m := (List.length s2.Ticks : Int)) (by simp) ?_
  refine au (.ite Iff.rfl (fun hc7 => ?_) fun hc7 => ?_)
  · refine au ?_
    refine Sim.ix (by simp) (fun z2 hz2 => ?_)
    refine au ?_
    refine Sim.go (idx_map _ hz2) ?_
    refine au ?_
    refine Sim.ki hS (m := (List.length z2.Units : Int)) (by simp) ?_
    refine au (.ite Iff.rfl (fun hc8 => ?_) fun hc8 => ?_)
    · exact au (.ret ⟨_, rfl, rfl⟩)
    · refine au ?_
      refine Sim.ki hS (m := (List.length z2.Delays : Int)) (by simp) ?_
      refine au (.ite Iff.rfl (fun hc9 => ?_) fun hc9 => ?_)
      · exact au (.ret ⟨_, rfl, rfl⟩)
      · refine au ?_
        refine Sim.ki hS (m := (List.length z2.Sends : Int)) (by simp) ?_
        refine au (.ite Iff.rfl (fun hc10 => ?_) fun hc10 => ?_)
        · exact au (.ret ⟨_, rfl, rfl⟩)
        · refine au ?_
          refine Sim.ki hS (m := (List.length z2.Bursts : Int)) (by simp) ?_
          refine au (.ite Iff.rfl (fun hc11 => ?_) fun hc11 => ?_)
          · exact au (.ret ⟨_, rfl, rfl⟩)
          · refine au ?_
            refine Sim.ki hS (m := (List.length z2.Strays : Int)) (by simp) ?_
            refine au (.ite Iff.rfl (fun hc12 => ?_) fun hc12 => ?_)
            · exact au (.ret ⟨_, rfl, rfl⟩)
            · refine au ?_
              refine Sim.ki hS (m := (List.length z2.Writes : Int)) (by simp) ?_
              refine au (.ite Iff.rfl (fun hc13 => ?_) fun hc13 => ?_)
              · exact au (.ret ⟨_, rfl, rfl⟩)
              · refine au ?_
                refine Sim.ki hS (m := (List.length z2.Bursts : Int)) (by simp) ?_
                refine au ?_
                refine Sim.callL hR (r33_Few_1_sim s2 o0 z2.Bursts (List.length z2.Bursts : Int) z2 0 .no .no _ rfl) ?_
                rintro r4 q hr
                rcases r4 with r5 | r6
                · obtain ⟨g3, g4, rfl⟩ := hr
                  exact au (.ret ⟨_, rfl, rfl⟩)
                · obtain ⟨g5, g6, rfl⟩ := hr
                  refine au ?_
                  exact Sim.ret ⟨_, _, rfl, rfl, rfl⟩
  · exact au (.ret ⟨_, rfl, rfl⟩)
noncomputable def r33_Few (L0 : GScript) (i0 : Int) : Option Bool :=
  if i0 < (List.length L0.Ticks : Int) then
    some false
  else
    if 100 < (List.length L0.Conf.Table : Int) then
      some false
    else
      if 100 < (List.length L0.Faulty : Int) then
        some false
      else
        if 100 < (List.length L0.Images : Int) then
          some false
        else
          (r33_Few_0 L0 0).bind fun r0 =>
          Sum.elim
            (fun r2 =>
              some r2)
            (fun r3 =>
              (r33_Few_2 L0 0).bind fun r7 =>
              Sum.elim
                (fun r8 =>
                  some r8)
                (fun r9 =>
                  some true)
                r7)
            r0
theorem r33_Few_sim (L0 : GScript) (i0 : Int) : Sim (r33_Few L0 i0) (Gv fun r q => q = (.bool r, [])) (LM.call n_r33_Few [GScript.av L0, iav i0] []) := by
  unfold r33_Few
  refine sim_evR M XE rfl rfl fun S hS hw hw8 R hR => ?_
  refine au ?_
  refine Sim.ki hS (m := (List.length L0.Ticks : Int)) (by simp) ?_
  refine au (.ite Iff.rfl (fun hc => ?_) fun hc => ?_)
  · exact au (.ret ⟨_, rfl, rfl⟩)
  · refine au ?_
    refine Sim.ki hS (m := (List.length L0.Conf.Table : Int)) (by simp) ?_
    refine au (.ite Iff.rfl (fun hc2 => ?_) fun hc2 => ?_)
    · exact au (.ret ⟨_, rfl, rfl⟩)
    · refine au ?_
      refine Sim.ki hS (m := (List.length L0.Faulty : Int)) (by simp) ?_
      refine au (.ite Iff.rfl (fun hc3 => ?_) fun hc3 => ?_)
      · exact au (.ret ⟨_, rfl, rfl⟩)
      · refine au ?_
        refine Sim.ki hS (m := (List.length L0.Images : Int)) (by simp) ?_
        refine au (.ite Iff.rfl (fun hc4 => ?_) fun hc4 => ?_)
        · exact au (.ret ⟨_, rfl, rfl⟩)
        · refine au ?_
          refine Sim.callL hR (r33_Few_0_sim L0 0 _ rfl) ?_
          rintro r0 q hr
          rcases r0 with r2 | r3
          · cases hr
            exact au (.ret ⟨_, rfl, rfl⟩)
          · cases hr
            refine au ?_
            refine Sim.callL hR (r33_Few_2_sim L0 0 _ rfl) ?_
            rintro r7 q hr
            rcases r7 with r8 | r9
            · cases hr
              exact au (.ret ⟨_, rfl, rfl⟩)
            · cases hr
              exact au (.ret ⟨_, rfl, rfl⟩)
def l40_known : Option Bool := some true
theorem l40_known_sim : Sim l40_known (Gv fun r q => q = (.bool r, [])) (LM.call n_l40_known [] []) := Sim.ret ⟨_, (lim_call M XE).2 ⟨400, by kernel_rfl⟩, rfl⟩
noncomputable def conf_span_has (s0 : Gconf_span) (n0 : Int) : Option Bool :=
  if s0.f_low ≤ n0 then
    some (decide (n0 ≤ s0.f_high))
  else
    some false
theorem conf_span_has_sim (s0 : Gconf_span) (n0 : Int) : Sim (conf_span_has s0 n0) (Gv fun r q => q = (.bool r, [])) (LM.call n_conf_span_has [Gconf_span.av s0, iav n0] []) := by
  unfold conf_span_has
  refine sim_evR M XE rfl rfl fun S hS hw hw8 R hR => ?_
  refine au (.ite Iff.rfl (fun hc => ?_) fun hc => ?_)
  · exact au (.ret ⟨_, rfl, rfl⟩)
  · exact au (.ret ⟨_, rfl, rfl⟩)
noncomputable def conf_nodes (c0 : GConf) : Option Bool :=
  (conf_span_has (Gconf_span.mk 4 13) c0.N).bind fun r0 =>
  if r0 = true then
    (conf_span_has (Gconf_span.mk 0 4) c0.F).bind fun r2 =>
    if r2 = true then
      some (decide ((wr (3 * c0.F)) < c0.N))
    else
      some false
  else
    some false
theorem conf_nodes_sim (c0 : GConf) : Sim (conf_nodes c0) (Gv fun r q => q = (.bool r, [])) (LM.call n_conf_nodes [GConf.av c0] []) := by
  unfold conf_nodes
  refine sim_evR M XE rfl rfl fun S hS hw hw8 R hR => ?_
  simp only [hw]
  refine au (cE hR (conf_span_has_sim _ _) fun r0 => ?_)
  refine au (.iteB (fun hc => ?_) fun hc => ?_)
  · refine au (cE hR (conf_span_has_sim _ _) fun r2 => ?_)
    refine au (.iteB (fun hc2 => ?_) fun hc2 => ?_)
    · exact au (.ret ⟨_, rfl, rfl⟩)
    · exact au (.ret ⟨_, rfl, rfl⟩)
  · exact au (.ret ⟨_, rfl, rfl⟩)
noncomputable def conf_numbers_0_step (x0 : List Gs_nI_spanG) (x2 : Int) (x3 : Int) : Option ((Int) ⊕ ((Bool) ⊕ (Unit))) :=
  if x3 < x2 then
    (idx? x0 x3).bind fun z0 =>
    (conf_span_has z0.f_span z0.f_n).bind fun r0 =>
    if (!r0) = true then
      some (.inr (.inl false))
    else
      some (.inl (wr (x3 + 1)))
  else
    some (.inr (.inr ()))
noncomputable def conf_numbers_0 (x0 : List Gs_nI_spanG) (x2 : Int) (x3 : Int) : Option ((Bool) ⊕ (Unit)) :=
  loopO (fun s : Int => conf_numbers_0_step x0 x2 s) x3
@[reducible] def conf_numbers_0_st (x0 : List Gs_nI_spanG) (x2 : Int) (x3 : Int) (g0 : Gr) : PF.St := ⟨[(44, .lst g0 (List.map Gs_nI_spanG.av x0)), (45, iav x2), (46, iav x3)], []⟩
def conf_numbers_0_rel (x0 : List Gs_nI_spanG) (x2 : Int) (r : ((Bool) ⊕ (Unit))) (q : Ex × PF.St) : Prop := (fun r (q : Ex × PF.St) => Sum.elim (fun r => (fun r (q : Ex × PF.St) => q = (Ex.ret, ⟨[(2, .bool r)], []⟩)) r q) (fun r => (fun r (q : Ex × PF.St) => q = ((.exit 0), ⟨[(2, .undef)], []⟩)) r q) r) r q
def conf_numbers_0_inv (x0 : List Gs_nI_spanG) (x2 : Int) (v : Int) (e : PF.St) : Prop := ∃ g0, e = conf_numbers_0_st x0 x2 v g0 ∧ Mg 3 g0
theorem conf_numbers_0_sim (x0 : List Gs_nI_spanG) (x2 : Int) (x3 : Int) (g0 : Gr) (hg0 : Mg 3 g0) (s : PF.St) (hk : keep [44, 45, 46] [] s = some (conf_numbers_0_st x0 x2 x3 g0)) : Sim (conf_numbers_0 x0 x2 x3) (Gv (conf_numbers_0_rel x0 x2)) (LM.loop ([44, 45, 46], [], [2], B_conf_numbers_0) s) := by
  refine sim_loop M XE (conf_numbers_0_inv x0 x2) (conf_numbers_0_rel x0 x2) ?_ _ _ _ hk ⟨g0, rfl, hg0⟩
  clear hk hg0
  rintro S hS hw hw8 R hR x3 env hp ⟨g0, he, hg0⟩
  change (⟨env, hp⟩ : PF.St) = conf_numbers_0_st x0 x2 x3 g0 at he
  cases he
  show Sim (conf_numbers_0_step x0 x2 x3) _ _
  unfold conf_numbers_0_step
  simp only [hw]
  refine au (.ite Iff.rfl (fun hc => ?_) fun hc => ?_)
  · refine au ?_
    refine Sim.ix (by simp) (fun z0 hz0 => ?_)
    refine au ?_
    refine Sim.go (idx_map _ hz0) ?_
    refine au (cE hR (conf_span_has_sim _ _) fun r0 => ?_)
    refine au (.iteB (fun hc2 => ?_) fun hc2 => ?_)
    · exact au (.ret ⟨_, rfl, rfl⟩)
    · refine au ?_
      exact Sim.ret ⟨_, _, rfl, rfl, ⟨_, rfl, hg0⟩⟩
  · exact au (.ret ⟨_, rfl, rfl⟩)
noncomputable def conf_numbers (c0 : GConf) : Option Bool :=
  (conf_numbers_0 [(Gs_nI_spanG.mk c0.Period (Gconf_span.mk (wr ((wr ((wr (6 * (wr (c0.F + 1)))) * c0.D)) + 1)) 400)), (Gs_nI_spanG.mk c0.Rate (Gconf_span.mk 1 64)), (Gs_nI_spanG.mk c0.Drift (Gconf_span.mk 0 (wr (c0.Rate - 1)))), (Gs_nI_spanG.mk c0.Offset (Gconf_span.mk 0 30000)), (Gs_nI_spanG.mk c0.Slot (Gconf_span.mk 1 30000)), (Gs_nI_spanG.mk c0.Mod (Gconf_span.mk 2 250)), (Gs_nI_spanG.mk c0.Fresh (Gconf_span.mk 1 100))] (List.length [(Gs_nI_spanG.mk c0.Period (Gconf_span.mk (wr ((wr ((wr (6 * (wr (c0.F + 1)))) * c0.D)) + 1)) 400)), (Gs_nI_spanG.mk c0.Rate (Gconf_span.mk 1 64)), (Gs_nI_spanG.mk c0.Drift (Gconf_span.mk 0 (wr (c0.Rate - 1)))), (Gs_nI_spanG.mk c0.Offset (Gconf_span.mk 0 30000)), (Gs_nI_spanG.mk c0.Slot (Gconf_span.mk 1 30000)), (Gs_nI_spanG.mk c0.Mod (Gconf_span.mk 2 250)), (Gs_nI_spanG.mk c0.Fresh (Gconf_span.mk 1 100))] : Int) 0).bind fun r2 =>
  Sum.elim
    (fun r3 =>
      some r3)
    (fun r4 =>
      some true)
    r2
theorem conf_numbers_sim (c0 : GConf) : Sim (conf_numbers c0) (Gv fun r q => q = (.bool r, [])) (LM.call n_conf_numbers [GConf.av c0] []) := by
  unfold conf_numbers
  refine sim_evR M XE rfl rfl fun S hS hw hw8 R hR => ?_
  simp only [hw]
  refine au ?_
  refine Sim.kl hS (ys := List.map Gs_nI_spanG.av [(Gs_nI_spanG.mk c0.Period (Gconf_span.mk (S.wr ((S.wr ((S.wr (6 * (S.wr (c0.F + 1)))) * c0.D)) + 1)) 400)), (Gs_nI_spanG.mk c0.Rate (Gconf_span.mk 1 64)), (Gs_nI_spanG.mk c0.Drift (Gconf_span.mk 0 (S.wr (c0.Rate - 1)))), (Gs_nI_spanG.mk c0.Offset (Gconf_span.mk 0 30000)), (Gs_nI_spanG.mk c0.Slot (Gconf_span.mk 1 30000)), (Gs_nI_spanG.mk c0.Mod (Gconf_span.mk 2 250)), (Gs_nI_spanG.mk c0.Fresh (Gconf_span.mk 1 100))]) rfl ?_
  refine au ?_
  refine Sim.ki hS (m := (List.length [(Gs_nI_spanG.mk c0.Period (Gconf_span.mk (S.wr ((S.wr ((S.wr (6 * (S.wr (c0.F + 1)))) * c0.D)) + 1)) 400)), (Gs_nI_spanG.mk c0.Rate (Gconf_span.mk 1 64)), (Gs_nI_spanG.mk c0.Drift (Gconf_span.mk 0 (S.wr (c0.Rate - 1)))), (Gs_nI_spanG.mk c0.Offset (Gconf_span.mk 0 30000)), (Gs_nI_spanG.mk c0.Slot (Gconf_span.mk 1 30000)), (Gs_nI_spanG.mk c0.Mod (Gconf_span.mk 2 250)), (Gs_nI_spanG.mk c0.Fresh (Gconf_span.mk 1 100))] : Int)) (by simp) ?_
  refine au ?_
  refine Sim.callL hR (conf_numbers_0_sim [(Gs_nI_spanG.mk c0.Period (Gconf_span.mk (S.wr ((S.wr ((S.wr (6 * (S.wr (c0.F + 1)))) * c0.D)) + 1)) 400)), (Gs_nI_spanG.mk c0.Rate (Gconf_span.mk 1 64)), (Gs_nI_spanG.mk c0.Drift (Gconf_span.mk 0 (S.wr (c0.Rate - 1)))), (Gs_nI_spanG.mk c0.Offset (Gconf_span.mk 0 30000)), (Gs_nI_spanG.mk c0.Slot (Gconf_span.mk 1 30000)), (Gs_nI_spanG.mk c0.Mod (Gconf_span.mk 2 250)), (Gs_nI_spanG.mk c0.Fresh (Gconf_span.mk 1 100))] (List.length [(Gs_nI_spanG.mk c0.Period (Gconf_span.mk (S.wr ((S.wr ((S.wr (6 * (S.wr (c0.F + 1)))) * c0.D)) + 1)) 400)), (Gs_nI_spanG.mk c0.Rate (Gconf_span.mk 1 64)), (Gs_nI_spanG.mk c0.Drift (Gconf_span.mk 0 (S.wr (c0.Rate - 1)))), (Gs_nI_spanG.mk c0.Offset (Gconf_span.mk 0 30000)), (Gs_nI_spanG.mk c0.Slot (Gconf_span.mk 1 30000)), (Gs_nI_spanG.mk c0.Mod (Gconf_span.mk 2 250)), (Gs_nI_spanG.mk c0.Fresh (Gconf_span.mk 1 100))] : Int) 0 .full Mg.full _ rfl) ?_
  rintro r2 q hr
  rcases r2 with r3 | r4
  · cases hr
    exact au (.ret ⟨_, rfl, rfl⟩)
  · cases hr
    exact au (.ret ⟨_, rfl, rfl⟩)
noncomputable def conf_table_0_step (c2 : GConf) (x0 : List Int) (x2 : Int) (slots : Gconf_span) (x3 : Int) (owns : Ar13 Int) : Option ((Int × (Ar13 Int)) ⊕ ((Bool × (Ar13 Int)) ⊕ ((Ar13 Int)))) :=
  if x3 < x2 then
    (idx? x0 x3).bind fun z0 =>
    if z0 < 0 then
      some (.inr (.inl (false, owns)))
    else
      if c2.N ≤ z0 then
        some (.inr (.inl (false, owns)))
      else
        if 0 ≤ z0 ∧ z0 < (13 : Nat) then
          (Ar13.get? (Ar13.mk owns.a0 owns.a1 owns.a2 owns.a3 owns.a4 owns.a5 owns.a6 owns.a7 owns.a8 owns.a9 owns.a10 owns.a11 owns.a12) (Int.toNat z0)).bind fun z2 =>
          if 0 ≤ z0 ∧ z0 < (13 : Nat) then
            (Ar13.set? owns (Int.toNat z0) (wr (z2 + 1))).bind fun y0 =>
            some (.inl ((wr (x3 + 1)), y0))
          else none
        else none
  else
    some (.inr (.inr owns))
noncomputable def conf_table_0 (c2 : GConf) (x0 : List Int) (x2 : Int) (slots : Gconf_span) (x3 : Int) (owns : Ar13 Int) : Option ((Bool × (Ar13 Int)) ⊕ ((Ar13 Int))) :=
  loopO (fun s : Int × (Ar13 Int) => conf_table_0_step c2 x0 x2 slots s.1 s.2) (x3, owns)
@[reducible] def conf_table_0_st (c2 : GConf) (x0 : List Int) (x2 : Int) (slots : Gconf_span) (x3 : Int) (owns : Ar13 Int) : PF.St := ⟨[(1, .ept (GConf.cells c2) 0), (4, .ptr 104 0), (17, lav iav x0), (18, iav x2), (19, iav x3)], [(104, ⟨true, Ar13.cells iav owns⟩), (103, ⟨true, Gconf_span.cells slots⟩)]⟩
def conf_table_0_rel (c2 : GConf) (x0 : List Int) (x2 : Int) (slots : Gconf_span) (r : ((Bool × (Ar13 Int)) ⊕ ((Ar13 Int)))) (q : Ex × PF.St) : Prop := (fun r (q : Ex × PF.St) => Sum.elim (fun r => (fun r (q : Ex × PF.St) => q = (Ex.ret, ⟨[(1, .ept (GConf.cells c2) 0), (2, .bool r.1), (4, .ptr 104 0)], [(104, ⟨true, Ar13.cells iav r.2⟩), (103, ⟨true, Gconf_span.cells slots⟩)]⟩)) r q) (fun r => (fun r (q : Ex × PF.St) => q = ((.exit 0), ⟨[(1, .ept (GConf.cells c2) 0), (2, .undef), (4, .ptr 104 0)], [(104, ⟨true, Ar13.cells iav r⟩), (103, ⟨true, Gconf_span.cells slots⟩)]⟩)) r q) r) r q
def conf_table_0_inv (c2 : GConf) (x0 : List Int) (x2 : Int) (slots : Gconf_span) (v : Int × (Ar13 Int)) (e : PF.St) : Prop := e = conf_table_0_st c2 x0 x2 slots v.1 v.2
theorem conf_table_0_sim (c2 : GConf) (x0 : List Int) (x2 : Int) (slots : Gconf_span) (x3 : Int) (owns : Ar13 Int) (s : PF.St) (hk : keep [1, 4, 17, 18, 19] [103, 104] s = some (conf_table_0_st c2 x0 x2 slots x3 owns)) : Sim (conf_table_0 c2 x0 x2 slots x3 owns) (Gv (conf_table_0_rel c2 x0 x2 slots)) (LM.loop ([1, 4, 17, 18, 19], [103, 104], [1, 2, 4], B_conf_table_0) s) := by
  refine sim_loop M XE (conf_table_0_inv c2 x0 x2 slots) (conf_table_0_rel c2 x0 x2 slots) ?_ _ _ _ hk rfl
  clear hk
  rintro S hS hw hw8 R hR ⟨x3, owns⟩ env hp he
  change (⟨env, hp⟩ : PF.St) = conf_table_0_st c2 x0 x2 slots x3 owns at he
  cases he
  show Sim (conf_table_0_step c2 x0 x2 slots x3 owns) _ _
  unfold conf_table_0_step
  simp only [hw]
  refine au (.ite Iff.rfl (fun hc2 => ?_) fun hc2 => ?_)
  · refine au ?_
    refine Sim.ix (by simp) (fun z0 hz0 => ?_)
    refine au ?_
    refine Sim.go (idx_map _ hz0) ?_
    refine au (.ite Iff.rfl (fun hc3 => ?_) fun hc3 => ?_)
    · exact au (.ret ⟨_, rfl, rfl⟩)
    · refine au (.ite Iff.rfl (fun hc4 => ?_) fun hc4 => ?_)
      · exact au (.ret ⟨_, rfl, rfl⟩)
      · refine au ?_
        first | refine Sim.ite Iff.rfl (fun hb => ?_) (fun _ => Sim.no) | refine Sim.guard (fun hb => ?_)
        refine au ?_
        refine Sim.opt (f := iav) (by have hb' : (Int.toNat z0) < 13 := (by omega); generalize (Int.toNat z0) = j at hb' ⊢; rcases j with _|_|_|_|_|_|_|_|_|_|_|_|_|j <;> first | rfl | exact absurd hb' (by omega)) (fun z2 _ => ?_)
        refine au ?_
        first | refine Sim.ite Iff.rfl (fun hb2 => ?_) (fun _ => Sim.no) | refine Sim.guard (fun hb2 => ?_)
        refine au ?_
        refine Sim.opt (f := fun y0 => [iav y0.a0, iav y0.a1, iav y0.a2, iav y0.a3, iav y0.a4, iav y0.a5, iav y0.a6, iav y0.a7, iav y0.a8, iav y0.a9, iav y0.a10, iav y0.a11, iav y0.a12]) (by have hb' : (Int.toNat z0) < 13 := (by omega); generalize (Int.toNat z0) = j at hb' ⊢; rcases j with _|_|_|_|_|_|_|_|_|_|_|_|_|j <;> first | rfl | exact absurd hb' (by omega)) (fun y0 _ => ?_)
        refine au ?_
        exact Sim.ret ⟨_, _, rfl, rfl, rfl⟩
  · exact au (.ret ⟨_, rfl, rfl⟩)
noncomputable def conf_table_1_step (len : Nat) (x4 : Int) (owns2 : Ar13 Int) (slots2 : Gconf_span) (x5 : Int) : Option ((Int) ⊕ ((Bool) ⊕ (Unit))) :=
  if x5 < x4 then
    if 0 ≤ x5 ∧ x5 < ((len : Nat) : Int) then
      (Ar13.get? (Ar13.mk owns2.a0 owns2.a1 owns2.a2 owns2.a3 owns2.a4 owns2.a5 owns2.a6 owns2.a7 owns2.a8 owns2.a9 owns2.a10 owns2.a11 owns2.a12) (Int.toNat x5)).bind fun z3 =>
      if z3 = 0 then
        some (.inr (.inl false))
      else
        some (.inl (wr (x5 + 1)))
    else none
  else
    some (.inr (.inr ()))
noncomputable def conf_table_1 (len : Nat) (x4 : Int) (owns2 : Ar13 Int) (slots2 : Gconf_span) (x5 : Int) : Option ((Bool) ⊕ (Unit)) :=
  loopO (fun s : Int => conf_table_1_step len x4 owns2 slots2 s) x5
@[reducible] def conf_table_1_st (len : Nat) (x4 : Int) (owns2 : Ar13 Int) (slots2 : Gconf_span) (x5 : Int) : PF.St := ⟨[(39, .arr 104 0 len 1 false), (40, iav x4), (41, iav x5)], [(104, ⟨true, Ar13.cells iav owns2⟩), (103, ⟨true, Gconf_span.cells slots2⟩)]⟩
def conf_table_1_rel (len : Nat) (x4 : Int) (owns2 : Ar13 Int) (slots2 : Gconf_span) (r : ((Bool) ⊕ (Unit))) (q : Ex × PF.St) : Prop := (fun r (q : Ex × PF.St) => Sum.elim (fun r => (fun r (q : Ex × PF.St) => q = (Ex.ret, ⟨[(2, .bool r)], [(104, ⟨true, Ar13.cells iav owns2⟩), (103, ⟨true, Gconf_span.cells slots2⟩)]⟩)) r q) (fun r => (fun r (q : Ex × PF.St) => q = ((.exit 2), ⟨[(2, .undef)], [(104, ⟨true, Ar13.cells iav owns2⟩), (103, ⟨true, Gconf_span.cells slots2⟩)]⟩)) r q) r) r q
def conf_table_1_inv (len : Nat) (x4 : Int) (owns2 : Ar13 Int) (slots2 : Gconf_span) (v : Int) (e : PF.St) : Prop := e = conf_table_1_st len x4 owns2 slots2 v
theorem conf_table_1_sim (len : Nat) (x4 : Int) (owns2 : Ar13 Int) (slots2 : Gconf_span) (x5 : Int) (s : PF.St) (hk : keep [39, 40, 41] [103, 104] s = some (conf_table_1_st len x4 owns2 slots2 x5)) : Sim (conf_table_1 len x4 owns2 slots2 x5) (Gv (conf_table_1_rel len x4 owns2 slots2)) (LM.loop ([39, 40, 41], [103, 104], [2], B_conf_table_1) s) := by
  refine sim_loop M XE (conf_table_1_inv len x4 owns2 slots2) (conf_table_1_rel len x4 owns2 slots2) ?_ _ _ _ hk rfl
  clear hk
  rintro S hS hw hw8 R hR x5 env hp he
  change (⟨env, hp⟩ : PF.St) = conf_table_1_st len x4 owns2 slots2 x5 at he
  cases he
  show Sim (conf_table_1_step len x4 owns2 slots2 x5) _ _
  unfold conf_table_1_step
  simp only [hw]
  refine au (.ite Iff.rfl (fun hc5 => ?_) fun hc5 => ?_)
  · refine au ?_
    first | refine Sim.ite Iff.rfl (fun _ => ?_) (fun _ => Sim.no) | refine Sim.guard (fun _ => ?_)
    refine au ?_
    refine Sim.opt (f := iav) (by generalize (Int.toNat x5) = j; rcases j with _|_|_|_|_|_|_|_|_|_|_|_|_|j <;> first | rfl | exact (loadC_out (by simp only [List.length_cons, List.length_nil]; omega)).trans rfl | exact (storeC_none _ (by simp) _ _ (by simp only [List.length_cons, List.length_nil]; omega)).trans rfl) (fun z3 _ => ?_)
    refine au (.ite Iff.rfl (fun hc6 => ?_) fun hc6 => ?_)
    · exact au (.ret ⟨_, rfl, rfl⟩)
    · refine au ?_
      exact Sim.ret ⟨_, _, rfl, rfl, rfl⟩
  · exact au (.ret ⟨_, rfl, rfl⟩)
noncomputable def conf_table (c0 : GConf) : Option Bool :=
  (conf_span_has (Gconf_span.mk 1 32) (List.length c0.Table : Int)).bind fun r0 =>
  if (!r0) = true then
    some false
  else
    (conf_table_0 c0 c0.Table (List.length c0.Table : Int) (Gconf_span.mk 1 32) 0 (Ar13.mk 0 0 0 0 0 0 0 0 0 0 0 0 0)).bind fun r2 =>
    Sum.elim
      (fun r3 =>
        some r3.1)
      (fun r4 =>
        if 0 ≤ c0.N ∧ c0.N ≤ (13 : Nat) then
          (conf_table_1 ((Int.toNat c0.N) - 0) ((((Int.toNat c0.N) - 0) : Nat) : Int) r4 (Gconf_span.mk 1 32) 0).bind fun r5 =>
          Sum.elim
            (fun r6 =>
              some r6)
            (fun r7 =>
              some true)
            r5
        else none)
      r2
theorem conf_table_sim (c0 : GConf) : Sim (conf_table c0) (Gv fun r q => q = (.bool r, [])) (LM.call n_conf_table [GConf.av c0] []) := by
  unfold conf_table
  refine sim_evR M XE rfl rfl fun S hS hw hw8 R hR => ?_
  refine au ?_
  refine Sim.ki hS (m := (List.length c0.Table : Int)) (by simp) ?_
  refine au (cE hR (conf_span_has_sim _ _) fun r0 => ?_)
  refine au (.iteB (fun hc => ?_) fun hc => ?_)
  · exact au (.ret ⟨_, rfl, rfl⟩)
  · refine au ?_
    refine Sim.ki hS (m := (List.length c0.Table : Int)) (by simp) ?_
    refine au ?_
    refine Sim.callL hR (conf_table_0_sim c0 c0.Table (List.length c0.Table : Int) (Gconf_span.mk 1 32) 0 (Ar13.mk 0 0 0 0 0 0 0 0 0 0 0 0 0) _ rfl) ?_
    rintro r2 q hr
    rcases r2 with r3 | r4
    · cases hr
      exact au (.ret ⟨_, rfl, rfl⟩)
    · cases hr
      refine au ?_
      first | refine Sim.ite Iff.rfl (fun _ => ?_) (fun _ => Sim.no) | refine Sim.guard (fun _ => ?_)
      refine au ?_
      refine Sim.callL hR (conf_table_1_sim ((Int.toNat c0.N) - 0) ((((Int.toNat c0.N) - 0) : Nat) : Int) r4 (Gconf_span.mk 1 32) 0 _ rfl) ?_
      rintro r5 q hr
      rcases r5 with r6 | r7
      · cases hr
        exact au (.ret ⟨_, rfl, rfl⟩)
      · cases hr
        exact au (.ret ⟨_, rfl, rfl⟩)
noncomputable def conf_Plain (c0 : GConf) : Option Int :=
  (conf_nodes c0).bind fun r0 =>
  if (!r0) = true then
    some 7
  else
    (conf_span_has (Gconf_span.mk 1 4) c0.D).bind fun r2 =>
    if (!r2) = true then
      some 10
    else
      (conf_numbers c0).bind fun r3 =>
      if (!r3) = true then
        some 8
      else
        (conf_table c0).bind fun r4 =>
        if (!r4) = true then
          some 11
        else
          some 0
theorem conf_Plain_sim (c0 : GConf) : Sim (conf_Plain c0) (Gv fun r q => q = (iav r, [])) (LM.call n_conf_Plain [GConf.av c0] []) := by
  unfold conf_Plain
  refine sim_evR M XE rfl rfl fun S hS hw hw8 R hR => ?_
  refine au (cE hR (conf_nodes_sim _) fun r0 => ?_)
  refine au (.iteB (fun hc => ?_) fun hc => ?_)
  · exact au (.ret ⟨_, rfl, rfl⟩)
  · refine au (cE hR (conf_span_has_sim _ _) fun r2 => ?_)
    refine au (.iteB (fun hc2 => ?_) fun hc2 => ?_)
    · exact au (.ret ⟨_, rfl, rfl⟩)
    · refine au (cE hR (conf_numbers_sim _) fun r3 => ?_)
      refine au (.iteB (fun hc3 => ?_) fun hc3 => ?_)
      · exact au (.ret ⟨_, rfl, rfl⟩)
      · refine au (cE hR (conf_table_sim _) fun r4 => ?_)
        refine au (.iteB (fun hc4 => ?_) fun hc4 => ?_)
        · exact au (.ret ⟨_, rfl, rfl⟩)
        · exact au (.ret ⟨_, rfl, rfl⟩)
noncomputable def bound_of (c0 : GConf) : Option (Gbound_plain × Bool) :=
  (conf_Plain c0).bind fun r0 =>
  some ((Gbound_plain.mk c0), (decide (r0 = 0)))
theorem bound_of_sim (c0 : GConf) : Sim (bound_of c0) (Gv fun r q => q = (.tup [Gbound_plain.av r.1, .bool r.2], [])) (LM.call n_bound_of [GConf.av c0] []) := by
  unfold bound_of
  refine sim_evR M XE rfl rfl fun S hS hw hw8 R hR => ?_
  refine au (cE hR (conf_Plain_sim _) fun r0 => ?_)
  exact au (.ret ⟨_, rfl, rfl⟩)
noncomputable def bound_plain_begin (p0 : Gbound_plain) (slot : Int) : Option Int :=
  some (wr (p0.Conf.Offset + (wr (slot * p0.Conf.Slot))))
theorem bound_plain_begin_sim (p0 : Gbound_plain) (slot : Int) : Sim (bound_plain_begin p0 slot) (Gv fun r q => q = (iav r, [])) (LM.call n_bound_plain_begin [Gbound_plain.av p0, iav slot] []) := by
  unfold bound_plain_begin
  refine sim_evR M XE rfl rfl fun S hS hw hw8 R hR => ?_
  simp only [hw]
  exact au (.ret ⟨_, rfl, rfl⟩)
noncomputable def bound_plain_middle (p0 : Gbound_plain) (slot : Int) : Option Int :=
  (bound_plain_begin p0 slot).bind fun r0 =>
  some (wr (r0 + (wr (Int.tdiv p0.Conf.Slot 2))))
theorem bound_plain_middle_sim (p0 : Gbound_plain) (slot : Int) : Sim (bound_plain_middle p0 slot) (Gv fun r q => q = (iav r, [])) (LM.call n_bound_plain_middle [Gbound_plain.av p0, iav slot] []) := by
  unfold bound_plain_middle
  refine sim_evR M XE rfl rfl fun S hS hw hw8 R hR => ?_
  simp only [hw]
  refine au (cE hR (bound_plain_begin_sim _ _) fun r0 => ?_)
  exact au (.ret ⟨_, rfl, rfl⟩)
noncomputable def bound_plain_last (p0 : Gbound_plain) : Option Int :=
  (bound_plain_middle p0 (wr ((List.length p0.Conf.Table : Int) - 1))).bind fun r0 =>
  some r0
theorem bound_plain_last_sim (p0 : Gbound_plain) : Sim (bound_plain_last p0) (Gv fun r q => q = (iav r, [])) (LM.call n_bound_plain_last [Gbound_plain.av p0] []) := by
  unfold bound_plain_last
  refine sim_evR M XE rfl rfl fun S hS hw hw8 R hR => ?_
  simp only [hw]
  refine au ?_
  refine Sim.ki hS (m := (List.length p0.Conf.Table : Int)) (by simp) ?_
  refine au (cE hR (bound_plain_middle_sim _ _) fun r0 => ?_)
  exact au (.ret ⟨_, rfl, rfl⟩)
noncomputable def bound_plain_slowest (p0 : Gbound_plain) : Option Int :=
  some (wr (p0.Conf.Rate - p0.Conf.Drift))
theorem bound_plain_slowest_sim (p0 : Gbound_plain) : Sim (bound_plain_slowest p0) (Gv fun r q => q = (iav r, [])) (LM.call n_bound_plain_slowest [Gbound_plain.av p0] []) := by
  unfold bound_plain_slowest
  refine sim_evR M XE rfl rfl fun S hS hw hw8 R hR => ?_
  simp only [hw]
  exact au (.ret ⟨_, rfl, rfl⟩)
noncomputable def bound_plain_guard (p0 : Gbound_plain) : Option Int :=
  (bound_plain_last p0).bind fun r0 =>
  (bound_plain_slowest p0).bind fun r2 =>
  (bound_plain_slowest p0).bind fun r3 =>
  if r3 = 0 then none else
  some (wr ((wr ((wr (Int.tdiv (wr ((wr ((wr ((wr (2 * p0.Conf.Drift)) * r0)) + r2)) - 1)) r3)) + p0.Conf.Rate)) + (wr ((wr (p0.Conf.D + 1)) * p0.Conf.Drift))))
theorem bound_plain_guard_sim (p0 : Gbound_plain) : Sim (bound_plain_guard p0) (Gv fun r q => q = (iav r, [])) (LM.call n_bound_plain_guard [Gbound_plain.av p0] []) := by
  unfold bound_plain_guard
  refine sim_evR M XE rfl rfl fun S hS hw hw8 R hR => ?_
  simp only [hw]
  refine au (cE hR (bound_plain_last_sim _) fun r0 => ?_)
  refine au (cE hR (bound_plain_slowest_sim _) fun r2 => ?_)
  refine au (cE hR (bound_plain_slowest_sim _) fun r3 => ?_)
  refine au ?_
  refine Sim.ite Iff.rfl (fun _ => Sim.no) (fun hc => ?_)
  exact au (.ret ⟨_, rfl, rfl⟩)
noncomputable def bound_sound_parts (s0 : Gbound_sound) : Option Bool :=
  some (decide ((wr (2 * s0.f_wide)) < s0.f_plain.Conf.Slot))
theorem bound_sound_parts_sim (s0 : Gbound_sound) : Sim (bound_sound_parts s0) (Gv fun r q => q = (.bool r, [])) (LM.call n_bound_sound_parts [Gbound_sound.av s0] []) := by
  unfold bound_sound_parts
  refine sim_evR M XE rfl rfl fun S hS hw hw8 R hR => ?_
  simp only [hw]
  exact au (.ret ⟨_, rfl, rfl⟩)
noncomputable def bound_sound_ends (s0 : Gbound_sound) : Option Bool :=
  (bound_plain_last s0.f_plain).bind fun r0 =>
  (bound_plain_slowest s0.f_plain).bind fun r2 =>
  some (decide ((wr ((wr (r0 + (wr (s0.f_plain.Conf.D * s0.f_plain.Conf.Rate)))) + s0.f_wide)) ≤ (wr ((wr (s0.f_plain.Conf.Period - 1)) * r2))))
theorem bound_sound_ends_sim (s0 : Gbound_sound) : Sim (bound_sound_ends s0) (Gv fun r q => q = (.bool r, [])) (LM.call n_bound_sound_ends [Gbound_sound.av s0] []) := by
  unfold bound_sound_ends
  refine sim_evR M XE rfl rfl fun S hS hw hw8 R hR => ?_
  simp only [hw]
  refine au (cE hR (bound_plain_last_sim _) fun r0 => ?_)
  refine au (cE hR (bound_plain_slowest_sim _) fun r2 => ?_)
  exact au (.ret ⟨_, rfl, rfl⟩)
noncomputable def bound_plain_fastest (p0 : Gbound_plain) : Option Int :=
  some (wr (p0.Conf.Rate + p0.Conf.Drift))
theorem bound_plain_fastest_sim (p0 : Gbound_plain) : Sim (bound_plain_fastest p0) (Gv fun r q => q = (iav r, [])) (LM.call n_bound_plain_fastest [Gbound_plain.av p0] []) := by
  unfold bound_plain_fastest
  refine sim_evR M XE rfl rfl fun S hS hw hw8 R hR => ?_
  simp only [hw]
  exact au (.ret ⟨_, rfl, rfl⟩)
noncomputable def bound_sound_turns (s0 : Gbound_sound) : Option Bool :=
  (bound_plain_fastest s0.f_plain).bind fun r0 =>
  some (decide ((wr (s0.f_plain.Conf.Period * r0)) < 32768))
theorem bound_sound_turns_sim (s0 : Gbound_sound) : Sim (bound_sound_turns s0) (Gv fun r q => q = (.bool r, [])) (LM.call n_bound_sound_turns [Gbound_sound.av s0] []) := by
  unfold bound_sound_turns
  refine sim_evR M XE rfl rfl fun S hS hw hw8 R hR => ?_
  simp only [hw]
  refine au (cE hR (bound_plain_fastest_sim _) fun r0 => ?_)
  exact au (.ret ⟨_, rfl, rfl⟩)
noncomputable def bound_Right (c0 : GConf) : Option Int :=
  (bound_of c0).bind fun r0 =>
  if (!r0.2) = true then
    (conf_Plain c0).bind fun r2 =>
    some r2
  else
    (bound_plain_guard r0.1).bind fun r3 =>
    (bound_sound_parts (Gbound_sound.mk r0.1 r3)).bind fun r4 =>
    if (!r4) = true then
      some 8
    else
      (bound_sound_ends (Gbound_sound.mk r0.1 r3)).bind fun r5 =>
      if (!r5) = true then
        some 8
      else
        (bound_sound_turns (Gbound_sound.mk r0.1 r3)).bind fun r6 =>
        if (!r6) = true then
          some 8
        else
          some 0
theorem bound_Right_sim (c0 : GConf) : Sim (bound_Right c0) (Gv fun r q => q = (iav r, [])) (LM.call n_bound_Right [GConf.av c0] []) := by
  unfold bound_Right
  refine sim_evR M XE rfl rfl fun S hS hw hw8 R hR => ?_
  refine au (cE hR (bound_of_sim _) fun r0 => ?_)
  refine au (.iteB (fun hc => ?_) fun hc => ?_)
  · refine au (cE hR (conf_Plain_sim _) fun r2 => ?_)
    exact au (.ret ⟨_, rfl, rfl⟩)
  · refine au (cE hR (bound_plain_guard_sim _) fun r3 => ?_)
    refine au (cE hR (bound_sound_parts_sim _) fun r4 => ?_)
    refine au (.iteB (fun hc2 => ?_) fun hc2 => ?_)
    · exact au (.ret ⟨_, rfl, rfl⟩)
    · refine au (cE hR (bound_sound_ends_sim _) fun r5 => ?_)
      refine au (.iteB (fun hc3 => ?_) fun hc3 => ?_)
      · exact au (.ret ⟨_, rfl, rfl⟩)
      · refine au (cE hR (bound_sound_turns_sim _) fun r6 => ?_)
        refine au (.iteB (fun hc4 => ?_) fun hc4 => ?_)
        · exact au (.ret ⟨_, rfl, rfl⟩)
        · exact au (.ret ⟨_, rfl, rfl⟩)
noncomputable def num_Clamp (n0 : Int) (low : Int) (high : Int) : Option Int :=
  if n0 < low then
    some low
  else
    if high < low then
      some low
    else
      if high < n0 then
        some high
      else
        some n0
theorem num_Clamp_sim (n0 : Int) (low : Int) (high : Int) : Sim (num_Clamp n0 low high) (Gv fun r q => q = (iav r, [])) (LM.call n_num_Clamp [iav n0, iav low, iav high] []) := by
  unfold num_Clamp
  refine sim_evR M XE rfl rfl fun S hS hw hw8 R hR => ?_
  refine au (.ite Iff.rfl (fun hc => ?_) fun hc => ?_)
  · exact au (.ret ⟨_, rfl, rfl⟩)
  · refine au (.ite Iff.rfl (fun hc2 => ?_) fun hc2 => ?_)
    · exact au (.ret ⟨_, rfl, rfl⟩)
    · refine au (.ite Iff.rfl (fun hc3 => ?_) fun hc3 => ?_)
      · exact au (.ret ⟨_, rfl, rfl⟩)
      · exact au (.ret ⟨_, rfl, rfl⟩)
noncomputable def script_nodes (c0 : GConf) : Option Int :=
  (num_Clamp c0.N 0 13).bind fun r0 =>
  some r0
theorem script_nodes_sim (c0 : GConf) : Sim (script_nodes c0) (Gv fun r q => q = (iav r, [])) (LM.call n_script_nodes [GConf.av c0] []) := by
  unfold script_nodes
  refine sim_evR M XE rfl rfl fun S hS hw hw8 R hR => ?_
  refine au (cE hR (num_Clamp_sim _ _ _) fun r0 => ?_)
  exact au (.ret ⟨_, rfl, rfl⟩)
noncomputable def script_is (c0 : GConf) (n0 : Int) : Option Bool :=
  if 0 ≤ n0 then
    (script_nodes c0).bind fun r0 =>
    some (decide (n0 < r0))
  else
    some false
theorem script_is_sim (c0 : GConf) (n0 : Int) : Sim (script_is c0 n0) (Gv fun r q => q = (.bool r, [])) (LM.call n_script_is [GConf.av c0, iav n0] []) := by
  unfold script_is
  refine sim_evR M XE rfl rfl fun S hS hw hw8 R hR => ?_
  refine au (.ite Iff.rfl (fun hc => ?_) fun hc => ?_)
  · refine au (cE hR (script_nodes_sim _) fun r0 => ?_)
    exact au (.ret ⟨_, rfl, rfl⟩)
  · exact au (.ret ⟨_, rfl, rfl⟩)
noncomputable def slices_Index_int_int_0_step (s2 : List Int) (v2 : Int) (x0 : Int) (x2 : Int) : Option ((Int) ⊕ ((Int) ⊕ (Unit))) :=
  if x2 < x0 then
    (idx? s2 x2).bind fun z0 =>
    if v2 = z0 then
      some (.inr (.inl x2))
    else
      some (.inl (wr (x2 + 1)))
  else
    some (.inr (.inr ()))
noncomputable def slices_Index_int_int_0 (s2 : List Int) (v2 : Int) (x0 : Int) (x2 : Int) : Option ((Int) ⊕ (Unit)) :=
  loopO (fun s : Int => slices_Index_int_int_0_step s2 v2 x0 s) x2
@[reducible] def slices_Index_int_int_0_st (s2 : List Int) (v2 : Int) (x0 : Int) (x2 : Int) : PF.St := ⟨[(0, lav iav s2), (1, iav v2), (7, iav x0), (8, iav x2)], []⟩
def slices_Index_int_int_0_rel (s2 : List Int) (v2 : Int) (x0 : Int) (r : ((Int) ⊕ (Unit))) (q : Ex × PF.St) : Prop := (fun r (q : Ex × PF.St) => Sum.elim (fun r => (fun r (q : Ex × PF.St) => q = (Ex.ret, ⟨[(4, iav r)], []⟩)) r q) (fun r => (fun r (q : Ex × PF.St) => q = ((.exit 0), ⟨[(4, .undef)], []⟩)) r q) r) r q
def slices_Index_int_int_0_inv (s2 : List Int) (v2 : Int) (x0 : Int) (v : Int) (e : PF.St) : Prop := e = slices_Index_int_int_0_st s2 v2 x0 v
theorem slices_Index_int_int_0_sim (s2 : List Int) (v2 : Int) (x0 : Int) (x2 : Int) (s : PF.St) (hk : keep [0, 1, 7, 8] [] s = some (slices_Index_int_int_0_st s2 v2 x0 x2)) : Sim (slices_Index_int_int_0 s2 v2 x0 x2) (Gv (slices_Index_int_int_0_rel s2 v2 x0)) (LM.loop ([0, 1, 7, 8], [], [4], B_slices_Index_int_int_0) s) := by
  refine sim_loop M XE (slices_Index_int_int_0_inv s2 v2 x0) (slices_Index_int_int_0_rel s2 v2 x0) ?_ _ _ _ hk rfl
  clear hk
  rintro S hS hw hw8 R hR x2 env hp he
  change (⟨env, hp⟩ : PF.St) = slices_Index_int_int_0_st s2 v2 x0 x2 at he
  cases he
  show Sim (slices_Index_int_int_0_step s2 v2 x0 x2) _ _
  unfold slices_Index_int_int_0_step
  simp only [hw]
  refine au (.ite Iff.rfl (fun hc => ?_) fun hc => ?_)
  · refine au ?_
    refine Sim.ix (by simp) (fun z0 hz0 => ?_)
    refine au ?_
    refine Sim.go (idx_map _ hz0) ?_
    refine au (.ite Iff.rfl (fun hc2 => ?_) fun hc2 => ?_)
    · exact au (.ret ⟨_, rfl, rfl⟩)
    · refine au ?_
      exact Sim.ret ⟨_, _, rfl, rfl, rfl⟩
  · exact au (.ret ⟨_, rfl, rfl⟩)
noncomputable def slices_Index_int_int (s0 : List Int) (v0 : Int) : Option Int :=
  (slices_Index_int_int_0 s0 v0 (List.length s0 : Int) 0).bind fun r0 =>
  Sum.elim
    (fun r2 =>
      some r2)
    (fun r3 =>
      some (-1))
    r0
theorem slices_Index_int_int_sim (s0 : List Int) (v0 : Int) : Sim (slices_Index_int_int s0 v0) (Gv fun r q => q = (iav r, [])) (LM.call n_slices_Index_int_int [lav iav s0, iav v0] []) := by
  unfold slices_Index_int_int
  refine sim_evR M XE rfl rfl fun S hS hw hw8 R hR => ?_
  refine au ?_
  refine Sim.ki hS (m := (List.length s0 : Int)) (by simp) ?_
  refine au ?_
  refine Sim.callL hR (slices_Index_int_int_0_sim s0 v0 (List.length s0 : Int) 0 _ rfl) ?_
  rintro r0 q hr
  rcases r0 with r2 | r3
  · cases hr
    exact au (.ret ⟨_, rfl, rfl⟩)
  · cases hr
    exact au (.ret ⟨_, rfl, rfl⟩)
noncomputable def slices_Contains_int_int (s0 : List Int) (v0 : Int) : Option Bool :=
  (slices_Index_int_int s0 v0).bind fun r0 =>
  some (decide (0 ≤ r0))
theorem slices_Contains_int_int_sim (s0 : List Int) (v0 : Int) : Sim (slices_Contains_int_int s0 v0) (Gv fun r q => q = (.bool r, [])) (LM.call n_slices_Contains_int_int [lav iav s0, iav v0] []) := by
  unfold slices_Contains_int_int
  refine sim_evR M XE rfl rfl fun S hS hw hw8 R hR => ?_
  refine au (cE hR (slices_Index_int_int_sim _ _) fun r0 => ?_)
  exact au (.ret ⟨_, rfl, rfl⟩)
noncomputable def script_faulty_0_step (s2 : GScript) (x0 : List Int) (x2 : Int) (x3 : Int) : Option ((Int) ⊕ ((Bool) ⊕ (Unit))) :=
  if x3 < x2 then
    (idx? x0 x3).bind fun z0 =>
    (script_is s2.Conf z0).bind fun r0 =>
    if (!r0) = true then
      some (.inr (.inl false))
    else
      if 0 ≤ x3 ∧ x3 ≤ ((List.length s2.Faulty) : Nat) then
        (slices_Contains_int_int (List.take (Int.toNat x3) s2.Faulty) z0).bind fun r2 =>
        if r2 = true then
          some (.inr (.inl false))
        else
          some (.inl (wr (x3 + 1)))
      else none
  else
    some (.inr (.inr ()))
noncomputable def script_faulty_0 (s2 : GScript) (x0 : List Int) (x2 : Int) (x3 : Int) : Option ((Bool) ⊕ (Unit)) :=
  loopO (fun s : Int => script_faulty_0_step s2 x0 x2 s) x3
@[reducible] def script_faulty_0_st (s2 : GScript) (x0 : List Int) (x2 : Int) (x3 : Int) : PF.St := ⟨[(1, .ept (GScript.cells s2) 0), (6, lav iav x0), (7, iav x2), (8, iav x3)], []⟩
def script_faulty_0_rel (s2 : GScript) (x0 : List Int) (x2 : Int) (r : ((Bool) ⊕ (Unit))) (q : Ex × PF.St) : Prop := (fun r (q : Ex × PF.St) => Sum.elim (fun r => (fun r (q : Ex × PF.St) => q = (Ex.ret, ⟨[(2, .bool r)], []⟩)) r q) (fun r => (fun r (q : Ex × PF.St) => q = ((.exit 0), ⟨[(2, .undef)], []⟩)) r q) r) r q
def script_faulty_0_inv (s2 : GScript) (x0 : List Int) (x2 : Int) (v : Int) (e : PF.St) : Prop := e = script_faulty_0_st s2 x0 x2 v
theorem script_faulty_0_sim (s2 : GScript) (x0 : List Int) (x2 : Int) (x3 : Int) (s : PF.St) (hk : keep [1, 6, 7, 8] [] s = some (script_faulty_0_st s2 x0 x2 x3)) : Sim (script_faulty_0 s2 x0 x2 x3) (Gv (script_faulty_0_rel s2 x0 x2)) (LM.loop ([1, 6, 7, 8], [], [2], B_script_faulty_0) s) := by
  refine sim_loop M XE (script_faulty_0_inv s2 x0 x2) (script_faulty_0_rel s2 x0 x2) ?_ _ _ _ hk rfl
  clear hk
  rintro S hS hw hw8 R hR x3 env hp he
  change (⟨env, hp⟩ : PF.St) = script_faulty_0_st s2 x0 x2 x3 at he
  cases he
  show Sim (script_faulty_0_step s2 x0 x2 x3) _ _
  unfold script_faulty_0_step
  simp only [hw]
  refine au (.ite Iff.rfl (fun hc => ?_) fun hc => ?_)
  · refine au ?_
    refine Sim.ix (by simp) (fun z0 hz0 => ?_)
    refine au ?_
    refine Sim.go (idx_map _ hz0) ?_
    refine au (cE hR (script_is_sim _ _) fun r0 => ?_)
    refine au (.iteB (fun hc2 => ?_) fun hc2 => ?_)
    · exact au (.ret ⟨_, rfl, rfl⟩)
    · refine au ?_
      first | (refine Sim.goB (headE_map (by intro _; rfl) _) ?_) | skip
      refine au ?_
      refine Sim.kn hS (m := (List.length s2.Faulty)) (by simp) ?_
      refine au ?_
      first | refine Sim.ite Iff.rfl (fun _ => ?_) (fun _ => Sim.no) | refine Sim.guard (fun _ => ?_)
      refine au ?_
      refine Sim.kl hS (ys := List.map iav (List.take (Int.toNat x3) s2.Faulty)) (by simp only [PF.cut, List.map_drop, List.map_take]) ?_
      refine au (cE hR (slices_Contains_int_int_sim _ _) fun r2 => ?_)
      refine au (.iteB (fun hc3 => ?_) fun hc3 => ?_)
      · exact au (.ret ⟨_, rfl, rfl⟩)
      · refine au ?_
        exact Sim.ret ⟨_, _, rfl, rfl, rfl⟩
  · exact au (.ret ⟨_, rfl, rfl⟩)
noncomputable def script_faulty (s0 : GScript) : Option Bool :=
  (script_faulty_0 s0 s0.Faulty (List.length s0.Faulty : Int) 0).bind fun r3 =>
  Sum.elim
    (fun r4 =>
      some r4)
    (fun r5 =>
      some true)
    r3
theorem script_faulty_sim (s0 : GScript) : Sim (script_faulty s0) (Gv fun r q => q = (.bool r, [])) (LM.call n_script_faulty [GScript.av s0] []) := by
  unfold script_faulty
  refine sim_evR M XE rfl rfl fun S hS hw hw8 R hR => ?_
  refine au ?_
  refine Sim.ki hS (m := (List.length s0.Faulty : Int)) (by simp) ?_
  refine au ?_
  refine Sim.callL hR (script_faulty_0_sim s0 s0.Faulty (List.length s0.Faulty : Int) 0 _ rfl) ?_
  rintro r3 q hr
  rcases r3 with r4 | r5
  · cases hr
    exact au (.ret ⟨_, rfl, rfl⟩)
  · cases hr
    exact au (.ret ⟨_, rfl, rfl⟩)
noncomputable def script_Right_1 (i0 : List UInt8) : Option Bool :=
  some (decide ((List.length i0 : Int) ≤ 8000))
theorem script_Right_1_sim (i0 : List UInt8) : Sim (script_Right_1 i0) (Gv fun r q => q = (.bool r, [])) (LM.call n_script_Right_1 [.str i0] []) := by
  unfold script_Right_1
  refine sim_evR M XE rfl rfl fun S hS hw hw8 R hR => ?_
  exact au (.ret ⟨_, rfl, rfl⟩)
noncomputable def script_tick_1 (s0 : GSend) : Option Bool :=
  if 0 ≤ s0.Delay then
    some (decide (s0.Delay ≤ 65535))
  else
    some false
theorem script_tick_1_sim (s0 : GSend) : Sim (script_tick_1 s0) (Gv fun r q => q = (.bool r, [])) (LM.call n_script_tick_1 [GSend.av s0] []) := by
  unfold script_tick_1
  refine sim_evR M XE rfl rfl fun S hS hw hw8 R hR => ?_
  refine au (.ite Iff.rfl (fun hc => ?_) fun hc => ?_)
  · exact au (.ret ⟨_, rfl, rfl⟩)
  · exact au (.ret ⟨_, rfl, rfl⟩)
noncomputable def script_numbers_1 (n0 : Int) : Option Bool :=
  if 0 ≤ n0 then
    some (decide (n0 ≤ 65535))
  else
    some false
theorem script_numbers_1_sim (n0 : Int) : Sim (script_numbers_1 n0) (Gv fun r q => q = (.bool r, [])) (LM.call n_script_numbers_1 [iav n0] []) := by
  unfold script_numbers_1
  refine sim_evR M XE rfl rfl fun S hS hw hw8 R hR => ?_
  refine au (.ite Iff.rfl (fun hc => ?_) fun hc => ?_)
  · exact au (.ret ⟨_, rfl, rfl⟩)
  · exact au (.ret ⟨_, rfl, rfl⟩)
noncomputable def script_every_int_0_step (x0 : List Int) (x2 : Int) (x3 : Int) : Option ((Int) ⊕ ((Bool) ⊕ (Unit))) :=
  if x3 < x2 then
    (idx? x0 x3).bind fun z0 =>
    (script_numbers_1 z0).bind fun r0 =>
    if (!r0) = true then
      some (.inr (.inl false))
    else
      some (.inl (wr (x3 + 1)))
  else
    some (.inr (.inr ()))
noncomputable def script_every_int_0 (x0 : List Int) (x2 : Int) (x3 : Int) : Option ((Bool) ⊕ (Unit)) :=
  loopO (fun s : Int => script_every_int_0_step x0 x2 s) x3
@[reducible] def script_every_int_0_st (x0 : List Int) (x2 : Int) (x3 : Int) : PF.St := ⟨[(1, .fn n_script_numbers_1 []), (7, lav iav x0), (8, iav x2), (9, iav x3)], []⟩
def script_every_int_0_rel (x0 : List Int) (x2 : Int) (r : ((Bool) ⊕ (Unit))) (q : Ex × PF.St) : Prop := (fun r (q : Ex × PF.St) => Sum.elim (fun r => (fun r (q : Ex × PF.St) => q = (Ex.ret, ⟨[(4, .bool r)], []⟩)) r q) (fun r => (fun r (q : Ex × PF.St) => q = ((.exit 0), ⟨[(4, .undef)], []⟩)) r q) r) r q
def script_every_int_0_inv (x0 : List Int) (x2 : Int) (v : Int) (e : PF.St) : Prop := e = script_every_int_0_st x0 x2 v
theorem script_every_int_0_sim (x0 : List Int) (x2 : Int) (x3 : Int) (s : PF.St) (hk : keep [1, 7, 8, 9] [] s = some (script_every_int_0_st x0 x2 x3)) : Sim (script_every_int_0 x0 x2 x3) (Gv (script_every_int_0_rel x0 x2)) (LM.loop ([1, 7, 8, 9], [], [4], B_script_every_int_0) s) := by
  refine sim_loop M XE (script_every_int_0_inv x0 x2) (script_every_int_0_rel x0 x2) ?_ _ _ _ hk rfl
  clear hk
  rintro S hS hw hw8 R hR x3 env hp he
  change (⟨env, hp⟩ : PF.St) = script_every_int_0_st x0 x2 x3 at he
  cases he
  show Sim (script_every_int_0_step x0 x2 x3) _ _
  unfold script_every_int_0_step
  simp only [hw]
  refine au (.ite Iff.rfl (fun hc => ?_) fun hc => ?_)
  · refine au ?_
    refine Sim.ix (by simp) (fun z0 hz0 => ?_)
    refine au ?_
    refine Sim.go (idx_map _ hz0) ?_
    refine au (cE hR (script_numbers_1_sim _) fun r0 => ?_)
    refine au (.iteB (fun hc2 => ?_) fun hc2 => ?_)
    · exact au (.ret ⟨_, rfl, rfl⟩)
    · refine au ?_
      exact Sim.ret ⟨_, _, rfl, rfl, rfl⟩
  · exact au (.ret ⟨_, rfl, rfl⟩)
noncomputable def script_every_int (l0 : List Int) : Option Bool :=
  (script_every_int_0 l0 (List.length l0 : Int) 0).bind fun r2 =>
  Sum.elim
    (fun r3 =>
      some r3)
    (fun r4 =>
      some true)
    r2
theorem script_every_int_sim (l0 : List Int) : Sim (script_every_int l0) (Gv fun r q => q = (.bool r, [])) (LM.call n_script_every_int [lav iav l0, .fn n_script_numbers_1 []] []) := by
  unfold script_every_int
  refine sim_evR M XE rfl rfl fun S hS hw hw8 R hR => ?_
  refine au ?_
  refine Sim.ki hS (m := (List.length l0 : Int)) (by simp) ?_
  refine au ?_
  refine Sim.callL hR (script_every_int_0_sim l0 (List.length l0 : Int) 0 _ rfl) ?_
  rintro r2 q hr
  rcases r2 with r3 | r4
  · cases hr
    exact au (.ret ⟨_, rfl, rfl⟩)
  · cases hr
    exact au (.ret ⟨_, rfl, rfl⟩)
noncomputable def script_numbers (l0 : List Int) (most : Int) : Option Bool :=
  if (List.length l0 : Int) ≤ most then
    (script_every_int l0).bind fun r0 =>
    some r0
  else
    some false
theorem script_numbers_sim (l0 : List Int) (most : Int) : Sim (script_numbers l0 most) (Gv fun r q => q = (.bool r, [])) (LM.call n_script_numbers [lav iav l0, iav most] []) := by
  unfold script_numbers
  refine sim_evR M XE rfl rfl fun S hS hw hw8 R hR => ?_
  refine au ?_
  refine Sim.ki hS (m := (List.length l0 : Int)) (by simp) ?_
  refine au (.ite Iff.rfl (fun hc => ?_) fun hc => ?_)
  · refine au (cE hR (script_every_int_sim _) fun r0 => ?_)
    exact au (.ret ⟨_, rfl, rfl⟩)
  · exact au (.ret ⟨_, rfl, rfl⟩)
noncomputable def script_full (t0 : GTick) : Option Bool :=
  some (decide (40 < (mmL true (List.length t0.Sends : Int) [(List.length t0.Bursts : Int), (List.length t0.Strays : Int), (List.length t0.Writes : Int)])))
theorem script_full_sim (t0 : GTick) : Sim (script_full t0) (Gv fun r q => q = (.bool r, [])) (LM.call n_script_full [GTick.av t0] []) := by
  unfold script_full
  refine sim_evR M XE rfl rfl fun S hS hw hw8 R hR => ?_
  refine au ?_
  refine Sim.ki hS (m := (List.length t0.Sends : Int)) (by simp) ?_
  refine au ?_
  refine Sim.ki hS (m := (List.length t0.Bursts : Int)) (by simp) ?_
  refine au ?_
  refine Sim.ki hS (m := (List.length t0.Strays : Int)) (by simp) ?_
  refine au ?_
  refine Sim.ki hS (m := (List.length t0.Writes : Int)) (by simp) ?_
  exact au (.ret ⟨_, rfl, rfl⟩)
noncomputable def script_named_1 (s0 : GSend) (o0 : GConf) : Option (Bool × GConf) :=
  (script_is o0 s0.From).bind fun r0 =>
  if r0 = true then
    (script_is o0 s0.To).bind fun r2 =>
    some (r2, o0)
  else
    some (false, o0)
theorem script_named_1_sim (s0 : GSend) (o0 : GConf) : Sim (script_named_1 s0 o0) (Gv fun r q => q = (.bool r.1, [⟨true, GConf.cells r.2⟩])) (LM.call n_script_named_1 [GSend.av s0, .ptr 0 0] [⟨true, GConf.cells o0⟩]) := by
  unfold script_named_1
  refine sim_evR M XE rfl rfl fun S hS hw hw8 R hR => ?_
  refine au (cE hR (script_is_sim _ _) fun r0 => ?_)
  refine au (.iteB (fun hc => ?_) fun hc => ?_)
  · refine au (cE hR (script_is_sim _ _) fun r2 => ?_)
    exact au (.ret ⟨_, rfl, rfl⟩)
  · exact au (.ret ⟨_, rfl, rfl⟩)
noncomputable def script_every_api_Send_0_step (x0 : List GSend) (x2 : Int) (x3 : Int) (o2 : GConf) : Option ((Int × GConf) ⊕ ((Bool × GConf) ⊕ (GConf))) :=
  if x3 < x2 then
    (idx? x0 x3).bind fun z0 =>
    (script_named_1 z0 o2).bind fun r0 =>
    if (!r0.1) = true then
      some (.inr (.inl (false, r0.2)))
    else
      some (.inl ((wr (x3 + 1)), r0.2))
  else
    some (.inr (.inr o2))
noncomputable def script_every_api_Send_0 (x0 : List GSend) (x2 : Int) (x3 : Int) (o2 : GConf) : Option ((Bool × GConf) ⊕ (GConf)) :=
  loopO (fun s : Int × GConf => script_every_api_Send_0_step x0 x2 s.1 s.2) (x3, o2)
@[reducible] def script_every_api_Send_0_st (x0 : List GSend) (x2 : Int) (x3 : Int) (o2 : GConf) : PF.St := ⟨[(1, .fn n_script_named_1 [.ptr 0 0]), (7, lav GSend.av x0), (8, iav x2), (9, iav x3)], [(0, ⟨true, GConf.cells o2⟩)]⟩
def script_every_api_Send_0_rel (x0 : List GSend) (x2 : Int) (r : ((Bool × GConf) ⊕ (GConf))) (q : Ex × PF.St) : Prop := (fun r (q : Ex × PF.St) => Sum.elim (fun r => (fun r (q : Ex × PF.St) => q = (Ex.ret, ⟨[(4, .bool r.1)], [(0, ⟨true, GConf.cells r.2⟩)]⟩)) r q) (fun r => (fun r (q : Ex × PF.St) => q = ((.exit 0), ⟨[(4, .undef)], [(0, ⟨true, GConf.cells r⟩)]⟩)) r q) r) r q
def script_every_api_Send_0_inv (x0 : List GSend) (x2 : Int) (v : Int × GConf) (e : PF.St) : Prop := e = script_every_api_Send_0_st x0 x2 v.1 v.2
theorem script_every_api_Send_0_sim (x0 : List GSend) (x2 : Int) (x3 : Int) (o2 : GConf) (s : PF.St) (hk : keep [1, 7, 8, 9] [] s = some (script_every_api_Send_0_st x0 x2 x3 o2)) : Sim (script_every_api_Send_0 x0 x2 x3 o2) (Gv (script_every_api_Send_0_rel x0 x2)) (LM.loop ([1, 7, 8, 9], [], [4], B_script_every_api_Send_0) s) := by
  refine sim_loop M XE (script_every_api_Send_0_inv x0 x2) (script_every_api_Send_0_rel x0 x2) ?_ _ _ _ hk rfl
  clear hk
  rintro S hS hw hw8 R hR ⟨x3, o2⟩ env hp he
  change (⟨env, hp⟩ : PF.St) = script_every_api_Send_0_st x0 x2 x3 o2 at he
  cases he
  show Sim (script_every_api_Send_0_step x0 x2 x3 o2) _ _
  unfold script_every_api_Send_0_step
  simp only [hw]
  refine au (.ite Iff.rfl (fun hc => ?_) fun hc => ?_)
  · refine au ?_
    refine Sim.ix (by simp) (fun z0 hz0 => ?_)
    refine au ?_
    refine Sim.go (idx_map _ hz0) ?_
    refine au (cE hR (script_named_1_sim _ _) fun r0 => ?_)
    refine au (.iteB (fun hc2 => ?_) fun hc2 => ?_)
    · exact au (.ret ⟨_, rfl, rfl⟩)
    · refine au ?_
      exact Sim.ret ⟨_, _, rfl, rfl, rfl⟩
  · exact au (.ret ⟨_, rfl, rfl⟩)
noncomputable def script_every_api_Send (l0 : List GSend) (o0 : GConf) : Option (Bool × GConf) :=
  (script_every_api_Send_0 l0 (List.length l0 : Int) 0 o0).bind fun r2 =>
  Sum.elim
    (fun r3 =>
      some (r3.1, r3.2))
    (fun r4 =>
      some (true, r4))
    r2
theorem script_every_api_Send_sim (l0 : List GSend) (o0 : GConf) : Sim (script_every_api_Send l0 o0) (Gv fun r q => q = (.bool r.1, [⟨true, GConf.cells r.2⟩])) (LM.call n_script_every_api_Send [lav GSend.av l0, .fn n_script_named_1 [.ptr 0 0]] [⟨true, GConf.cells o0⟩]) := by
  unfold script_every_api_Send
  refine sim_evR M XE rfl rfl fun S hS hw hw8 R hR => ?_
  refine au ?_
  refine Sim.ki hS (m := (List.length l0 : Int)) (by simp) ?_
  refine au ?_
  refine Sim.callL hR (script_every_api_Send_0_sim l0 (List.length l0 : Int) 0 o0 _ rfl) ?_
  rintro r2 q hr
  rcases r2 with r3 | r4
  · cases hr
    exact au (.ret ⟨_, rfl, rfl⟩)
  · cases hr
    exact au (.ret ⟨_, rfl, rfl⟩)
noncomputable def script_named_2 (b0 : GBurst) (o0 : GConf) : Option (Bool × GConf) :=
  (script_is o0 b0.Node).bind fun r0 =>
  some (r0, o0)
theorem script_named_2_sim (b0 : GBurst) (o0 : GConf) : Sim (script_named_2 b0 o0) (Gv fun r q => q = (.bool r.1, [⟨true, GConf.cells r.2⟩])) (LM.call n_script_named_2 [GBurst.av b0, .ptr 0 0] [⟨true, GConf.cells o0⟩]) := by
  unfold script_named_2
  refine sim_evR M XE rfl rfl fun S hS hw hw8 R hR => ?_
  refine au (cE hR (script_is_sim _ _) fun r0 => ?_)
  exact au (.ret ⟨_, rfl, rfl⟩)
noncomputable def script_every_api_Burst_0_step (x0 : List GBurst) (x2 : Int) (x3 : Int) (o2 : GConf) : Option ((Int × GConf) ⊕ ((Bool × GConf) ⊕ (GConf))) :=
  if x3 < x2 then
    (idx? x0 x3).bind fun z0 =>
    (script_named_2 z0 o2).bind fun r0 =>
    if (!r0.1) = true then
      some (.inr (.inl (false, r0.2)))
    else
      some (.inl ((wr (x3 + 1)), r0.2))
  else
    some (.inr (.inr o2))
noncomputable def script_every_api_Burst_0 (x0 : List GBurst) (x2 : Int) (x3 : Int) (o2 : GConf) : Option ((Bool × GConf) ⊕ (GConf)) :=
  loopO (fun s : Int × GConf => script_every_api_Burst_0_step x0 x2 s.1 s.2) (x3, o2)
@[reducible] def script_every_api_Burst_0_st (x0 : List GBurst) (x2 : Int) (x3 : Int) (o2 : GConf) : PF.St := ⟨[(1, .fn n_script_named_2 [.ptr 0 0]), (7, lav GBurst.av x0), (8, iav x2), (9, iav x3)], [(0, ⟨true, GConf.cells o2⟩)]⟩
def script_every_api_Burst_0_rel (x0 : List GBurst) (x2 : Int) (r : ((Bool × GConf) ⊕ (GConf))) (q : Ex × PF.St) : Prop := (fun r (q : Ex × PF.St) => Sum.elim (fun r => (fun r (q : Ex × PF.St) => q = (Ex.ret, ⟨[(4, .bool r.1)], [(0, ⟨true, GConf.cells r.2⟩)]⟩)) r q) (fun r => (fun r (q : Ex × PF.St) => q = ((.exit 0), ⟨[(4, .undef)], [(0, ⟨true, GConf.cells r⟩)]⟩)) r q) r) r q
def script_every_api_Burst_0_inv (x0 : List GBurst) (x2 : Int) (v : Int × GConf) (e : PF.St) : Prop := e = script_every_api_Burst_0_st x0 x2 v.1 v.2
theorem script_every_api_Burst_0_sim (x0 : List GBurst) (x2 : Int) (x3 : Int) (o2 : GConf) (s : PF.St) (hk : keep [1, 7, 8, 9] [] s = some (script_every_api_Burst_0_st x0 x2 x3 o2)) : Sim (script_every_api_Burst_0 x0 x2 x3 o2) (Gv (script_every_api_Burst_0_rel x0 x2)) (LM.loop ([1, 7, 8, 9], [], [4], B_script_every_api_Burst_0) s) := by
  refine sim_loop M XE (script_every_api_Burst_0_inv x0 x2) (script_every_api_Burst_0_rel x0 x2) ?_ _ _ _ hk rfl
  clear hk
  rintro S hS hw hw8 R hR ⟨x3, o2⟩ env hp he
  change (⟨env, hp⟩ : PF.St) = script_every_api_Burst_0_st x0 x2 x3 o2 at he
  cases he
  show Sim (script_every_api_Burst_0_step x0 x2 x3 o2) _ _
  unfold script_every_api_Burst_0_step
  simp only [hw]
  refine au (.ite Iff.rfl (fun hc => ?_) fun hc => ?_)
  · refine au ?_
    refine Sim.ix (by simp) (fun z0 hz0 => ?_)
    refine au ?_
    refine Sim.go (idx_map _ hz0) ?_
    refine au (cE hR (script_named_2_sim _ _) fun r0 => ?_)
    refine au (.iteB (fun hc2 => ?_) fun hc2 => ?_)
    · exact au (.ret ⟨_, rfl, rfl⟩)
    · refine au ?_
      exact Sim.ret ⟨_, _, rfl, rfl, rfl⟩
  · exact au (.ret ⟨_, rfl, rfl⟩)
noncomputable def script_every_api_Burst (l0 : List GBurst) (o0 : GConf) : Option (Bool × GConf) :=
  (script_every_api_Burst_0 l0 (List.length l0 : Int) 0 o0).bind fun r2 =>
  Sum.elim
    (fun r3 =>
      some (r3.1, r3.2))
    (fun r4 =>
      some (true, r4))
    r2
theorem script_every_api_Burst_sim (l0 : List GBurst) (o0 : GConf) : Sim (script_every_api_Burst l0 o0) (Gv fun r q => q = (.bool r.1, [⟨true, GConf.cells r.2⟩])) (LM.call n_script_every_api_Burst [lav GBurst.av l0, .fn n_script_named_2 [.ptr 0 0]] [⟨true, GConf.cells o0⟩]) := by
  unfold script_every_api_Burst
  refine sim_evR M XE rfl rfl fun S hS hw hw8 R hR => ?_
  refine au ?_
  refine Sim.ki hS (m := (List.length l0 : Int)) (by simp) ?_
  refine au ?_
  refine Sim.callL hR (script_every_api_Burst_0_sim l0 (List.length l0 : Int) 0 o0 _ rfl) ?_
  rintro r2 q hr
  rcases r2 with r3 | r4
  · cases hr
    exact au (.ret ⟨_, rfl, rfl⟩)
  · cases hr
    exact au (.ret ⟨_, rfl, rfl⟩)
noncomputable def script_named_3 (w0 : GWrite) (o0 : GConf) : Option (Bool × GConf) :=
  (script_is o0 w0.Node).bind fun r0 =>
  some (r0, o0)
theorem script_named_3_sim (w0 : GWrite) (o0 : GConf) : Sim (script_named_3 w0 o0) (Gv fun r q => q = (.bool r.1, [⟨true, GConf.cells r.2⟩])) (LM.call n_script_named_3 [GWrite.av w0, .ptr 0 0] [⟨true, GConf.cells o0⟩]) := by
  unfold script_named_3
  refine sim_evR M XE rfl rfl fun S hS hw hw8 R hR => ?_
  refine au (cE hR (script_is_sim _ _) fun r0 => ?_)
  exact au (.ret ⟨_, rfl, rfl⟩)
noncomputable def script_every_api_Write_0_step (x0 : List GWrite) (x2 : Int) (x3 : Int) (o2 : GConf) : Option ((Int × GConf) ⊕ ((Bool × GConf) ⊕ (GConf))) :=
  if x3 < x2 then
    (idx? x0 x3).bind fun z0 =>
    (script_named_3 z0 o2).bind fun r0 =>
    if (!r0.1) = true then
      some (.inr (.inl (false, r0.2)))
    else
      some (.inl ((wr (x3 + 1)), r0.2))
  else
    some (.inr (.inr o2))
noncomputable def script_every_api_Write_0 (x0 : List GWrite) (x2 : Int) (x3 : Int) (o2 : GConf) : Option ((Bool × GConf) ⊕ (GConf)) :=
  loopO (fun s : Int × GConf => script_every_api_Write_0_step x0 x2 s.1 s.2) (x3, o2)
@[reducible] def script_every_api_Write_0_st (x0 : List GWrite) (x2 : Int) (x3 : Int) (o2 : GConf) : PF.St := ⟨[(1, .fn n_script_named_3 [.ptr 0 0]), (7, lav GWrite.av x0), (8, iav x2), (9, iav x3)], [(0, ⟨true, GConf.cells o2⟩)]⟩
def script_every_api_Write_0_rel (x0 : List GWrite) (x2 : Int) (r : ((Bool × GConf) ⊕ (GConf))) (q : Ex × PF.St) : Prop := (fun r (q : Ex × PF.St) => Sum.elim (fun r => (fun r (q : Ex × PF.St) => q = (Ex.ret, ⟨[(4, .bool r.1)], [(0, ⟨true, GConf.cells r.2⟩)]⟩)) r q) (fun r => (fun r (q : Ex × PF.St) => q = ((.exit 0), ⟨[(4, .undef)], [(0, ⟨true, GConf.cells r⟩)]⟩)) r q) r) r q
def script_every_api_Write_0_inv (x0 : List GWrite) (x2 : Int) (v : Int × GConf) (e : PF.St) : Prop := e = script_every_api_Write_0_st x0 x2 v.1 v.2
theorem script_every_api_Write_0_sim (x0 : List GWrite) (x2 : Int) (x3 : Int) (o2 : GConf) (s : PF.St) (hk : keep [1, 7, 8, 9] [] s = some (script_every_api_Write_0_st x0 x2 x3 o2)) : Sim (script_every_api_Write_0 x0 x2 x3 o2) (Gv (script_every_api_Write_0_rel x0 x2)) (LM.loop ([1, 7, 8, 9], [], [4], B_script_every_api_Write_0) s) := by
  refine sim_loop M XE (script_every_api_Write_0_inv x0 x2) (script_every_api_Write_0_rel x0 x2) ?_ _ _ _ hk rfl
  clear hk
  rintro S hS hw hw8 R hR ⟨x3, o2⟩ env hp he
  change (⟨env, hp⟩ : PF.St) = script_every_api_Write_0_st x0 x2 x3 o2 at he
  cases he
  show Sim (script_every_api_Write_0_step x0 x2 x3 o2) _ _
  unfold script_every_api_Write_0_step
  simp only [hw]
  refine au (.ite Iff.rfl (fun hc => ?_) fun hc => ?_)
  · refine au ?_
    refine Sim.ix (by simp) (fun z0 hz0 => ?_)
    refine au ?_
    refine Sim.go (idx_map _ hz0) ?_
    refine au (cE hR (script_named_3_sim _ _) fun r0 => ?_)
    refine au (.iteB (fun hc2 => ?_) fun hc2 => ?_)
    · exact au (.ret ⟨_, rfl, rfl⟩)
    · refine au ?_
      exact Sim.ret ⟨_, _, rfl, rfl, rfl⟩
  · exact au (.ret ⟨_, rfl, rfl⟩)
noncomputable def script_every_api_Write (l0 : List GWrite) (o0 : GConf) : Option (Bool × GConf) :=
  (script_every_api_Write_0 l0 (List.length l0 : Int) 0 o0).bind fun r2 =>
  Sum.elim
    (fun r3 =>
      some (r3.1, r3.2))
    (fun r4 =>
      some (true, r4))
    r2
theorem script_every_api_Write_sim (l0 : List GWrite) (o0 : GConf) : Sim (script_every_api_Write l0 o0) (Gv fun r q => q = (.bool r.1, [⟨true, GConf.cells r.2⟩])) (LM.call n_script_every_api_Write [lav GWrite.av l0, .fn n_script_named_3 [.ptr 0 0]] [⟨true, GConf.cells o0⟩]) := by
  unfold script_every_api_Write
  refine sim_evR M XE rfl rfl fun S hS hw hw8 R hR => ?_
  refine au ?_
  refine Sim.ki hS (m := (List.length l0 : Int)) (by simp) ?_
  refine au ?_
  refine Sim.callL hR (script_every_api_Write_0_sim l0 (List.length l0 : Int) 0 o0 _ rfl) ?_
  rintro r2 q hr
  rcases r2 with r3 | r4
  · cases hr
    exact au (.ret ⟨_, rfl, rfl⟩)
  · cases hr
    exact au (.ret ⟨_, rfl, rfl⟩)
noncomputable def script_named (c0 : GConf) (t0 : GTick) : Option Bool :=
  (script_every_api_Send t0.Sends c0).bind fun r0 =>
  if r0.1 = true then
    (script_every_api_Send t0.Strays r0.2).bind fun r2 =>
    if r2.1 = true then
      (script_every_api_Burst t0.Bursts r2.2).bind fun r3 =>
      if r3.1 = true then
        (script_every_api_Write t0.Writes r3.2).bind fun r4 =>
        some r4.1
      else
        some false
    else
      some false
  else
    some false
theorem script_named_sim (c0 : GConf) (t0 : GTick) : Sim (script_named c0 t0) (Gv fun r q => q = (.bool r, [])) (LM.call n_script_named [GConf.av c0, GTick.av t0] []) := by
  unfold script_named
  refine sim_evR M XE rfl rfl fun S hS hw hw8 R hR => ?_
  refine au (cE hR (script_every_api_Send_sim _ _) fun r0 => ?_)
  refine au (.iteB (fun hc => ?_) fun hc => ?_)
  · refine au (cE hR (script_every_api_Send_sim _ _) fun r2 => ?_)
    refine au (.iteB (fun hc2 => ?_) fun hc2 => ?_)
    · refine au (cE hR (script_every_api_Burst_sim _ _) fun r3 => ?_)
      refine au (.iteB (fun hc3 => ?_) fun hc3 => ?_)
      · refine au (cE hR (script_every_api_Write_sim _ _) fun r4 => ?_)
        exact au (.ret ⟨_, rfl, rfl⟩)
      · exact au (.ret ⟨_, rfl, rfl⟩)
    · exact au (.ret ⟨_, rfl, rfl⟩)
  · exact au (.ret ⟨_, rfl, rfl⟩)
noncomputable def script_short_1 (s0 : GSend) : Option Bool :=
  some (decide ((List.length s0.Bytes : Int) ≤ 40))
theorem script_short_1_sim (s0 : GSend) : Sim (script_short_1 s0) (Gv fun r q => q = (.bool r, [])) (LM.call n_script_short_1 [GSend.av s0] []) := by
  unfold script_short_1
  refine sim_evR M XE rfl rfl fun S hS hw hw8 R hR => ?_
  exact au (.ret ⟨_, rfl, rfl⟩)
noncomputable def script_short_2 (b0 : GBurst) : Option Bool :=
  some (decide ((List.length b0.Image : Int) ≤ 8000))
theorem script_short_2_sim (b0 : GBurst) : Sim (script_short_2 b0) (Gv fun r q => q = (.bool r, [])) (LM.call n_script_short_2 [GBurst.av b0] []) := by
  unfold script_short_2
  refine sim_evR M XE rfl rfl fun S hS hw hw8 R hR => ?_
  exact au (.ret ⟨_, rfl, rfl⟩)
noncomputable def script_every_api_Send_v1_0_step (x0 : List GSend) (x2 : Int) (x3 : Int) : Option ((Int) ⊕ ((Bool) ⊕ (Unit))) :=
  if x3 < x2 then
    (idx? x0 x3).bind fun z0 =>
    (script_short_1 z0).bind fun r0 =>
    if (!r0) = true then
      some (.inr (.inl false))
    else
      some (.inl (wr (x3 + 1)))
  else
    some (.inr (.inr ()))
noncomputable def script_every_api_Send_v1_0 (x0 : List GSend) (x2 : Int) (x3 : Int) : Option ((Bool) ⊕ (Unit)) :=
  loopO (fun s : Int => script_every_api_Send_v1_0_step x0 x2 s) x3
@[reducible] def script_every_api_Send_v1_0_st (x0 : List GSend) (x2 : Int) (x3 : Int) : PF.St := ⟨[(1, .fn n_script_short_1 []), (7, lav GSend.av x0), (8, iav x2), (9, iav x3)], []⟩
def script_every_api_Send_v1_0_rel (x0 : List GSend) (x2 : Int) (r : ((Bool) ⊕ (Unit))) (q : Ex × PF.St) : Prop := (fun r (q : Ex × PF.St) => Sum.elim (fun r => (fun r (q : Ex × PF.St) => q = (Ex.ret, ⟨[(4, .bool r)], []⟩)) r q) (fun r => (fun r (q : Ex × PF.St) => q = ((.exit 0), ⟨[(4, .undef)], []⟩)) r q) r) r q
def script_every_api_Send_v1_0_inv (x0 : List GSend) (x2 : Int) (v : Int) (e : PF.St) : Prop := e = script_every_api_Send_v1_0_st x0 x2 v
theorem script_every_api_Send_v1_0_sim (x0 : List GSend) (x2 : Int) (x3 : Int) (s : PF.St) (hk : keep [1, 7, 8, 9] [] s = some (script_every_api_Send_v1_0_st x0 x2 x3)) : Sim (script_every_api_Send_v1_0 x0 x2 x3) (Gv (script_every_api_Send_v1_0_rel x0 x2)) (LM.loop ([1, 7, 8, 9], [], [4], B_script_every_api_Send_0) s) := by
  refine sim_loop M XE (script_every_api_Send_v1_0_inv x0 x2) (script_every_api_Send_v1_0_rel x0 x2) ?_ _ _ _ hk rfl
  clear hk
  rintro S hS hw hw8 R hR x3 env hp he
  change (⟨env, hp⟩ : PF.St) = script_every_api_Send_v1_0_st x0 x2 x3 at he
  cases he
  show Sim (script_every_api_Send_v1_0_step x0 x2 x3) _ _
  unfold script_every_api_Send_v1_0_step
  simp only [hw]
  refine au (.ite Iff.rfl (fun hc => ?_) fun hc => ?_)
  · refine au ?_
    refine Sim.ix (by simp) (fun z0 hz0 => ?_)
    refine au ?_
    refine Sim.go (idx_map _ hz0) ?_
    refine au (cE hR (script_short_1_sim _) fun r0 => ?_)
    refine au (.iteB (fun hc2 => ?_) fun hc2 => ?_)
    · exact au (.ret ⟨_, rfl, rfl⟩)
    · refine au ?_
      exact Sim.ret ⟨_, _, rfl, rfl, rfl⟩
  · exact au (.ret ⟨_, rfl, rfl⟩)
noncomputable def script_every_api_Send_v1 (l0 : List GSend) : Option Bool :=
  (script_every_api_Send_v1_0 l0 (List.length l0 : Int) 0).bind fun r2 =>
  Sum.elim
    (fun r3 =>
      some r3)
    (fun r4 =>
      some true)
    r2
theorem script_every_api_Send_v1_sim (l0 : List GSend) : Sim (script_every_api_Send_v1 l0) (Gv fun r q => q = (.bool r, [])) (LM.call n_script_every_api_Send [lav GSend.av l0, .fn n_script_short_1 []] []) := by
  unfold script_every_api_Send_v1
  refine sim_evR M XE rfl rfl fun S hS hw hw8 R hR => ?_
  refine au ?_
  refine Sim.ki hS (m := (List.length l0 : Int)) (by simp) ?_
  refine au ?_
  refine Sim.callL hR (script_every_api_Send_v1_0_sim l0 (List.length l0 : Int) 0 _ rfl) ?_
  rintro r2 q hr
  rcases r2 with r3 | r4
  · cases hr
    exact au (.ret ⟨_, rfl, rfl⟩)
  · cases hr
    exact au (.ret ⟨_, rfl, rfl⟩)
noncomputable def script_every_api_Burst_v1_0_step (x0 : List GBurst) (x2 : Int) (x3 : Int) : Option ((Int) ⊕ ((Bool) ⊕ (Unit))) :=
  if x3 < x2 then
    (idx? x0 x3).bind fun z0 =>
    (script_short_2 z0).bind fun r0 =>
    if (!r0) = true then
      some (.inr (.inl false))
    else
      some (.inl (wr (x3 + 1)))
  else
    some (.inr (.inr ()))
noncomputable def script_every_api_Burst_v1_0 (x0 : List GBurst) (x2 : Int) (x3 : Int) : Option ((Bool) ⊕ (Unit)) :=
  loopO (fun s : Int => script_every_api_Burst_v1_0_step x0 x2 s) x3
@[reducible] def script_every_api_Burst_v1_0_st (x0 : List GBurst) (x2 : Int) (x3 : Int) : PF.St := ⟨[(1, .fn n_script_short_2 []), (7, lav GBurst.av x0), (8, iav x2), (9, iav x3)], []⟩
def script_every_api_Burst_v1_0_rel (x0 : List GBurst) (x2 : Int) (r : ((Bool) ⊕ (Unit))) (q : Ex × PF.St) : Prop := (fun r (q : Ex × PF.St) => Sum.elim (fun r => (fun r (q : Ex × PF.St) => q = (Ex.ret, ⟨[(4, .bool r)], []⟩)) r q) (fun r => (fun r (q : Ex × PF.St) => q = ((.exit 0), ⟨[(4, .undef)], []⟩)) r q) r) r q
def script_every_api_Burst_v1_0_inv (x0 : List GBurst) (x2 : Int) (v : Int) (e : PF.St) : Prop := e = script_every_api_Burst_v1_0_st x0 x2 v
theorem script_every_api_Burst_v1_0_sim (x0 : List GBurst) (x2 : Int) (x3 : Int) (s : PF.St) (hk : keep [1, 7, 8, 9] [] s = some (script_every_api_Burst_v1_0_st x0 x2 x3)) : Sim (script_every_api_Burst_v1_0 x0 x2 x3) (Gv (script_every_api_Burst_v1_0_rel x0 x2)) (LM.loop ([1, 7, 8, 9], [], [4], B_script_every_api_Burst_0) s) := by
  refine sim_loop M XE (script_every_api_Burst_v1_0_inv x0 x2) (script_every_api_Burst_v1_0_rel x0 x2) ?_ _ _ _ hk rfl
  clear hk
  rintro S hS hw hw8 R hR x3 env hp he
  change (⟨env, hp⟩ : PF.St) = script_every_api_Burst_v1_0_st x0 x2 x3 at he
  cases he
  show Sim (script_every_api_Burst_v1_0_step x0 x2 x3) _ _
  unfold script_every_api_Burst_v1_0_step
  simp only [hw]
  refine au (.ite Iff.rfl (fun hc => ?_) fun hc => ?_)
  · refine au ?_
    refine Sim.ix (by simp) (fun z0 hz0 => ?_)
    refine au ?_
    refine Sim.go (idx_map _ hz0) ?_
    refine au (cE hR (script_short_2_sim _) fun r0 => ?_)
    refine au (.iteB (fun hc2 => ?_) fun hc2 => ?_)
    · exact au (.ret ⟨_, rfl, rfl⟩)
    · refine au ?_
      exact Sim.ret ⟨_, _, rfl, rfl, rfl⟩
  · exact au (.ret ⟨_, rfl, rfl⟩)
noncomputable def script_every_api_Burst_v1 (l0 : List GBurst) : Option Bool :=
  (script_every_api_Burst_v1_0 l0 (List.length l0 : Int) 0).bind fun r2 =>
  Sum.elim
    (fun r3 =>
      some r3)
    (fun r4 =>
      some true)
    r2
theorem script_every_api_Burst_v1_sim (l0 : List GBurst) : Sim (script_every_api_Burst_v1 l0) (Gv fun r q => q = (.bool r, [])) (LM.call n_script_every_api_Burst [lav GBurst.av l0, .fn n_script_short_2 []] []) := by
  unfold script_every_api_Burst_v1
  refine sim_evR M XE rfl rfl fun S hS hw hw8 R hR => ?_
  refine au ?_
  refine Sim.ki hS (m := (List.length l0 : Int)) (by simp) ?_
  refine au ?_
  refine Sim.callL hR (script_every_api_Burst_v1_0_sim l0 (List.length l0 : Int) 0 _ rfl) ?_
  rintro r2 q hr
  rcases r2 with r3 | r4
  · cases hr
    exact au (.ret ⟨_, rfl, rfl⟩)
  · cases hr
    exact au (.ret ⟨_, rfl, rfl⟩)
noncomputable def script_short (t0 : GTick) : Option Bool :=
  (script_every_api_Send_v1 t0.Sends).bind fun r0 =>
  if r0 = true then
    (script_every_api_Send_v1 t0.Strays).bind fun r2 =>
    if r2 = true then
      (script_every_api_Burst_v1 t0.Bursts).bind fun r3 =>
      some r3
    else
      some false
  else
    some false
theorem script_short_sim (t0 : GTick) : Sim (script_short t0) (Gv fun r q => q = (.bool r, [])) (LM.call n_script_short [GTick.av t0] []) := by
  unfold script_short
  refine sim_evR M XE rfl rfl fun S hS hw hw8 R hR => ?_
  refine au (cE hR (script_every_api_Send_v1_sim _) fun r0 => ?_)
  refine au (.iteB (fun hc => ?_) fun hc => ?_)
  · refine au (cE hR (script_every_api_Send_v1_sim _) fun r2 => ?_)
    refine au (.iteB (fun hc2 => ?_) fun hc2 => ?_)
    · refine au (cE hR (script_every_api_Burst_v1_sim _) fun r3 => ?_)
      exact au (.ret ⟨_, rfl, rfl⟩)
    · exact au (.ret ⟨_, rfl, rfl⟩)
  · exact au (.ret ⟨_, rfl, rfl⟩)
noncomputable def script_tick_2 (w0 : GWrite) : Option Bool :=
  some (decide ((List.length w0.Text : Int) ≤ 16))
theorem script_tick_2_sim (w0 : GWrite) : Sim (script_tick_2 w0) (Gv fun r q => q = (.bool r, [])) (LM.call n_script_tick_2 [GWrite.av w0] []) := by
  unfold script_tick_2
  refine sim_evR M XE rfl rfl fun S hS hw hw8 R hR => ?_
  exact au (.ret ⟨_, rfl, rfl⟩)
noncomputable def script_every_api_Send_v2_0_step (x0 : List GSend) (x2 : Int) (x3 : Int) : Option ((Int) ⊕ ((Bool) ⊕ (Unit))) :=
  if x3 < x2 then
    (idx? x0 x3).bind fun z0 =>
    (script_tick_1 z0).bind fun r0 =>
    if (!r0) = true then
      some (.inr (.inl false))
    else
      some (.inl (wr (x3 + 1)))
  else
    some (.inr (.inr ()))
noncomputable def script_every_api_Send_v2_0 (x0 : List GSend) (x2 : Int) (x3 : Int) : Option ((Bool) ⊕ (Unit)) :=
  loopO (fun s : Int => script_every_api_Send_v2_0_step x0 x2 s) x3
@[reducible] def script_every_api_Send_v2_0_st (x0 : List GSend) (x2 : Int) (x3 : Int) : PF.St := ⟨[(1, .fn n_script_tick_1 []), (7, lav GSend.av x0), (8, iav x2), (9, iav x3)], []⟩
def script_every_api_Send_v2_0_rel (x0 : List GSend) (x2 : Int) (r : ((Bool) ⊕ (Unit))) (q : Ex × PF.St) : Prop := (fun r (q : Ex × PF.St) => Sum.elim (fun r => (fun r (q : Ex × PF.St) => q = (Ex.ret, ⟨[(4, .bool r)], []⟩)) r q) (fun r => (fun r (q : Ex × PF.St) => q = ((.exit 0), ⟨[(4, .undef)], []⟩)) r q) r) r q
def script_every_api_Send_v2_0_inv (x0 : List GSend) (x2 : Int) (v : Int) (e : PF.St) : Prop := e = script_every_api_Send_v2_0_st x0 x2 v
theorem script_every_api_Send_v2_0_sim (x0 : List GSend) (x2 : Int) (x3 : Int) (s : PF.St) (hk : keep [1, 7, 8, 9] [] s = some (script_every_api_Send_v2_0_st x0 x2 x3)) : Sim (script_every_api_Send_v2_0 x0 x2 x3) (Gv (script_every_api_Send_v2_0_rel x0 x2)) (LM.loop ([1, 7, 8, 9], [], [4], B_script_every_api_Send_0) s) := by
  refine sim_loop M XE (script_every_api_Send_v2_0_inv x0 x2) (script_every_api_Send_v2_0_rel x0 x2) ?_ _ _ _ hk rfl
  clear hk
  rintro S hS hw hw8 R hR x3 env hp he
  change (⟨env, hp⟩ : PF.St) = script_every_api_Send_v2_0_st x0 x2 x3 at he
  cases he
  show Sim (script_every_api_Send_v2_0_step x0 x2 x3) _ _
  unfold script_every_api_Send_v2_0_step
  simp only [hw]
  refine au (.ite Iff.rfl (fun hc => ?_) fun hc => ?_)
  · refine au ?_
    refine Sim.ix (by simp) (fun z0 hz0 => ?_)
    refine au ?_
    refine Sim.go (idx_map _ hz0) ?_
    refine au (cE hR (script_tick_1_sim _) fun r0 => ?_)
    refine au (.iteB (fun hc2 => ?_) fun hc2 => ?_)
    · exact au (.ret ⟨_, rfl, rfl⟩)
    · refine au ?_
      exact Sim.ret ⟨_, _, rfl, rfl, rfl⟩
  · exact au (.ret ⟨_, rfl, rfl⟩)
noncomputable def script_every_api_Send_v2 (l0 : List GSend) : Option Bool :=
  (script_every_api_Send_v2_0 l0 (List.length l0 : Int) 0).bind fun r2 =>
  Sum.elim
    (fun r3 =>
      some r3)
    (fun r4 =>
      some true)
    r2
theorem script_every_api_Send_v2_sim (l0 : List GSend) : Sim (script_every_api_Send_v2 l0) (Gv fun r q => q = (.bool r, [])) (LM.call n_script_every_api_Send [lav GSend.av l0, .fn n_script_tick_1 []] []) := by
  unfold script_every_api_Send_v2
  refine sim_evR M XE rfl rfl fun S hS hw hw8 R hR => ?_
  refine au ?_
  refine Sim.ki hS (m := (List.length l0 : Int)) (by simp) ?_
  refine au ?_
  refine Sim.callL hR (script_every_api_Send_v2_0_sim l0 (List.length l0 : Int) 0 _ rfl) ?_
  rintro r2 q hr
  rcases r2 with r3 | r4
  · cases hr
    exact au (.ret ⟨_, rfl, rfl⟩)
  · cases hr
    exact au (.ret ⟨_, rfl, rfl⟩)
noncomputable def script_every_api_Write_v1_0_step (x0 : List GWrite) (x2 : Int) (x3 : Int) : Option ((Int) ⊕ ((Bool) ⊕ (Unit))) :=
  if x3 < x2 then
    (idx? x0 x3).bind fun z0 =>
    (script_tick_2 z0).bind fun r0 =>
    if (!r0) = true then
      some (.inr (.inl false))
    else
      some (.inl (wr (x3 + 1)))
  else
    some (.inr (.inr ()))
noncomputable def script_every_api_Write_v1_0 (x0 : List GWrite) (x2 : Int) (x3 : Int) : Option ((Bool) ⊕ (Unit)) :=
  loopO (fun s : Int => script_every_api_Write_v1_0_step x0 x2 s) x3
@[reducible] def script_every_api_Write_v1_0_st (x0 : List GWrite) (x2 : Int) (x3 : Int) : PF.St := ⟨[(1, .fn n_script_tick_2 []), (7, lav GWrite.av x0), (8, iav x2), (9, iav x3)], []⟩
def script_every_api_Write_v1_0_rel (x0 : List GWrite) (x2 : Int) (r : ((Bool) ⊕ (Unit))) (q : Ex × PF.St) : Prop := (fun r (q : Ex × PF.St) => Sum.elim (fun r => (fun r (q : Ex × PF.St) => q = (Ex.ret, ⟨[(4, .bool r)], []⟩)) r q) (fun r => (fun r (q : Ex × PF.St) => q = ((.exit 0), ⟨[(4, .undef)], []⟩)) r q) r) r q
def script_every_api_Write_v1_0_inv (x0 : List GWrite) (x2 : Int) (v : Int) (e : PF.St) : Prop := e = script_every_api_Write_v1_0_st x0 x2 v
theorem script_every_api_Write_v1_0_sim (x0 : List GWrite) (x2 : Int) (x3 : Int) (s : PF.St) (hk : keep [1, 7, 8, 9] [] s = some (script_every_api_Write_v1_0_st x0 x2 x3)) : Sim (script_every_api_Write_v1_0 x0 x2 x3) (Gv (script_every_api_Write_v1_0_rel x0 x2)) (LM.loop ([1, 7, 8, 9], [], [4], B_script_every_api_Write_0) s) := by
  refine sim_loop M XE (script_every_api_Write_v1_0_inv x0 x2) (script_every_api_Write_v1_0_rel x0 x2) ?_ _ _ _ hk rfl
  clear hk
  rintro S hS hw hw8 R hR x3 env hp he
  change (⟨env, hp⟩ : PF.St) = script_every_api_Write_v1_0_st x0 x2 x3 at he
  cases he
  show Sim (script_every_api_Write_v1_0_step x0 x2 x3) _ _
  unfold script_every_api_Write_v1_0_step
  simp only [hw]
  refine au (.ite Iff.rfl (fun hc => ?_) fun hc => ?_)
  · refine au ?_
    refine Sim.ix (by simp) (fun z0 hz0 => ?_)
    refine au ?_
    refine Sim.go (idx_map _ hz0) ?_
    refine au (cE hR (script_tick_2_sim _) fun r0 => ?_)
    refine au (.iteB (fun hc2 => ?_) fun hc2 => ?_)
    · exact au (.ret ⟨_, rfl, rfl⟩)
    · refine au ?_
      exact Sim.ret ⟨_, _, rfl, rfl, rfl⟩
  · exact au (.ret ⟨_, rfl, rfl⟩)
noncomputable def script_every_api_Write_v1 (l0 : List GWrite) : Option Bool :=
  (script_every_api_Write_v1_0 l0 (List.length l0 : Int) 0).bind fun r2 =>
  Sum.elim
    (fun r3 =>
      some r3)
    (fun r4 =>
      some true)
    r2
theorem script_every_api_Write_v1_sim (l0 : List GWrite) : Sim (script_every_api_Write_v1 l0) (Gv fun r q => q = (.bool r, [])) (LM.call n_script_every_api_Write [lav GWrite.av l0, .fn n_script_tick_2 []] []) := by
  unfold script_every_api_Write_v1
  refine sim_evR M XE rfl rfl fun S hS hw hw8 R hR => ?_
  refine au ?_
  refine Sim.ki hS (m := (List.length l0 : Int)) (by simp) ?_
  refine au ?_
  refine Sim.callL hR (script_every_api_Write_v1_0_sim l0 (List.length l0 : Int) 0 _ rfl) ?_
  rintro r2 q hr
  rcases r2 with r3 | r4
  · cases hr
    exact au (.ret ⟨_, rfl, rfl⟩)
  · cases hr
    exact au (.ret ⟨_, rfl, rfl⟩)
noncomputable def script_tick (c0 : GConf) (t0 : GTick) : Option Int :=
  (script_numbers t0.Units c0.N).bind fun r0 =>
  if (!r0) = true then
    some 2
  else
    (script_numbers t0.Delays (wr (c0.N * c0.N))).bind fun r2 =>
    if (!r2) = true then
      some 2
    else
      (script_every_api_Send_v2 t0.Sends).bind fun r3 =>
      if (!r3) = true then
        some 2
      else
        (script_every_api_Send_v2 t0.Strays).bind fun r4 =>
        if (!r4) = true then
          some 2
        else
          (script_full t0).bind fun r5 =>
          if r5 = true then
            some 9
          else
            (script_named c0 t0).bind fun r6 =>
            if (!r6) = true then
              some 7
            else
              (script_short t0).bind fun r7 =>
              if (!r7) = true then
                some 6
              else
                (script_every_api_Write_v1 t0.Writes).bind fun r8 =>
                if (!r8) = true then
                  some 15
                else
                  some 0
theorem script_tick_sim (c0 : GConf) (t0 : GTick) : Sim (script_tick c0 t0) (Gv fun r q => q = (iav r, [])) (LM.call n_script_tick [GConf.av c0, GTick.av t0] []) := by
  unfold script_tick
  refine sim_evR M XE rfl rfl fun S hS hw hw8 R hR => ?_
  simp only [hw]
  refine au (cE hR (script_numbers_sim _ _) fun r0 => ?_)
  refine au (.iteB (fun hc => ?_) fun hc => ?_)
  · exact au (.ret ⟨_, rfl, rfl⟩)
  · refine au (cE hR (script_numbers_sim _ _) fun r2 => ?_)
    refine au (.iteB (fun hc2 => ?_) fun hc2 => ?_)
    · exact au (.ret ⟨_, rfl, rfl⟩)
    · refine au (cE hR (script_every_api_Send_v2_sim _) fun r3 => ?_)
      refine au (.iteB (fun hc3 => ?_) fun hc3 => ?_)
      · exact au (.ret ⟨_, rfl, rfl⟩)
      · refine au (cE hR (script_every_api_Send_v2_sim _) fun r4 => ?_)
        refine au (.iteB (fun hc4 => ?_) fun hc4 => ?_)
        · exact au (.ret ⟨_, rfl, rfl⟩)
        · refine au (cE hR (script_full_sim _) fun r5 => ?_)
          refine au (.iteB (fun hc5 => ?_) fun hc5 => ?_)
          · exact au (.ret ⟨_, rfl, rfl⟩)
          · refine au (cE hR (script_named_sim _ _) fun r6 => ?_)
            refine au (.iteB (fun hc6 => ?_) fun hc6 => ?_)
            · exact au (.ret ⟨_, rfl, rfl⟩)
            · refine au (cE hR (script_short_sim _) fun r7 => ?_)
              refine au (.iteB (fun hc7 => ?_) fun hc7 => ?_)
              · exact au (.ret ⟨_, rfl, rfl⟩)
              · refine au (cE hR (script_every_api_Write_v1_sim _) fun r8 => ?_)
                refine au (.iteB (fun hc8 => ?_) fun hc8 => ?_)
                · exact au (.ret ⟨_, rfl, rfl⟩)
                · exact au (.ret ⟨_, rfl, rfl⟩)
noncomputable def script_every_string_0_step (x0 : List (List UInt8)) (x2 : Int) (x3 : Int) : Option ((Int) ⊕ ((Bool) ⊕ (Unit))) :=
  if x3 < x2 then
    (idx? x0 x3).bind fun z0 =>
    (script_Right_1 z0).bind fun r0 =>
    if (!r0) = true then
      some (.inr (.inl false))
    else
      some (.inl (wr (x3 + 1)))
  else
    some (.inr (.inr ()))
noncomputable def script_every_string_0 (x0 : List (List UInt8)) (x2 : Int) (x3 : Int) : Option ((Bool) ⊕ (Unit)) :=
  loopO (fun s : Int => script_every_string_0_step x0 x2 s) x3
@[reducible] def script_every_string_0_st (x0 : List (List UInt8)) (x2 : Int) (x3 : Int) : PF.St := ⟨[(1, .fn n_script_Right_1 []), (7, lav sav x0), (8, iav x2), (9, iav x3)], []⟩
def script_every_string_0_rel (x0 : List (List UInt8)) (x2 : Int) (r : ((Bool) ⊕ (Unit))) (q : Ex × PF.St) : Prop := (fun r (q : Ex × PF.St) => Sum.elim (fun r => (fun r (q : Ex × PF.St) => q = (Ex.ret, ⟨[(4, .bool r)], []⟩)) r q) (fun r => (fun r (q : Ex × PF.St) => q = ((.exit 0), ⟨[(4, .undef)], []⟩)) r q) r) r q
def script_every_string_0_inv (x0 : List (List UInt8)) (x2 : Int) (v : Int) (e : PF.St) : Prop := e = script_every_string_0_st x0 x2 v
theorem script_every_string_0_sim (x0 : List (List UInt8)) (x2 : Int) (x3 : Int) (s : PF.St) (hk : keep [1, 7, 8, 9] [] s = some (script_every_string_0_st x0 x2 x3)) : Sim (script_every_string_0 x0 x2 x3) (Gv (script_every_string_0_rel x0 x2)) (LM.loop ([1, 7, 8, 9], [], [4], B_script_every_string_0) s) := by
  refine sim_loop M XE (script_every_string_0_inv x0 x2) (script_every_string_0_rel x0 x2) ?_ _ _ _ hk rfl
  clear hk
  rintro S hS hw hw8 R hR x3 env hp he
  change (⟨env, hp⟩ : PF.St) = script_every_string_0_st x0 x2 x3 at he
  cases he
  show Sim (script_every_string_0_step x0 x2 x3) _ _
  unfold script_every_string_0_step
  simp only [hw]
  refine au (.ite Iff.rfl (fun hc => ?_) fun hc => ?_)
  · refine au ?_
    refine Sim.ix (by simp) (fun z0 hz0 => ?_)
    refine au ?_
    refine Sim.go (idx_map _ hz0) ?_
    refine au (cE hR (script_Right_1_sim _) fun r0 => ?_)
    refine au (.iteB (fun hc2 => ?_) fun hc2 => ?_)
    · exact au (.ret ⟨_, rfl, rfl⟩)
    · refine au ?_
      exact Sim.ret ⟨_, _, rfl, rfl, rfl⟩
  · exact au (.ret ⟨_, rfl, rfl⟩)
noncomputable def script_every_string (l0 : List (List UInt8)) : Option Bool :=
  (script_every_string_0 l0 (List.length l0 : Int) 0).bind fun r2 =>
  Sum.elim
    (fun r3 =>
      some r3)
    (fun r4 =>
      some true)
    r2
theorem script_every_string_sim (l0 : List (List UInt8)) : Sim (script_every_string l0) (Gv fun r q => q = (.bool r, [])) (LM.call n_script_every_string [lav sav l0, .fn n_script_Right_1 []] []) := by
  unfold script_every_string
  refine sim_evR M XE rfl rfl fun S hS hw hw8 R hR => ?_
  refine au ?_
  refine Sim.ki hS (m := (List.length l0 : Int)) (by simp) ?_
  refine au ?_
  refine Sim.callL hR (script_every_string_0_sim l0 (List.length l0 : Int) 0 _ rfl) ?_
  rintro r2 q hr
  rcases r2 with r3 | r4
  · cases hr
    exact au (.ret ⟨_, rfl, rfl⟩)
  · cases hr
    exact au (.ret ⟨_, rfl, rfl⟩)
noncomputable def script_Right_0_step (s2 : GScript) (x0 : List GTick) (x2 : Int) (x3 : Int) : Option ((Int) ⊕ ((Int) ⊕ (Unit))) :=
  if x3 < x2 then
    (idx? x0 x3).bind fun z0 =>
    (script_tick s2.Conf z0).bind fun r4 =>
    if r4 ≠ 0 then
      some (.inr (.inl r4))
    else
      some (.inl (wr (x3 + 1)))
  else
    some (.inr (.inr ()))
noncomputable def script_Right_0 (s2 : GScript) (x0 : List GTick) (x2 : Int) (x3 : Int) : Option ((Int) ⊕ (Unit)) :=
  loopO (fun s : Int => script_Right_0_step s2 x0 x2 s) x3
@[reducible] def script_Right_0_st (s2 : GScript) (x0 : List GTick) (x2 : Int) (x3 : Int) : PF.St := ⟨[(1, .ept (GScript.cells s2) 0), (36, lav GTick.av x0), (37, iav x2), (38, iav x3)], []⟩
def script_Right_0_rel (s2 : GScript) (x0 : List GTick) (x2 : Int) (r : ((Int) ⊕ (Unit))) (q : Ex × PF.St) : Prop := (fun r (q : Ex × PF.St) => Sum.elim (fun r => (fun r (q : Ex × PF.St) => q = (Ex.ret, ⟨[(2, iav r)], []⟩)) r q) (fun r => (fun r (q : Ex × PF.St) => q = ((.exit 0), ⟨[(2, .undef)], []⟩)) r q) r) r q
def script_Right_0_inv (s2 : GScript) (x0 : List GTick) (x2 : Int) (v : Int) (e : PF.St) : Prop := e = script_Right_0_st s2 x0 x2 v
theorem script_Right_0_sim (s2 : GScript) (x0 : List GTick) (x2 : Int) (x3 : Int) (s : PF.St) (hk : keep [1, 36, 37, 38] [] s = some (script_Right_0_st s2 x0 x2 x3)) : Sim (script_Right_0 s2 x0 x2 x3) (Gv (script_Right_0_rel s2 x0 x2)) (LM.loop ([1, 36, 37, 38], [], [2], B_script_Right_0) s) := by
  refine sim_loop M XE (script_Right_0_inv s2 x0 x2) (script_Right_0_rel s2 x0 x2) ?_ _ _ _ hk rfl
  clear hk
  rintro S hS hw hw8 R hR x3 env hp he
  change (⟨env, hp⟩ : PF.St) = script_Right_0_st s2 x0 x2 x3 at he
  cases he
  show Sim (script_Right_0_step s2 x0 x2 x3) _ _
  unfold script_Right_0_step
  simp only [hw]
  refine au (.ite Iff.rfl (fun hc6 => ?_) fun hc6 => ?_)
  · refine au ?_
    refine Sim.ix (by simp) (fun z0 hz0 => ?_)
    refine au ?_
    refine Sim.go (idx_map _ hz0) ?_
    refine au (cE hR (script_tick_sim _ _) fun r4 => ?_)
    refine au (.ite Iff.rfl (fun hc7 => ?_) fun hc7 => ?_)
    · exact au (.ret ⟨_, rfl, rfl⟩)
    · refine au ?_
      exact Sim.ret ⟨_, _, rfl, rfl, rfl⟩
  · exact au (.ret ⟨_, rfl, rfl⟩)
noncomputable def script_Right (s0 : GScript) : Option Int :=
  (bound_Right s0.Conf).bind fun r0 =>
  if r0 ≠ 0 then
    some r0
  else
    (script_faulty s0).bind fun r2 =>
    if (!r2) = true then
      some 7
    else
      if s0.Conf.N < (List.length s0.Images : Int) then
        some 6
      else
        if 2000 < (List.length s0.Ticks : Int) then
          some 6
        else
          (script_every_string s0.Images).bind fun r3 =>
          if (!r3) = true then
            some 6
          else
            (script_Right_0 s0 s0.Ticks (List.length s0.Ticks : Int) 0).bind fun r5 =>
            Sum.elim
              (fun r6 =>
                some r6)
              (fun r7 =>
                some 0)
              r5
theorem script_Right_sim (s0 : GScript) : Sim (script_Right s0) (Gv fun r q => q = (iav r, [])) (LM.call n_script_Right [GScript.av s0] []) := by
  unfold script_Right
  refine sim_evR M XE rfl rfl fun S hS hw hw8 R hR => ?_
  refine au (cE hR (bound_Right_sim _) fun r0 => ?_)
  refine au (.ite Iff.rfl (fun hc => ?_) fun hc => ?_)
  · exact au (.ret ⟨_, rfl, rfl⟩)
  · refine au (cE hR (script_faulty_sim _) fun r2 => ?_)
    refine au (.iteB (fun hc2 => ?_) fun hc2 => ?_)
    · exact au (.ret ⟨_, rfl, rfl⟩)
    · refine au ?_
      refine Sim.ki hS (m := (List.length s0.Images : Int)) (by simp) ?_
      refine au (.ite Iff.rfl (fun hc3 => ?_) fun hc3 => ?_)
      · exact au (.ret ⟨_, rfl, rfl⟩)
      · refine au ?_
        refine Sim.ki hS (m := (List.length s0.Ticks : Int)) (by simp) ?_
        refine au (.ite Iff.rfl (fun hc4 => ?_) fun hc4 => ?_)
        · exact au (.ret ⟨_, rfl, rfl⟩)
        · refine au (cE hR (script_every_string_sim _) fun r3 => ?_)
          refine au (.iteB (fun hc5 => ?_) fun hc5 => ?_)
          · exact au (.ret ⟨_, rfl, rfl⟩)
          · refine au ?_
            refine Sim.ki hS (m := (List.length s0.Ticks : Int)) (by simp) ?_
            refine au ?_
            refine Sim.callL hR (script_Right_0_sim s0 s0.Ticks (List.length s0.Ticks : Int) 0 _ rfl) ?_
            rintro r5 q hr
            rcases r5 with r6 | r7
            · cases hr
              exact au (.ret ⟨_, rfl, rfl⟩)
            · cases hr
              exact au (.ret ⟨_, rfl, rfl⟩)
noncomputable def lines_writer_put (all : List Int) (o0 : Glines_writer) : Option Glines_writer :=
  if List.length o0.f_out + List.length all ≤ lenMax then
    some (Glines_writer.mk (o0.f_out ++ all))
  else none
theorem lines_writer_put_sim (all : List Int) (o0 : Glines_writer) (g0 : Gr) (hg0 : Mg 1 g0) (g2 : Gr) (hg2 : Mg 1 g2) : Sim (lines_writer_put all o0) (Gv fun r q => ∃ g0, q = (.tup [], [⟨true, [.lst g0 (List.map u8av r.f_out)]⟩]) ∧ Mg 1 g0) (LM.call n_lines_writer_put [.ptr 0 0, .lst g0 (List.map u8av all)] [⟨true, [.lst g2 (List.map u8av o0.f_out)]⟩]) := by
  unfold lines_writer_put
  refine sim_evR M XE rfl rfl fun S hS hw hw8 R hR => ?_
  refine au ?_
  refine Sim.kl hS rfl ?_
  refine au ?_
  first | (refine Sim.goB (may_map (by intro _; rfl) hg2 _) ?_) | skip
  refine au ?_
  first | (refine Sim.goB (okE_map (by intro _; exact ⟨rfl, rfl, rfl⟩) _) ?_) | skip
  refine au ?_
  first | refine Sim.ite (by simp) (fun _ => ?_) (fun _ => Sim.no) | refine Sim.guard (fun _ => ?_)
  refine au ?_
  refine Sim.kl hS (ys := List.map u8av (o0.f_out ++ all)) (by simp) ?_
  refine au ?_
  exact Sim.ret ⟨_, rfl, ⟨_, rfl, Mg.own⟩⟩
noncomputable def lines_writer_numbers_0_step (x0 : List Int) (x2 : Int) (x3 : Int) (o2 : Glines_writer) : Option ((Int × Glines_writer) ⊕ Glines_writer) :=
  if x3 < x2 then
    (idx? x0 x3).bind fun z0 =>
    (lines_writer_put [32] o2).bind fun r0 =>
    (strconv_Itoa z0).bind fun r2 =>
    if List.length r0.f_out + List.length (intsOf r2) ≤ lenMax then
      some (.inl ((wr (x3 + 1)), (Glines_writer.mk (r0.f_out ++ (intsOf r2)))))
    else none
  else
    some (.inr o2)
noncomputable def lines_writer_numbers_0 (x0 : List Int) (x2 : Int) (x3 : Int) (o2 : Glines_writer) : Option Glines_writer :=
  loopO (fun s : Int × Glines_writer => lines_writer_numbers_0_step x0 x2 s.1 s.2) (x3, o2)
@[reducible] def lines_writer_numbers_0_st (x0 : List Int) (x2 : Int) (x3 : Int) (o2 : Glines_writer) (g3 : Gr) (g4 : Gr) : PF.St := ⟨[(0, .ptr 0 0), (17, .lst g3 (List.map iav x0)), (18, iav x2), (19, iav x3)], [(0, ⟨true, [.lst g4 (List.map u8av o2.f_out)]⟩)]⟩
def lines_writer_numbers_0_rel (x0 : List Int) (x2 : Int) (r : Glines_writer) (q : Ex × PF.St) : Prop := (fun r (q : Ex × PF.St) => ∃ g0', q = ((.exit 0), ⟨[], [(0, ⟨true, [.lst g0' (List.map u8av r.f_out)]⟩)]⟩) ∧ Mg 1 g0') r q
def lines_writer_numbers_0_inv (x0 : List Int) (x2 : Int) (v : Int × Glines_writer) (e : PF.St) : Prop := ∃ g3, ∃ g4, e = lines_writer_numbers_0_st x0 x2 v.1 v.2 g3 g4 ∧ Mg 1 g4
theorem lines_writer_numbers_0_sim (x0 : List Int) (x2 : Int) (x3 : Int) (o2 : Glines_writer) (g3 : Gr) (g4 : Gr) (hg4 : Mg 1 g4) (s : PF.St) (hk : keep [0, 17, 18, 19] [] s = some (lines_writer_numbers_0_st x0 x2 x3 o2 g3 g4)) : Sim (lines_writer_numbers_0 x0 x2 x3 o2) (Gv (lines_writer_numbers_0_rel x0 x2)) (LM.loop ([0, 17, 18, 19], [], [], B_lines_writer_numbers_0) s) := by
  refine sim_loop M XE (lines_writer_numbers_0_inv x0 x2) (lines_writer_numbers_0_rel x0 x2) ?_ _ _ _ hk ⟨g3, g4, rfl, hg4⟩
  clear hk hg4
  rintro S hS hw hw8 R hR ⟨x3, o2⟩ env hp ⟨g3, g4, he, hg4⟩
  change (⟨env, hp⟩ : PF.St) = lines_writer_numbers_0_st x0 x2 x3 o2 g3 g4 at he
  cases he
  show Sim (lines_writer_numbers_0_step x0 x2 x3 o2) _ _
  unfold lines_writer_numbers_0_step
  simp only [hw]
  refine au (.ite Iff.rfl (fun hc => ?_) fun hc => ?_)
  · refine au ?_
    refine Sim.ix (by simp) (fun z0 hz0 => ?_)
    refine au ?_
    refine Sim.go (idx_map _ hz0) ?_
    refine au ?_
    refine Sim.kl hS (ys := List.map u8av [32]) rfl ?_
    refine au ?_
    refine Sim.callR hR (lines_writer_put_sim _ _ .full Mg.full g4 hg4) ?_
    rintro r0 q ⟨g5, rfl, hg5⟩
    refine au ?_
    refine Sim.kl hS rfl ?_
    refine au (cE hR (strconv_Itoa_sim _) fun r2 => ?_)
    refine au ?_
    rw [byte_map r2]
    refine au ?_
    first | (refine Sim.goB (may_map (by intro _; rfl) hg5 _) ?_) | skip
    refine au ?_
    first | (refine Sim.goB (okE_map (by intro _; exact ⟨rfl, rfl, rfl⟩) _) ?_) | skip
    refine au ?_
    first | refine Sim.ite (by simp) (fun _ => ?_) (fun _ => Sim.no) | refine Sim.guard (fun _ => ?_)
    refine au ?_
    refine Sim.kl hS (ys := List.map u8av (r0.f_out ++ (intsOf r2))) (by simp) ?_
    refine au ?_
    exact Sim.ret ⟨_, _, rfl, rfl, ⟨_, _, rfl, Mg.own⟩⟩
  · refine au ?_
    exact Sim.ret ⟨_, rfl, ⟨_, rfl, hg4⟩⟩
noncomputable def lines_writer_numbers (head : List UInt8) (l0 : List Int) (o0 : Glines_writer) : Option Glines_writer :=
  if List.length o0.f_out + List.length (intsOf head) ≤ lenMax then
    (lines_writer_numbers_0 l0 (List.length l0 : Int) 0 (Glines_writer.mk (o0.f_out ++ (intsOf head)))).bind fun r3 =>
    some r3
  else none
theorem lines_writer_numbers_sim (head : List UInt8) (l0 : List Int) (o0 : Glines_writer) (g0 : Gr) (g2 : Gr) (hg2 : Mg 1 g2) : Sim (lines_writer_numbers head l0 o0) (Gv fun r q => ∃ g0, q = (.tup [], [⟨true, [.lst g0 (List.map u8av r.f_out)]⟩]) ∧ Mg 1 g0) (LM.call n_lines_writer_numbers [.ptr 0 0, .str head, .lst g0 (List.map iav l0)] [⟨true, [.lst g2 (List.map u8av o0.f_out)]⟩]) := by
  unfold lines_writer_numbers
  refine sim_evR M XE rfl rfl fun S hS hw hw8 R hR => ?_
  refine au ?_
  refine Sim.kl hS rfl ?_
  refine au ?_
  rw [byte_map head]
  refine au ?_
  first | (refine Sim.goB (may_map (by intro _; rfl) hg2 _) ?_) | skip
  refine au ?_
  first | (refine Sim.goB (okE_map (by intro _; exact ⟨rfl, rfl, rfl⟩) _) ?_) | skip
  refine au ?_
  first | refine Sim.ite (by simp) (fun _ => ?_) (fun _ => Sim.no) | refine Sim.guard (fun _ => ?_)
  refine au ?_
  refine Sim.kl hS (ys := List.map u8av (o0.f_out ++ (intsOf head))) (by simp) ?_
  refine au ?_
  refine Sim.ki hS (m := (List.length l0 : Int)) (by simp) ?_
  refine au ?_
  refine Sim.callL hR (lines_writer_numbers_0_sim l0 (List.length l0 : Int) 0 (Glines_writer.mk (o0.f_out ++ (intsOf head))) (Gr.cp g0) (.own 1) Mg.own _ rfl) ?_
  rintro r3 q ⟨g6, rfl, hg6⟩
  refine au ?_
  exact Sim.ret ⟨_, rfl, ⟨_, rfl, hg6⟩⟩
noncomputable def lines_writer_some (head : List UInt8) (l0 : List Int) (o0 : Glines_writer) : Option Glines_writer :=
  if (List.length l0 : Int) = 0 then
    some o0
  else
    (lines_writer_numbers head l0 o0).bind fun r0 =>
    (lines_writer_put [10] r0).bind fun r2 =>
    some r2
theorem lines_writer_some_sim (head : List UInt8) (l0 : List Int) (o0 : Glines_writer) (g0 : Gr) (hg0 : Mg 1 g0) (g2 : Gr) (hg2 : Mg 1 g2) : Sim (lines_writer_some head l0 o0) (Gv fun r q => ∃ g0, q = (.tup [], [⟨true, [.lst g0 (List.map u8av r.f_out)]⟩]) ∧ Mg 1 g0) (LM.call n_lines_writer_some [.ptr 0 0, .str head, .lst g0 (List.map iav l0)] [⟨true, [.lst g2 (List.map u8av o0.f_out)]⟩]) := by
  unfold lines_writer_some
  refine sim_evR M XE rfl rfl fun S hS hw hw8 R hR => ?_
  refine au ?_
  refine Sim.ki hS (m := (List.length l0 : Int)) (by simp) ?_
  refine au (.ite Iff.rfl (fun hc => ?_) fun hc => ?_)
  · refine au ?_
    exact Sim.ret ⟨_, rfl, ⟨_, rfl, hg2⟩⟩
  · refine au ?_
    refine Sim.callR hR (lines_writer_numbers_sim _ _ _ (Gr.cp (Gr.cp g0)) g2 hg2) ?_
    rintro r0 q ⟨g3, rfl, hg3⟩
    refine au ?_
    refine Sim.kl hS (ys := List.map u8av [10]) rfl ?_
    refine au ?_
    refine Sim.callR hR (lines_writer_put_sim _ _ .full Mg.full g3 hg3) ?_
    rintro r2 q ⟨g4, rfl, hg4⟩
    refine au ?_
    exact Sim.ret ⟨_, rfl, ⟨_, rfl, hg4⟩⟩
noncomputable def lines_writer_numbers_v1_0_step (x0 : List Int) (x2 : Int) (x3 : Int) (o2 : Glines_writer) : Option ((Int × Glines_writer) ⊕ Glines_writer) :=
  if x3 < x2 then
    (idx? x0 x3).bind fun z0 =>
    (lines_writer_put [32] o2).bind fun r0 =>
    (strconv_Itoa z0).bind fun r2 =>
    if List.length r0.f_out + List.length (intsOf r2) ≤ lenMax then
      some (.inl ((wr (x3 + 1)), (Glines_writer.mk (r0.f_out ++ (intsOf r2)))))
    else none
  else
    some (.inr o2)
noncomputable def lines_writer_numbers_v1_0 (x0 : List Int) (x2 : Int) (x3 : Int) (o2 : Glines_writer) : Option Glines_writer :=
  loopO (fun s : Int × Glines_writer => lines_writer_numbers_v1_0_step x0 x2 s.1 s.2) (x3, o2)
@[reducible] def lines_writer_numbers_v1_0_st (x0 : List Int) (x2 : Int) (x3 : Int) (o2 : Glines_writer) (g2 : Gr) : PF.St := ⟨[(0, .ptr 0 0), (17, lav iav x0), (18, iav x2), (19, iav x3)], [(0, ⟨true, [.lst g2 (List.map u8av o2.f_out)]⟩)]⟩
def lines_writer_numbers_v1_0_rel (x0 : List Int) (x2 : Int) (r : Glines_writer) (q : Ex × PF.St) : Prop := (fun r (q : Ex × PF.St) => ∃ g0', q = ((.exit 0), ⟨[], [(0, ⟨true, [.lst g0' (List.map u8av r.f_out)]⟩)]⟩) ∧ Mg 1 g0') r q
def lines_writer_numbers_v1_0_inv (x0 : List Int) (x2 : Int) (v : Int × Glines_writer) (e : PF.St) : Prop := ∃ g2, e = lines_writer_numbers_v1_0_st x0 x2 v.1 v.2 g2 ∧ Mg 1 g2
theorem lines_writer_numbers_v1_0_sim (x0 : List Int) (x2 : Int) (x3 : Int) (o2 : Glines_writer) (g2 : Gr) (hg2 : Mg 1 g2) (s : PF.St) (hk : keep [0, 17, 18, 19] [] s = some (lines_writer_numbers_v1_0_st x0 x2 x3 o2 g2)) : Sim (lines_writer_numbers_v1_0 x0 x2 x3 o2) (Gv (lines_writer_numbers_v1_0_rel x0 x2)) (LM.loop ([0, 17, 18, 19], [], [], B_lines_writer_numbers_0) s) := by
  refine sim_loop M XE (lines_writer_numbers_v1_0_inv x0 x2) (lines_writer_numbers_v1_0_rel x0 x2) ?_ _ _ _ hk ⟨g2, rfl, hg2⟩
  clear hk hg2
  rintro S hS hw hw8 R hR ⟨x3, o2⟩ env hp ⟨g2, he, hg2⟩
  change (⟨env, hp⟩ : PF.St) = lines_writer_numbers_v1_0_st x0 x2 x3 o2 g2 at he
  cases he
  show Sim (lines_writer_numbers_v1_0_step x0 x2 x3 o2) _ _
  unfold lines_writer_numbers_v1_0_step
  simp only [hw]
  refine au (.ite Iff.rfl (fun hc => ?_) fun hc => ?_)
  · refine au ?_
    refine Sim.ix (by simp) (fun z0 hz0 => ?_)
    refine au ?_
    refine Sim.go (idx_map _ hz0) ?_
    refine au ?_
    refine Sim.kl hS (ys := List.map u8av [32]) rfl ?_
    refine au ?_
    refine Sim.callR hR (lines_writer_put_sim _ _ .full Mg.full g2 hg2) ?_
    rintro r0 q ⟨g3, rfl, hg3⟩
    refine au ?_
    refine Sim.kl hS rfl ?_
    refine au (cE hR (strconv_Itoa_sim _) fun r2 => ?_)
    refine au ?_
    rw [byte_map r2]
    refine au ?_
    first | (refine Sim.goB (may_map (by intro _; rfl) hg3 _) ?_) | skip
    refine au ?_
    first | (refine Sim.goB (okE_map (by intro _; exact ⟨rfl, rfl, rfl⟩) _) ?_) | skip
    refine au ?_
    first | refine Sim.ite (by simp) (fun _ => ?_) (fun _ => Sim.no) | refine Sim.guard (fun _ => ?_)
    refine au ?_
    refine Sim.kl hS (ys := List.map u8av (r0.f_out ++ (intsOf r2))) (by simp) ?_
    refine au ?_
    exact Sim.ret ⟨_, _, rfl, rfl, ⟨_, rfl, Mg.own⟩⟩
  · refine au ?_
    exact Sim.ret ⟨_, rfl, ⟨_, rfl, hg2⟩⟩
noncomputable def lines_writer_numbers_v1 (head : List UInt8) (l0 : List Int) (o0 : Glines_writer) : Option Glines_writer :=
  if List.length o0.f_out + List.length (intsOf head) ≤ lenMax then
    (lines_writer_numbers_v1_0 l0 (List.length l0 : Int) 0 (Glines_writer.mk (o0.f_out ++ (intsOf head)))).bind fun r3 =>
    some r3
  else none
theorem lines_writer_numbers_v1_sim (head : List UInt8) (l0 : List Int) (o0 : Glines_writer) (g0 : Gr) (hg0 : Mg 1 g0) : Sim (lines_writer_numbers_v1 head l0 o0) (Gv fun r q => ∃ g0, q = (.tup [], [⟨true, [.lst g0 (List.map u8av r.f_out)]⟩]) ∧ Mg 1 g0) (LM.call n_lines_writer_numbers [.ptr 0 0, .str head, lav iav l0] [⟨true, [.lst g0 (List.map u8av o0.f_out)]⟩]) := by
  unfold lines_writer_numbers_v1
  refine sim_evR M XE rfl rfl fun S hS hw hw8 R hR => ?_
  refine au ?_
  refine Sim.kl hS rfl ?_
  refine au ?_
  rw [byte_map head]
  refine au ?_
  first | (refine Sim.goB (may_map (by intro _; rfl) hg0 _) ?_) | skip
  refine au ?_
  first | (refine Sim.goB (okE_map (by intro _; exact ⟨rfl, rfl, rfl⟩) _) ?_) | skip
  refine au ?_
  first | refine Sim.ite (by simp) (fun _ => ?_) (fun _ => Sim.no) | refine Sim.guard (fun _ => ?_)
  refine au ?_
  refine Sim.kl hS (ys := List.map u8av (o0.f_out ++ (intsOf head))) (by simp) ?_
  refine au ?_
  refine Sim.ki hS (m := (List.length l0 : Int)) (by simp) ?_
  refine au ?_
  refine Sim.callL hR (lines_writer_numbers_v1_0_sim l0 (List.length l0 : Int) 0 (Glines_writer.mk (o0.f_out ++ (intsOf head))) (.own 1) Mg.own _ rfl) ?_
  rintro r3 q ⟨g4, rfl, hg4⟩
  refine au ?_
  exact Sim.ret ⟨_, rfl, ⟨_, rfl, hg4⟩⟩
noncomputable def lines_writer_some_v1 (head : List UInt8) (l0 : List Int) (o0 : Glines_writer) : Option Glines_writer :=
  if (List.length l0 : Int) = 0 then
    some o0
  else
    (lines_writer_numbers_v1 head l0 o0).bind fun r0 =>
    (lines_writer_put [10] r0).bind fun r2 =>
    some r2
theorem lines_writer_some_v1_sim (head : List UInt8) (l0 : List Int) (o0 : Glines_writer) (g0 : Gr) (hg0 : Mg 1 g0) : Sim (lines_writer_some_v1 head l0 o0) (Gv fun r q => ∃ g0, q = (.tup [], [⟨true, [.lst g0 (List.map u8av r.f_out)]⟩]) ∧ Mg 1 g0) (LM.call n_lines_writer_some [.ptr 0 0, .str head, lav iav l0] [⟨true, [.lst g0 (List.map u8av o0.f_out)]⟩]) := by
  unfold lines_writer_some_v1
  refine sim_evR M XE rfl rfl fun S hS hw hw8 R hR => ?_
  refine au ?_
  refine Sim.ki hS (m := (List.length l0 : Int)) (by simp) ?_
  refine au (.ite Iff.rfl (fun hc => ?_) fun hc => ?_)
  · refine au ?_
    exact Sim.ret ⟨_, rfl, ⟨_, rfl, hg0⟩⟩
  · refine au ?_
    refine Sim.callR hR (lines_writer_numbers_v1_sim _ _ _ g0 hg0) ?_
    rintro r0 q ⟨g2, rfl, hg2⟩
    refine au ?_
    refine Sim.kl hS (ys := List.map u8av [10]) rfl ?_
    refine au ?_
    refine Sim.callR hR (lines_writer_put_sim _ _ .full Mg.full g2 hg2) ?_
    rintro r2 q ⟨g3, rfl, hg3⟩
    refine au ?_
    exact Sim.ret ⟨_, rfl, ⟨_, rfl, hg3⟩⟩
noncomputable def lines_writer_word_0_step (s2 : List UInt8) (x0 : Int) (x2 : Int) (o2 : Glines_writer) : Option ((Int × Glines_writer) ⊕ Glines_writer) :=
  if x2 < x0 then
    (idx? s2 x2).bind fun b0 =>
    (idx? ([48, 49, 50, 51, 52, 53, 54, 55, 56, 57, 97, 98, 99, 100, 101, 102] : List UInt8) (shrI .u8 (UInt8.toNat b0 : Int) 4)).bind fun b2 =>
    (idx? s2 x2).bind fun b3 =>
    (idx? ([48, 49, 50, 51, 52, 53, 54, 55, 56, 57, 97, 98, 99, 100, 101, 102] : List UInt8) (andI .u8 (UInt8.toNat b3 : Int) 15)).bind fun b4 =>
    (lines_writer_put [(UInt8.toNat b2 : Int), (UInt8.toNat b4 : Int)] o2).bind fun r2 =>
    some (.inl ((wr (x2 + 1)), r2))
  else
    some (.inr o2)
noncomputable def lines_writer_word_0 (s2 : List UInt8) (x0 : Int) (x2 : Int) (o2 : Glines_writer) : Option Glines_writer :=
  loopO (fun s : Int × Glines_writer => lines_writer_word_0_step s2 x0 s.1 s.2) (x2, o2)
@[reducible] def lines_writer_word_0_st (s2 : List UInt8) (x0 : Int) (x2 : Int) (o2 : Glines_writer) (g3 : Gr) : PF.St := ⟨[(0, .ptr 0 0), (1, .str s2), (11, iav x0), (12, iav x2)], [(0, ⟨true, [.lst g3 (List.map u8av o2.f_out)]⟩)]⟩
def lines_writer_word_0_rel (s2 : List UInt8) (x0 : Int) (r : Glines_writer) (q : Ex × PF.St) : Prop := (fun r (q : Ex × PF.St) => ∃ g0', q = ((.exit 0), ⟨[], [(0, ⟨true, [.lst g0' (List.map u8av r.f_out)]⟩)]⟩) ∧ Mg 1 g0') r q
def lines_writer_word_0_inv (s2 : List UInt8) (x0 : Int) (v : Int × Glines_writer) (e : PF.St) : Prop := ∃ g3, e = lines_writer_word_0_st s2 x0 v.1 v.2 g3 ∧ Mg 1 g3
theorem lines_writer_word_0_sim (s2 : List UInt8) (x0 : Int) (x2 : Int) (o2 : Glines_writer) (g3 : Gr) (hg3 : Mg 1 g3) (s : PF.St) (hk : keep [0, 1, 11, 12] [] s = some (lines_writer_word_0_st s2 x0 x2 o2 g3)) : Sim (lines_writer_word_0 s2 x0 x2 o2) (Gv (lines_writer_word_0_rel s2 x0)) (LM.loop ([0, 1, 11, 12], [], [], B_lines_writer_word_0) s) := by
  refine sim_loop M XE (lines_writer_word_0_inv s2 x0) (lines_writer_word_0_rel s2 x0) ?_ _ _ _ hk ⟨g3, rfl, hg3⟩
  clear hk hg3
  rintro S hS hw hw8 R hR ⟨x2, o2⟩ env hp ⟨g3, he, hg3⟩
  change (⟨env, hp⟩ : PF.St) = lines_writer_word_0_st s2 x0 x2 o2 g3 at he
  cases he
  show Sim (lines_writer_word_0_step s2 x0 x2 o2) _ _
  unfold lines_writer_word_0_step
  simp only [hw]
  refine au (.ite Iff.rfl (fun hc2 => ?_) fun hc2 => ?_)
  · refine au ?_
    refine Sim.ix rfl (fun b0 hb0 => ?_)
    refine au ?_
    refine Sim.go hb0 ?_
    refine au ?_
    refine Sim.ix rfl (fun b2 hb2 => ?_)
    refine au ?_
    refine Sim.go hb2 ?_
    refine au ?_
    refine Sim.ix rfl (fun b3 hb3 => ?_)
    refine au ?_
    refine Sim.go hb3 ?_
    refine au ?_
    refine Sim.ix rfl (fun b4 hb4 => ?_)
    refine au ?_
    refine Sim.go hb4 ?_
    refine au ?_
    refine Sim.kl hS (ys := List.map u8av [(UInt8.toNat b2 : Int), (UInt8.toNat b4 : Int)]) rfl ?_
    refine au ?_
    refine Sim.callR hR (lines_writer_put_sim _ _ .full Mg.full g3 hg3) ?_
    rintro r2 q ⟨g4, rfl, hg4⟩
    refine au ?_
    exact Sim.ret ⟨_, _, rfl, rfl, ⟨_, rfl, hg4⟩⟩
  · refine au ?_
    exact Sim.ret ⟨_, rfl, ⟨_, rfl, hg3⟩⟩
noncomputable def lines_writer_word_0a_step (s3 : List UInt8) (x3 : Int) (x4 : Int) (o3 : Glines_writer) : Option ((Int × Glines_writer) ⊕ Glines_writer) :=
  if x4 < x3 then
    (idx? s3 x4).bind fun b5 =>
    (idx? ([48, 49, 50, 51, 52, 53, 54, 55, 56, 57, 97, 98, 99, 100, 101, 102] : List UInt8) (shrI .u8 (UInt8.toNat b5 : Int) 4)).bind fun b6 =>
    (idx? s3 x4).bind fun b7 =>
    (idx? ([48, 49, 50, 51, 52, 53, 54, 55, 56, 57, 97, 98, 99, 100, 101, 102] : List UInt8) (andI .u8 (UInt8.toNat b7 : Int) 15)).bind fun b8 =>
    (lines_writer_put [(UInt8.toNat b6 : Int), (UInt8.toNat b8 : Int)] o3).bind fun r4 =>
    some (.inl ((wr (x4 + 1)), r4))
  else
    some (.inr o3)
noncomputable def lines_writer_word_0a (s3 : List UInt8) (x3 : Int) (x4 : Int) (o3 : Glines_writer) : Option Glines_writer :=
  loopO (fun s : Int × Glines_writer => lines_writer_word_0a_step s3 x3 s.1 s.2) (x4, o3)
@[reducible] def lines_writer_word_0a_st (s3 : List UInt8) (x3 : Int) (x4 : Int) (o3 : Glines_writer) (g6 : Gr) : PF.St := ⟨[(0, .ptr 0 0), (1, .str s3), (11, iav x3), (12, iav x4)], [(0, ⟨true, [.lst g6 (List.map u8av o3.f_out)]⟩)]⟩
def lines_writer_word_0a_rel (s3 : List UInt8) (x3 : Int) (r : Glines_writer) (q : Ex × PF.St) : Prop := (fun r (q : Ex × PF.St) => ∃ g0', q = ((.exit 0), ⟨[], [(0, ⟨true, [.lst g0' (List.map u8av r.f_out)]⟩)]⟩) ∧ Mg 1 g0') r q
def lines_writer_word_0a_inv (s3 : List UInt8) (x3 : Int) (v : Int × Glines_writer) (e : PF.St) : Prop := ∃ g6, e = lines_writer_word_0a_st s3 x3 v.1 v.2 g6 ∧ Mg 1 g6
theorem lines_writer_word_0a_sim (s3 : List UInt8) (x3 : Int) (x4 : Int) (o3 : Glines_writer) (g6 : Gr) (hg6 : Mg 1 g6) (s : PF.St) (hk : keep [0, 1, 11, 12] [] s = some (lines_writer_word_0a_st s3 x3 x4 o3 g6)) : Sim (lines_writer_word_0a s3 x3 x4 o3) (Gv (lines_writer_word_0a_rel s3 x3)) (LM.loop ([0, 1, 11, 12], [], [], B_lines_writer_word_0) s) := by
  refine sim_loop M XE (lines_writer_word_0a_inv s3 x3) (lines_writer_word_0a_rel s3 x3) ?_ _ _ _ hk ⟨g6, rfl, hg6⟩
  clear hk hg6
  rintro S hS hw hw8 R hR ⟨x4, o3⟩ env hp ⟨g6, he, hg6⟩
  change (⟨env, hp⟩ : PF.St) = lines_writer_word_0a_st s3 x3 x4 o3 g6 at he
  cases he
  show Sim (lines_writer_word_0a_step s3 x3 x4 o3) _ _
  unfold lines_writer_word_0a_step
  simp only [hw]
  refine au (.ite Iff.rfl (fun hc3 => ?_) fun hc3 => ?_)
  · refine au ?_
    refine Sim.ix rfl (fun b5 hb5 => ?_)
    refine au ?_
    refine Sim.go hb5 ?_
    refine au ?_
    refine Sim.ix rfl (fun b6 hb6 => ?_)
    refine au ?_
    refine Sim.go hb6 ?_
    refine au ?_
    refine Sim.ix rfl (fun b7 hb7 => ?_)
    refine au ?_
    refine Sim.go hb7 ?_
    refine au ?_
    refine Sim.ix rfl (fun b8 hb8 => ?_)
    refine au ?_
    refine Sim.go hb8 ?_
    refine au ?_
    refine Sim.kl hS (ys := List.map u8av [(UInt8.toNat b6 : Int), (UInt8.toNat b8 : Int)]) rfl ?_
    refine au ?_
    refine Sim.callR hR (lines_writer_put_sim _ _ .full Mg.full g6 hg6) ?_
    rintro r4 q ⟨g7, rfl, hg7⟩
    refine au ?_
    exact Sim.ret ⟨_, _, rfl, rfl, ⟨_, rfl, hg7⟩⟩
  · refine au ?_
    exact Sim.ret ⟨_, rfl, ⟨_, rfl, hg6⟩⟩
noncomputable def lines_writer_word (s0 : List UInt8) (o0 : Glines_writer) : Option Glines_writer :=
  if s0 = ([] : List UInt8) then
    (lines_writer_put [45] o0).bind fun r0 =>
    (lines_writer_word_0 s0 (List.length s0 : Int) 0 r0).bind fun r3 =>
    some r3
  else
    (lines_writer_word_0a s0 (List.length s0 : Int) 0 o0).bind fun r5 =>
    some r5
theorem lines_writer_word_sim (s0 : List UInt8) (o0 : Glines_writer) (g0 : Gr) (hg0 : Mg 1 g0) : Sim (lines_writer_word s0 o0) (Gv fun r q => ∃ g0, q = (.tup [], [⟨true, [.lst g0 (List.map u8av r.f_out)]⟩]) ∧ Mg 1 g0) (LM.call n_lines_writer_word [.ptr 0 0, .str s0] [⟨true, [.lst g0 (List.map u8av o0.f_out)]⟩]) := by
  unfold lines_writer_word
  refine sim_evR M XE rfl rfl fun S hS hw hw8 R hR => ?_
  refine au (.ite Iff.rfl (fun hc => ?_) fun hc => ?_)
  · refine au ?_
    refine Sim.kl hS (ys := List.map u8av [45]) rfl ?_
    refine au ?_
    refine Sim.callR hR (lines_writer_put_sim _ _ .full Mg.full g0 hg0) ?_
    rintro r0 q ⟨g2, rfl, hg2⟩
    refine au ?_
    refine Sim.callL hR (lines_writer_word_0_sim s0 (List.length s0 : Int) 0 r0 g2 hg2 _ rfl) ?_
    rintro r3 q ⟨g5, rfl, hg5⟩
    refine au ?_
    exact Sim.ret ⟨_, rfl, ⟨_, rfl, hg5⟩⟩
  · refine au ?_
    refine Sim.callL hR (lines_writer_word_0a_sim s0 (List.length s0 : Int) 0 o0 g0 hg0 _ rfl) ?_
    rintro r5 q ⟨g8, rfl, hg8⟩
    refine au ?_
    exact Sim.ret ⟨_, rfl, ⟨_, rfl, hg8⟩⟩
noncomputable def lines_writer_event (head : List UInt8) (bytes : List UInt8) (l0 : List Int) (o0 : Glines_writer) : Option Glines_writer :=
  (lines_writer_numbers head l0 o0).bind fun r0 =>
  (lines_writer_put [32] r0).bind fun r2 =>
  (lines_writer_word bytes r2).bind fun r3 =>
  (lines_writer_put [10] r3).bind fun r4 =>
  some r4
theorem lines_writer_event_sim (head : List UInt8) (bytes : List UInt8) (l0 : List Int) (o0 : Glines_writer) (g0 : Gr) (hg0 : Mg 1 g0) (g2 : Gr) (hg2 : Mg 1 g2) : Sim (lines_writer_event head bytes l0 o0) (Gv fun r q => ∃ g0, q = (.tup [], [⟨true, [.lst g0 (List.map u8av r.f_out)]⟩]) ∧ Mg 1 g0) (LM.call n_lines_writer_event [.ptr 0 0, .str head, .str bytes, .lst g0 (List.map iav l0)] [⟨true, [.lst g2 (List.map u8av o0.f_out)]⟩]) := by
  unfold lines_writer_event
  refine sim_evR M XE rfl rfl fun S hS hw hw8 R hR => ?_
  refine au ?_
  refine Sim.callR hR (lines_writer_numbers_sim _ _ _ (Gr.cp (Gr.cp g0)) g2 hg2) ?_
  rintro r0 q ⟨g3, rfl, hg3⟩
  refine au ?_
  refine Sim.kl hS (ys := List.map u8av [32]) rfl ?_
  refine au ?_
  refine Sim.callR hR (lines_writer_put_sim _ _ .full Mg.full g3 hg3) ?_
  rintro r2 q ⟨g4, rfl, hg4⟩
  refine au ?_
  refine Sim.callR hR (lines_writer_word_sim _ _ g4 hg4) ?_
  rintro r3 q ⟨g5, rfl, hg5⟩
  refine au ?_
  refine Sim.kl hS (ys := List.map u8av [10]) rfl ?_
  refine au ?_
  refine Sim.callR hR (lines_writer_put_sim _ _ .full Mg.full g5 hg5) ?_
  rintro r4 q ⟨g6, rfl, hg6⟩
  refine au ?_
  exact Sim.ret ⟨_, rfl, ⟨_, rfl, hg6⟩⟩
noncomputable def lines_writer_numbers_v2_0_step (x0 : List Int) (x2 : Int) (x3 : Int) (o2 : Glines_writer) : Option ((Int × Glines_writer) ⊕ Glines_writer) :=
  if x3 < x2 then
    (idx? x0 x3).bind fun z0 =>
    (lines_writer_put [32] o2).bind fun r0 =>
    (strconv_Itoa z0).bind fun r2 =>
    if List.length r0.f_out + List.length (intsOf r2) ≤ lenMax then
      some (.inl ((wr (x3 + 1)), (Glines_writer.mk (r0.f_out ++ (intsOf r2)))))
    else none
  else
    some (.inr o2)
noncomputable def lines_writer_numbers_v2_0 (x0 : List Int) (x2 : Int) (x3 : Int) (o2 : Glines_writer) : Option Glines_writer :=
  loopO (fun s : Int × Glines_writer => lines_writer_numbers_v2_0_step x0 x2 s.1 s.2) (x3, o2)
@[reducible] def lines_writer_numbers_v2_0_st (x0 : List Int) (x2 : Int) (x3 : Int) (o2 : Glines_writer) (g3 : Gr) (g4 : Gr) : PF.St := ⟨[(0, .ptr 0 0), (17, .lst g3 (List.map iav x0)), (18, iav x2), (19, iav x3)], [(0, ⟨true, [.lst g4 (List.map u8av o2.f_out)]⟩)]⟩
def lines_writer_numbers_v2_0_rel (x0 : List Int) (x2 : Int) (r : Glines_writer) (q : Ex × PF.St) : Prop := (fun r (q : Ex × PF.St) => ∃ g0', q = ((.exit 0), ⟨[], [(0, ⟨true, [.lst g0' (List.map u8av r.f_out)]⟩)]⟩) ∧ Mg 1 g0') r q
def lines_writer_numbers_v2_0_inv (x0 : List Int) (x2 : Int) (v : Int × Glines_writer) (e : PF.St) : Prop := ∃ g3, ∃ g4, e = lines_writer_numbers_v2_0_st x0 x2 v.1 v.2 g3 g4 ∧ Mg 1 g4
theorem lines_writer_numbers_v2_0_sim (x0 : List Int) (x2 : Int) (x3 : Int) (o2 : Glines_writer) (g3 : Gr) (g4 : Gr) (hg4 : Mg 1 g4) (s : PF.St) (hk : keep [0, 17, 18, 19] [] s = some (lines_writer_numbers_v2_0_st x0 x2 x3 o2 g3 g4)) : Sim (lines_writer_numbers_v2_0 x0 x2 x3 o2) (Gv (lines_writer_numbers_v2_0_rel x0 x2)) (LM.loop ([0, 17, 18, 19], [], [], B_lines_writer_numbers_0) s) := by
  refine sim_loop M XE (lines_writer_numbers_v2_0_inv x0 x2) (lines_writer_numbers_v2_0_rel x0 x2) ?_ _ _ _ hk ⟨g3, g4, rfl, hg4⟩
  clear hk hg4
  rintro S hS hw hw8 R hR ⟨x3, o2⟩ env hp ⟨g3, g4, he, hg4⟩
  change (⟨env, hp⟩ : PF.St) = lines_writer_numbers_v2_0_st x0 x2 x3 o2 g3 g4 at he
  cases he
  show Sim (lines_writer_numbers_v2_0_step x0 x2 x3 o2) _ _
  unfold lines_writer_numbers_v2_0_step
  simp only [hw]
  refine au (.ite Iff.rfl (fun hc => ?_) fun hc => ?_)
  · refine au ?_
    refine Sim.ix (by simp) (fun z0 hz0 => ?_)
    refine au ?_
    refine Sim.go (idx_map _ hz0) ?_
    refine au ?_
    refine Sim.kl hS (ys := List.map u8av [32]) rfl ?_
    refine au ?_
    refine Sim.callR hR (lines_writer_put_sim _ _ .full Mg.full g4 hg4) ?_
    rintro r0 q ⟨g5, rfl, hg5⟩
    refine au ?_
    refine Sim.kl hS rfl ?_
    refine au (cE hR (strconv_Itoa_sim _) fun r2 => ?_)
    refine au ?_
    rw [byte_map r2]
    refine au ?_
    first | (refine Sim.goB (may_map (by intro _; rfl) hg5 _) ?_) | skip
    refine au ?_
    first | (refine Sim.goB (okE_map (by intro _; exact ⟨rfl, rfl, rfl⟩) _) ?_) | skip
    refine au ?_
    first | refine Sim.ite (by simp) (fun _ => ?_) (fun _ => Sim.no) | refine Sim.guard (fun _ => ?_)
    refine au ?_
    refine Sim.kl hS (ys := List.map u8av (r0.f_out ++ (intsOf r2))) (by simp) ?_
    refine au ?_
    exact Sim.ret ⟨_, _, rfl, rfl, ⟨_, _, rfl, Mg.own⟩⟩
  · refine au ?_
    exact Sim.ret ⟨_, rfl, ⟨_, rfl, hg4⟩⟩
noncomputable def lines_writer_numbers_v2 (head : List UInt8) (l0 : List Int) (o0 : Glines_writer) : Option Glines_writer :=
  if List.length o0.f_out + List.length (intsOf head) ≤ lenMax then
    (lines_writer_numbers_v2_0 l0 (List.length l0 : Int) 0 (Glines_writer.mk (o0.f_out ++ (intsOf head)))).bind fun r3 =>
    some r3
  else none
theorem lines_writer_numbers_v2_sim (head : List UInt8) (l0 : List Int) (o0 : Glines_writer) (g0 : Gr) (hg0 : Mg 1 g0) (g2 : Gr) (hg2 : Mg 1 g2) : Sim (lines_writer_numbers_v2 head l0 o0) (Gv fun r q => ∃ g0, q = (.tup [], [⟨true, [.lst g0 (List.map u8av r.f_out)]⟩]) ∧ Mg 1 g0) (LM.call n_lines_writer_numbers [.ptr 0 0, .str head, .lst g0 (List.map iav l0)] [⟨true, [.lst g2 (List.map u8av o0.f_out)]⟩]) := by
  unfold lines_writer_numbers_v2
  refine sim_evR M XE rfl rfl fun S hS hw hw8 R hR => ?_
  refine au ?_
  refine Sim.kl hS rfl ?_
  refine au ?_
  rw [byte_map head]
  refine au ?_
  first | (refine Sim.goB (may_map (by intro _; rfl) hg2 _) ?_) | skip
  refine au ?_
  first | (refine Sim.goB (okE_map (by intro _; exact ⟨rfl, rfl, rfl⟩) _) ?_) | skip
  refine au ?_
  first | refine Sim.ite (by simp) (fun _ => ?_) (fun _ => Sim.no) | refine Sim.guard (fun _ => ?_)
  refine au ?_
  refine Sim.kl hS (ys := List.map u8av (o0.f_out ++ (intsOf head))) (by simp) ?_
  refine au ?_
  refine Sim.ki hS (m := (List.length l0 : Int)) (by simp) ?_
  refine au ?_
  refine Sim.callL hR (lines_writer_numbers_v2_0_sim l0 (List.length l0 : Int) 0 (Glines_writer.mk (o0.f_out ++ (intsOf head))) (Gr.cp g0) (.own 1) Mg.own _ rfl) ?_
  rintro r3 q ⟨g6, rfl, hg6⟩
  refine au ?_
  exact Sim.ret ⟨_, rfl, ⟨_, rfl, hg6⟩⟩
noncomputable def lines_writer_tick_0_step (t0 : GTick) (x0 : List GSend) (x2 : Int) (x3 : Int) (o2 : Glines_writer) : Option ((Int × Glines_writer) ⊕ Glines_writer) :=
  if x3 < x2 then
    (idx? x0 x3).bind fun z0 =>
    (lines_writer_event ([115, 101, 110, 100] : List UInt8) z0.Bytes [z0.From, z0.To, z0.Delay] o2).bind fun r5 =>
    some (.inl ((wr (x3 + 1)), r5))
  else
    some (.inr o2)
noncomputable def lines_writer_tick_0 (t0 : GTick) (x0 : List GSend) (x2 : Int) (x3 : Int) (o2 : Glines_writer) : Option Glines_writer :=
  loopO (fun s : Int × Glines_writer => lines_writer_tick_0_step t0 x0 x2 s.1 s.2) (x3, o2)
@[reducible] def lines_writer_tick_0_st (t0 : GTick) (x0 : List GSend) (x2 : Int) (x3 : Int) (o2 : Glines_writer) (g6 : Gr) : PF.St := ⟨[(0, .ptr 0 0), (3, .ept (GTick.cells t0) 0), (26, lav GSend.av x0), (27, iav x2), (28, iav x3)], [(0, ⟨true, [.lst g6 (List.map u8av o2.f_out)]⟩)]⟩
def lines_writer_tick_0_rel (t0 : GTick) (x0 : List GSend) (x2 : Int) (r : Glines_writer) (q : Ex × PF.St) : Prop := (fun r (q : Ex × PF.St) => ∃ g0', q = ((.exit 0), ⟨[(0, .ptr 0 0), (3, .ept (GTick.cells t0) 0)], [(0, ⟨true, [.lst g0' (List.map u8av r.f_out)]⟩)]⟩) ∧ Mg 1 g0') r q
def lines_writer_tick_0_inv (t0 : GTick) (x0 : List GSend) (x2 : Int) (v : Int × Glines_writer) (e : PF.St) : Prop := ∃ g6, e = lines_writer_tick_0_st t0 x0 x2 v.1 v.2 g6 ∧ Mg 1 g6
theorem lines_writer_tick_0_sim (t0 : GTick) (x0 : List GSend) (x2 : Int) (x3 : Int) (o2 : Glines_writer) (g6 : Gr) (hg6 : Mg 1 g6) (s : PF.St) (hk : keep [0, 3, 26, 27, 28] [] s = some (lines_writer_tick_0_st t0 x0 x2 x3 o2 g6)) : Sim (lines_writer_tick_0 t0 x0 x2 x3 o2) (Gv (lines_writer_tick_0_rel t0 x0 x2)) (LM.loop ([0, 3, 26, 27, 28], [], [0, 3], B_lines_writer_tick_0) s) := by
  refine sim_loop M XE (lines_writer_tick_0_inv t0 x0 x2) (lines_writer_tick_0_rel t0 x0 x2) ?_ _ _ _ hk ⟨g6, rfl, hg6⟩
  clear hk hg6
  rintro S hS hw hw8 R hR ⟨x3, o2⟩ env hp ⟨g6, he, hg6⟩
  change (⟨env, hp⟩ : PF.St) = lines_writer_tick_0_st t0 x0 x2 x3 o2 g6 at he
  cases he
  show Sim (lines_writer_tick_0_step t0 x0 x2 x3 o2) _ _
  unfold lines_writer_tick_0_step
  simp only [hw]
  refine au (.ite Iff.rfl (fun hc => ?_) fun hc => ?_)
  · refine au ?_
    refine Sim.ix (by simp) (fun z0 hz0 => ?_)
    refine au ?_
    refine Sim.go (idx_map _ hz0) ?_
    refine au ?_
    refine Sim.kl hS (ys := List.map iav [z0.From, z0.To, z0.Delay]) rfl ?_
    refine au ?_
    refine Sim.callR hR (lines_writer_event_sim _ _ _ _ .full Mg.full g6 hg6) ?_
    rintro r5 q ⟨g7, rfl, hg7⟩
    refine au ?_
    exact Sim.ret ⟨_, _, rfl, rfl, ⟨_, rfl, hg7⟩⟩
  · refine au ?_
    exact Sim.ret ⟨_, rfl, ⟨_, rfl, hg6⟩⟩
noncomputable def lines_writer_tick_1_step (t2 : GTick) (x4 : List GBurst) (x5 : Int) (x6 : Int) (o3 : Glines_writer) : Option ((Int × Glines_writer) ⊕ Glines_writer) :=
  if x6 < x5 then
    (idx? x4 x6).bind fun z2 =>
    (lines_writer_event ([98, 117, 114, 115, 116] : List UInt8) z2.Image [z2.Node] o3).bind fun r7 =>
    some (.inl ((wr (x6 + 1)), r7))
  else
    some (.inr o3)
noncomputable def lines_writer_tick_1 (t2 : GTick) (x4 : List GBurst) (x5 : Int) (x6 : Int) (o3 : Glines_writer) : Option Glines_writer :=
  loopO (fun s : Int × Glines_writer => lines_writer_tick_1_step t2 x4 x5 s.1 s.2) (x6, o3)
@[reducible] def lines_writer_tick_1_st (t2 : GTick) (x4 : List GBurst) (x5 : Int) (x6 : Int) (o3 : Glines_writer) (g9 : Gr) : PF.St := ⟨[(0, .ptr 0 0), (3, .ept (GTick.cells t2) 0), (45, lav GBurst.av x4), (46, iav x5), (47, iav x6)], [(0, ⟨true, [.lst g9 (List.map u8av o3.f_out)]⟩)]⟩
def lines_writer_tick_1_rel (t2 : GTick) (x4 : List GBurst) (x5 : Int) (r : Glines_writer) (q : Ex × PF.St) : Prop := (fun r (q : Ex × PF.St) => ∃ g0', q = ((.exit 2), ⟨[(0, .ptr 0 0), (3, .ept (GTick.cells t2) 0)], [(0, ⟨true, [.lst g0' (List.map u8av r.f_out)]⟩)]⟩) ∧ Mg 1 g0') r q
def lines_writer_tick_1_inv (t2 : GTick) (x4 : List GBurst) (x5 : Int) (v : Int × Glines_writer) (e : PF.St) : Prop := ∃ g9, e = lines_writer_tick_1_st t2 x4 x5 v.1 v.2 g9 ∧ Mg 1 g9
theorem lines_writer_tick_1_sim (t2 : GTick) (x4 : List GBurst) (x5 : Int) (x6 : Int) (o3 : Glines_writer) (g9 : Gr) (hg9 : Mg 1 g9) (s : PF.St) (hk : keep [0, 3, 45, 46, 47] [] s = some (lines_writer_tick_1_st t2 x4 x5 x6 o3 g9)) : Sim (lines_writer_tick_1 t2 x4 x5 x6 o3) (Gv (lines_writer_tick_1_rel t2 x4 x5)) (LM.loop ([0, 3, 45, 46, 47], [], [0, 3], B_lines_writer_tick_1) s) := by
  refine sim_loop M XE (lines_writer_tick_1_inv t2 x4 x5) (lines_writer_tick_1_rel t2 x4 x5) ?_ _ _ _ hk ⟨g9, rfl, hg9⟩
  clear hk hg9
  rintro S hS hw hw8 R hR ⟨x6, o3⟩ env hp ⟨g9, he, hg9⟩
  change (⟨env, hp⟩ : PF.St) = lines_writer_tick_1_st t2 x4 x5 x6 o3 g9 at he
  cases he
  show Sim (lines_writer_tick_1_step t2 x4 x5 x6 o3) _ _
  unfold lines_writer_tick_1_step
  simp only [hw]
  refine au (.ite Iff.rfl (fun hc2 => ?_) fun hc2 => ?_)
  · refine au ?_
    refine Sim.ix (by simp) (fun z2 hz2 => ?_)
    refine au ?_
    refine Sim.go (idx_map _ hz2) ?_
    refine au ?_
    refine Sim.kl hS (ys := List.map iav [z2.Node]) rfl ?_
    refine au ?_
    refine Sim.callR hR (lines_writer_event_sim _ _ _ _ .full Mg.full g9 hg9) ?_
    rintro r7 q ⟨g10, rfl, hg10⟩
    refine au ?_
    exact Sim.ret ⟨_, _, rfl, rfl, ⟨_, rfl, hg10⟩⟩
  · refine au ?_
    exact Sim.ret ⟨_, rfl, ⟨_, rfl, hg9⟩⟩
noncomputable def lines_writer_tick_2_step (t3 : GTick) (x7 : List GSend) (x8 : Int) (x9 : Int) (o4 : Glines_writer) : Option ((Int × Glines_writer) ⊕ Glines_writer) :=
  if x9 < x8 then
    (idx? x7 x9).bind fun z3 =>
    (lines_writer_event ([115, 116, 114, 97, 121] : List UInt8) z3.Bytes [z3.From, z3.To, z3.Delay] o4).bind fun r9 =>
    some (.inl ((wr (x9 + 1)), r9))
  else
    some (.inr o4)
noncomputable def lines_writer_tick_2 (t3 : GTick) (x7 : List GSend) (x8 : Int) (x9 : Int) (o4 : Glines_writer) : Option Glines_writer :=
  loopO (fun s : Int × Glines_writer => lines_writer_tick_2_step t3 x7 x8 s.1 s.2) (x9, o4)
@[reducible] def lines_writer_tick_2_st (t3 : GTick) (x7 : List GSend) (x8 : Int) (x9 : Int) (o4 : Glines_writer) (g12 : Gr) : PF.St := ⟨[(0, .ptr 0 0), (3, .ept (GTick.cells t3) 0), (60, lav GSend.av x7), (61, iav x8), (62, iav x9)], [(0, ⟨true, [.lst g12 (List.map u8av o4.f_out)]⟩)]⟩
def lines_writer_tick_2_rel (t3 : GTick) (x7 : List GSend) (x8 : Int) (r : Glines_writer) (q : Ex × PF.St) : Prop := (fun r (q : Ex × PF.St) => ∃ g0', q = ((.exit 4), ⟨[(0, .ptr 0 0), (3, .ept (GTick.cells t3) 0)], [(0, ⟨true, [.lst g0' (List.map u8av r.f_out)]⟩)]⟩) ∧ Mg 1 g0') r q
def lines_writer_tick_2_inv (t3 : GTick) (x7 : List GSend) (x8 : Int) (v : Int × Glines_writer) (e : PF.St) : Prop := ∃ g12, e = lines_writer_tick_2_st t3 x7 x8 v.1 v.2 g12 ∧ Mg 1 g12
theorem lines_writer_tick_2_sim (t3 : GTick) (x7 : List GSend) (x8 : Int) (x9 : Int) (o4 : Glines_writer) (g12 : Gr) (hg12 : Mg 1 g12) (s : PF.St) (hk : keep [0, 3, 60, 61, 62] [] s = some (lines_writer_tick_2_st t3 x7 x8 x9 o4 g12)) : Sim (lines_writer_tick_2 t3 x7 x8 x9 o4) (Gv (lines_writer_tick_2_rel t3 x7 x8)) (LM.loop ([0, 3, 60, 61, 62], [], [0, 3], B_lines_writer_tick_2) s) := by
  refine sim_loop M XE (lines_writer_tick_2_inv t3 x7 x8) (lines_writer_tick_2_rel t3 x7 x8) ?_ _ _ _ hk ⟨g12, rfl, hg12⟩
  clear hk hg12
  rintro S hS hw hw8 R hR ⟨x9, o4⟩ env hp ⟨g12, he, hg12⟩
  change (⟨env, hp⟩ : PF.St) = lines_writer_tick_2_st t3 x7 x8 x9 o4 g12 at he
  cases he
  show Sim (lines_writer_tick_2_step t3 x7 x8 x9 o4) _ _
  unfold lines_writer_tick_2_step
  simp only [hw]
  refine au (.ite Iff.rfl (fun hc3 => ?_) fun hc3 => ?_)
  · refine au ?_
    refine Sim.ix (by simp) (fun z3 hz3 => ?_)
    refine au ?_
    refine Sim.go (idx_map _ hz3) ?_
    refine au ?_
    refine Sim.kl hS (ys := List.map iav [z3.From, z3.To, z3.Delay]) rfl ?_
    refine au ?_
    refine Sim.callR hR (lines_writer_event_sim _ _ _ _ .full Mg.full g12 hg12) ?_
    rintro r9 q ⟨g13, rfl, hg13⟩
    refine au ?_
    exact Sim.ret ⟨_, _, rfl, rfl, ⟨_, rfl, hg13⟩⟩
  · refine au ?_
    exact Sim.ret ⟨_, rfl, ⟨_, rfl, hg12⟩⟩
noncomputable def lines_writer_tick_3_step (x10 : List GWrite) (x11 : Int) (x12 : Int) (o5 : Glines_writer) : Option ((Int × Glines_writer) ⊕ Glines_writer) :=
  if x12 < x11 then
    (idx? x10 x12).bind fun z4 =>
    (lines_writer_event ([119, 114, 105, 116, 101] : List UInt8) z4.Text [z4.Node] o5).bind fun r11 =>
    some (.inl ((wr (x12 + 1)), r11))
  else
    some (.inr o5)
noncomputable def lines_writer_tick_3 (x10 : List GWrite) (x11 : Int) (x12 : Int) (o5 : Glines_writer) : Option Glines_writer :=
  loopO (fun s : Int × Glines_writer => lines_writer_tick_3_step x10 x11 s.1 s.2) (x12, o5)
@[reducible] def lines_writer_tick_3_st (x10 : List GWrite) (x11 : Int) (x12 : Int) (o5 : Glines_writer) (g15 : Gr) : PF.St := ⟨[(0, .ptr 0 0), (79, lav GWrite.av x10), (80, iav x11), (81, iav x12)], [(0, ⟨true, [.lst g15 (List.map u8av o5.f_out)]⟩)]⟩
def lines_writer_tick_3_rel (x10 : List GWrite) (x11 : Int) (r : Glines_writer) (q : Ex × PF.St) : Prop := (fun r (q : Ex × PF.St) => ∃ g0', q = ((.exit 6), ⟨[], [(0, ⟨true, [.lst g0' (List.map u8av r.f_out)]⟩)]⟩) ∧ Mg 1 g0') r q
def lines_writer_tick_3_inv (x10 : List GWrite) (x11 : Int) (v : Int × Glines_writer) (e : PF.St) : Prop := ∃ g15, e = lines_writer_tick_3_st x10 x11 v.1 v.2 g15 ∧ Mg 1 g15
theorem lines_writer_tick_3_sim (x10 : List GWrite) (x11 : Int) (x12 : Int) (o5 : Glines_writer) (g15 : Gr) (hg15 : Mg 1 g15) (s : PF.St) (hk : keep [0, 79, 80, 81] [] s = some (lines_writer_tick_3_st x10 x11 x12 o5 g15)) : Sim (lines_writer_tick_3 x10 x11 x12 o5) (Gv (lines_writer_tick_3_rel x10 x11)) (LM.loop ([0, 79, 80, 81], [], [], B_lines_writer_tick_3) s) := by
  refine sim_loop M XE (lines_writer_tick_3_inv x10 x11) (lines_writer_tick_3_rel x10 x11) ?_ _ _ _ hk ⟨g15, rfl, hg15⟩
  clear hk hg15
  rintro S hS hw hw8 R hR ⟨x12, o5⟩ env hp ⟨g15, he, hg15⟩
  change (⟨env, hp⟩ : PF.St) = lines_writer_tick_3_st x10 x11 x12 o5 g15 at he
  cases he
  show Sim (lines_writer_tick_3_step x10 x11 x12 o5) _ _
  unfold lines_writer_tick_3_step
  simp only [hw]
  refine au (.ite Iff.rfl (fun hc4 => ?_) fun hc4 => ?_)
  · refine au ?_
    refine Sim.ix (by simp) (fun z4 hz4 => ?_)
    refine au ?_
    refine Sim.go (idx_map _ hz4) ?_
    refine au ?_
    refine Sim.kl hS (ys := List.map iav [z4.Node]) rfl ?_
    refine au ?_
    refine Sim.callR hR (lines_writer_event_sim _ _ _ _ .full Mg.full g15 hg15) ?_
    rintro r11 q ⟨g16, rfl, hg16⟩
    refine au ?_
    exact Sim.ret ⟨_, _, rfl, rfl, ⟨_, rfl, hg16⟩⟩
  · refine au ?_
    exact Sim.ret ⟨_, rfl, ⟨_, rfl, hg15⟩⟩
noncomputable def lines_writer_tick (i0 : GTick) (o0 : Glines_writer) : Option Glines_writer :=
  (lines_writer_numbers_v2 ([116, 105, 99, 107] : List UInt8) ([] : List Int) o0).bind fun r0 =>
  (lines_writer_put [10] r0).bind fun r2 =>
  (lines_writer_some_v1 ([117, 110, 105, 116, 115] : List UInt8) i0.Units r2).bind fun r3 =>
  (lines_writer_some_v1 ([100, 101, 108, 97, 121, 115] : List UInt8) i0.Delays r3).bind fun r4 =>
  (lines_writer_tick_0 i0 i0.Sends (List.length i0.Sends : Int) 0 r4).bind fun r6 =>
  (lines_writer_tick_1 i0 i0.Bursts (List.length i0.Bursts : Int) 0 r6).bind fun r8 =>
  (lines_writer_tick_2 i0 i0.Strays (List.length i0.Strays : Int) 0 r8).bind fun r10 =>
  (lines_writer_tick_3 i0.Writes (List.length i0.Writes : Int) 0 r10).bind fun r12 =>
  some r12
theorem lines_writer_tick_sim (i0 : GTick) (o0 : Glines_writer) (g0 : Gr) (hg0 : Mg 1 g0) : Sim (lines_writer_tick i0 o0) (Gv fun r q => ∃ g0, q = (.tup [], [⟨true, [.lst g0 (List.map u8av r.f_out)]⟩]) ∧ Mg 1 g0) (LM.call n_lines_writer_tick [.ptr 0 0, GTick.av i0] [⟨true, [.lst g0 (List.map u8av o0.f_out)]⟩]) := by
  unfold lines_writer_tick
  refine sim_evR M XE rfl rfl fun S hS hw hw8 R hR => ?_
  refine au ?_
  refine Sim.callR hR (lines_writer_numbers_v2_sim _ _ _ .full Mg.full g0 hg0) ?_
  rintro r0 q ⟨g2, rfl, hg2⟩
  refine au ?_
  refine Sim.kl hS (ys := List.map u8av [10]) rfl ?_
  refine au ?_
  refine Sim.callR hR (lines_writer_put_sim _ _ .full Mg.full g2 hg2) ?_
  rintro r2 q ⟨g3, rfl, hg3⟩
  refine au ?_
  refine Sim.callR hR (lines_writer_some_v1_sim _ _ _ g3 hg3) ?_
  rintro r3 q ⟨g4, rfl, hg4⟩
  refine au ?_
  refine Sim.callR hR (lines_writer_some_v1_sim _ _ _ g4 hg4) ?_
  rintro r4 q ⟨g5, rfl, hg5⟩
  refine au ?_
  refine Sim.ki hS (m := (List.length i0.Sends : Int)) (by simp) ?_
  refine au ?_
  refine Sim.callL hR (lines_writer_tick_0_sim i0 i0.Sends (List.length i0.Sends : Int) 0 r4 g5 hg5 _ rfl) ?_
  rintro r6 q ⟨g8, rfl, hg8⟩
  refine au ?_
  refine Sim.ki hS (m := (List.length i0.Bursts : Int)) (by simp) ?_
  refine au ?_
  refine Sim.callL hR (lines_writer_tick_1_sim i0 i0.Bursts (List.length i0.Bursts : Int) 0 r6 g8 hg8 _ rfl) ?_
  rintro r8 q ⟨g11, rfl, hg11⟩
  refine au ?_
  refine Sim.ki hS (m := (List.length i0.Strays : Int)) (by simp) ?_
  refine au ?_
  refine Sim.callL hR (lines_writer_tick_2_sim i0 i0.Strays (List.length i0.Strays : Int) 0 r8 g11 hg11 _ rfl) ?_
  rintro r10 q ⟨g14, rfl, hg14⟩
  refine au ?_
  refine Sim.ki hS (m := (List.length i0.Writes : Int)) (by simp) ?_
  refine au ?_
  refine Sim.callL hR (lines_writer_tick_3_sim i0.Writes (List.length i0.Writes : Int) 0 r10 g14 hg14 _ rfl) ?_
  rintro r12 q ⟨g17, rfl, hg17⟩
  refine au ?_
  exact Sim.ret ⟨_, rfl, ⟨_, rfl, hg17⟩⟩
noncomputable def lines_Write_0_step (i0 : GScript) (x0 : List (List UInt8)) (x2 : Int) (o0 : GConf) (x3 : Int) (t0 : Glines_writer) : Option ((Int × Glines_writer) ⊕ Glines_writer) :=
  if x3 < x2 then
    (idx? x0 x3).bind fun z0 =>
    (lines_writer_event ([105, 109, 97, 103, 101] : List UInt8) z0 ([] : List Int) t0).bind fun r5 =>
    some (.inl ((wr (x3 + 1)), r5))
  else
    some (.inr t0)
noncomputable def lines_Write_0 (i0 : GScript) (x0 : List (List UInt8)) (x2 : Int) (o0 : GConf) (x3 : Int) (t0 : Glines_writer) : Option Glines_writer :=
  loopO (fun s : Int × Glines_writer => lines_Write_0_step i0 x0 x2 o0 s.1 s.2) (x3, t0)
@[reducible] def lines_Write_0_st (i0 : GScript) (x0 : List (List UInt8)) (x2 : Int) (o0 : GConf) (x3 : Int) (t0 : Glines_writer) (g4 : Gr) : PF.St := ⟨[(1, .ept (GScript.cells i0) 0), (5, .ptr 105 0), (47, lav sav x0), (48, iav x2), (49, iav x3)], [(106, ⟨true, GConf.cells o0⟩), (105, ⟨true, [.lst g4 (List.map u8av t0.f_out)]⟩)]⟩
def lines_Write_0_rel (i0 : GScript) (x0 : List (List UInt8)) (x2 : Int) (o0 : GConf) (r : Glines_writer) (q : Ex × PF.St) : Prop := (fun r (q : Ex × PF.St) => ∃ g0', q = ((.exit 0), ⟨[(1, .ept (GScript.cells i0) 0), (5, .ptr 105 0)], [(106, ⟨true, GConf.cells o0⟩), (105, ⟨true, [.lst g0' (List.map u8av r.f_out)]⟩)]⟩) ∧ Mg 1 g0') r q
def lines_Write_0_inv (i0 : GScript) (x0 : List (List UInt8)) (x2 : Int) (o0 : GConf) (v : Int × Glines_writer) (e : PF.St) : Prop := ∃ g4, e = lines_Write_0_st i0 x0 x2 o0 v.1 v.2 g4 ∧ Mg 1 g4
theorem lines_Write_0_sim (i0 : GScript) (x0 : List (List UInt8)) (x2 : Int) (o0 : GConf) (x3 : Int) (t0 : Glines_writer) (g4 : Gr) (hg4 : Mg 1 g4) (s : PF.St) (hk : keep [1, 5, 47, 48, 49] [105, 106] s = some (lines_Write_0_st i0 x0 x2 o0 x3 t0 g4)) : Sim (lines_Write_0 i0 x0 x2 o0 x3 t0) (Gv (lines_Write_0_rel i0 x0 x2 o0)) (LM.loop ([1, 5, 47, 48, 49], [105, 106], [1, 5], B_lines_Write_0) s) := by
  refine sim_loop M XE (lines_Write_0_inv i0 x0 x2 o0) (lines_Write_0_rel i0 x0 x2 o0) ?_ _ _ _ hk ⟨g4, rfl, hg4⟩
  clear hk hg4
  rintro S hS hw hw8 R hR ⟨x3, t0⟩ env hp ⟨g4, he, hg4⟩
  change (⟨env, hp⟩ : PF.St) = lines_Write_0_st i0 x0 x2 o0 x3 t0 g4 at he
  cases he
  show Sim (lines_Write_0_step i0 x0 x2 o0 x3 t0) _ _
  unfold lines_Write_0_step
  simp only [hw]
  refine au (.ite Iff.rfl (fun hc2 => ?_) fun hc2 => ?_)
  · refine au ?_
    refine Sim.ix (by simp) (fun z0 hz0 => ?_)
    refine au ?_
    refine Sim.go (idx_map _ hz0) ?_
    refine au ?_
    refine Sim.callR hR (lines_writer_event_sim _ _ _ _ .full Mg.full g4 hg4) ?_
    rintro r5 q ⟨g5, rfl, hg5⟩
    refine au ?_
    exact Sim.ret ⟨_, _, rfl, rfl, ⟨_, rfl, hg5⟩⟩
  · refine au ?_
    exact Sim.ret ⟨_, rfl, ⟨_, rfl, hg4⟩⟩
noncomputable def lines_Write_1_step (x4 : List GTick) (x5 : Int) (o2 : GConf) (x6 : Int) (t2 : Glines_writer) : Option ((Int × Glines_writer) ⊕ Glines_writer) :=
  if x6 < x5 then
    (idx? x4 x6).bind fun z2 =>
    (lines_writer_tick z2 t2).bind fun r7 =>
    some (.inl ((wr (x6 + 1)), r7))
  else
    some (.inr t2)
noncomputable def lines_Write_1 (x4 : List GTick) (x5 : Int) (o2 : GConf) (x6 : Int) (t2 : Glines_writer) : Option Glines_writer :=
  loopO (fun s : Int × Glines_writer => lines_Write_1_step x4 x5 o2 s.1 s.2) (x6, t2)
@[reducible] def lines_Write_1_st (x4 : List GTick) (x5 : Int) (o2 : GConf) (x6 : Int) (t2 : Glines_writer) (g7 : Gr) : PF.St := ⟨[(5, .ptr 105 0), (57, lav GTick.av x4), (58, iav x5), (59, iav x6)], [(106, ⟨true, GConf.cells o2⟩), (105, ⟨true, [.lst g7 (List.map u8av t2.f_out)]⟩)]⟩
def lines_Write_1_rel (x4 : List GTick) (x5 : Int) (o2 : GConf) (r : Glines_writer) (q : Ex × PF.St) : Prop := (fun r (q : Ex × PF.St) => ∃ g0', q = ((.exit 2), ⟨[(5, .ptr 105 0)], [(106, ⟨true, GConf.cells o2⟩), (105, ⟨true, [.lst g0' (List.map u8av r.f_out)]⟩)]⟩) ∧ Mg 1 g0') r q
def lines_Write_1_inv (x4 : List GTick) (x5 : Int) (o2 : GConf) (v : Int × Glines_writer) (e : PF.St) : Prop := ∃ g7, e = lines_Write_1_st x4 x5 o2 v.1 v.2 g7 ∧ Mg 1 g7
theorem lines_Write_1_sim (x4 : List GTick) (x5 : Int) (o2 : GConf) (x6 : Int) (t2 : Glines_writer) (g7 : Gr) (hg7 : Mg 1 g7) (s : PF.St) (hk : keep [5, 57, 58, 59] [105, 106] s = some (lines_Write_1_st x4 x5 o2 x6 t2 g7)) : Sim (lines_Write_1 x4 x5 o2 x6 t2) (Gv (lines_Write_1_rel x4 x5 o2)) (LM.loop ([5, 57, 58, 59], [105, 106], [5], B_lines_Write_1) s) := by
  refine sim_loop M XE (lines_Write_1_inv x4 x5 o2) (lines_Write_1_rel x4 x5 o2) ?_ _ _ _ hk ⟨g7, rfl, hg7⟩
  clear hk hg7
  rintro S hS hw hw8 R hR ⟨x6, t2⟩ env hp ⟨g7, he, hg7⟩
  change (⟨env, hp⟩ : PF.St) = lines_Write_1_st x4 x5 o2 x6 t2 g7 at he
  cases he
  show Sim (lines_Write_1_step x4 x5 o2 x6 t2) _ _
  unfold lines_Write_1_step
  simp only [hw]
  refine au (.ite Iff.rfl (fun hc3 => ?_) fun hc3 => ?_)
  · refine au ?_
    refine Sim.ix (by simp) (fun z2 hz2 => ?_)
    refine au ?_
    refine Sim.go (idx_map _ hz2) ?_
    refine au ?_
    refine Sim.callR hR (lines_writer_tick_sim _ _ g7 hg7) ?_
    rintro r7 q ⟨g8, rfl, hg8⟩
    refine au ?_
    exact Sim.ret ⟨_, _, rfl, rfl, ⟨_, rfl, hg8⟩⟩
  · refine au ?_
    exact Sim.ret ⟨_, rfl, ⟨_, rfl, hg7⟩⟩
noncomputable def lines_Write (L0 : GScript) : Option ((List UInt8) × Int) :=
  (script_Right L0).bind fun r0 =>
  if r0 ≠ 0 then
    some (([] : List UInt8), r0)
  else
    (lines_writer_some ([99, 111, 110, 102] : List UInt8) [L0.Conf.N, L0.Conf.F, L0.Conf.D, L0.Conf.Period, L0.Conf.Rate, L0.Conf.Drift, L0.Conf.Offset, L0.Conf.Slot, L0.Conf.Mod, L0.Conf.Fresh] (Glines_writer.mk ([] : List Int))).bind fun r2 =>
    (lines_writer_some_v1 ([116, 97, 98, 108, 101] : List UInt8) L0.Conf.Table r2).bind fun r3 =>
    (lines_writer_some_v1 ([102, 97, 117, 108, 116, 121] : List UInt8) L0.Faulty r3).bind fun r4 =>
    (lines_Write_0 L0 L0.Images (List.length L0.Images : Int) L0.Conf 0 r4).bind fun r6 =>
    (lines_Write_1 L0.Ticks (List.length L0.Ticks : Int) L0.Conf 0 r6).bind fun r8 =>
    (lines_writer_numbers_v2 ([101, 110, 100] : List UInt8) ([] : List Int) r8).bind fun r9 =>
    (lines_writer_put [10] r9).bind fun r10 =>
    some ((bytesOf r10.f_out), 0)
theorem lines_Write_sim (L0 : GScript) : Sim (lines_Write L0) (Gv fun r q => q = (.tup [.str r.1, iav r.2], [])) (LM.call n_lines_Write [GScript.av L0] []) := by
  unfold lines_Write
  refine sim_evR M XE rfl rfl fun S hS hw hw8 R hR => ?_
  refine au (cE hR (script_Right_sim _) fun r0 => ?_)
  refine au (.ite Iff.rfl (fun hc => ?_) fun hc => ?_)
  · exact au (.ret ⟨_, rfl, rfl⟩)
  · refine au ?_
    refine Sim.kl hS (ys := List.map iav [L0.Conf.N, L0.Conf.F, L0.Conf.D, L0.Conf.Period, L0.Conf.Rate, L0.Conf.Drift, L0.Conf.Offset, L0.Conf.Slot, L0.Conf.Mod, L0.Conf.Fresh]) rfl ?_
    refine au ?_
    refine Sim.callR hR (lines_writer_some_sim _ _ _ .full Mg.full .full Mg.full) ?_
    rintro r2 q ⟨g0, rfl, hg0⟩
    refine au ?_
    refine Sim.callR hR (lines_writer_some_v1_sim _ _ _ g0 hg0) ?_
    rintro r3 q ⟨g2, rfl, hg2⟩
    refine au ?_
    refine Sim.callR hR (lines_writer_some_v1_sim _ _ _ g2 hg2) ?_
    rintro r4 q ⟨g3, rfl, hg3⟩
    refine au ?_
    refine Sim.ki hS (m := (List.length L0.Images : Int)) (by simp) ?_
    refine au ?_
    refine Sim.callL hR (lines_Write_0_sim L0 L0.Images (List.length L0.Images : Int) L0.Conf 0 r4 g3 hg3 _ rfl) ?_
    rintro r6 q ⟨g6, rfl, hg6⟩
    refine au ?_
    refine Sim.ki hS (m := (List.length L0.Ticks : Int)) (by simp) ?_
    refine au ?_
    refine Sim.callL hR (lines_Write_1_sim L0.Ticks (List.length L0.Ticks : Int) L0.Conf 0 r6 g6 hg6 _ rfl) ?_
    rintro r8 q ⟨g9, rfl, hg9⟩
    refine au ?_
    refine Sim.callR hR (lines_writer_numbers_v2_sim _ _ _ .full Mg.full g9 hg9) ?_
    rintro r9 q ⟨g10, rfl, hg10⟩
    refine au ?_
    refine Sim.kl hS (ys := List.map u8av [10]) rfl ?_
    refine au ?_
    refine Sim.callR hR (lines_writer_put_sim _ _ .full Mg.full g10 hg10) ?_
    rintro r10 q ⟨g11, rfl, hg11⟩
    refine au ?_
    refine Sim.go (bytes_mapM _) ?_
    exact au (.ret ⟨_, rfl, rfl⟩)
noncomputable def r03_within (n0 : Int) (low : Int) (high : Int) : Option Bool :=
  if low ≤ n0 then
    some (decide (n0 ≤ high))
  else
    some false
theorem r03_within_sim (n0 : Int) (low : Int) (high : Int) : Sim (r03_within n0 low high) (Gv fun r q => q = (.bool r, [])) (LM.call n_r03_within [iav n0, iav low, iav high] []) := by
  unfold r03_within
  refine sim_evR M XE rfl rfl fun S hS hw hw8 R hR => ?_
  refine au (.ite Iff.rfl (fun hc => ?_) fun hc => ?_)
  · exact au (.ret ⟨_, rfl, rfl⟩)
  · exact au (.ret ⟨_, rfl, rfl⟩)
noncomputable def r03_owned_0_step (c2 : GConf) (i0 : Int) : Option ((Int) ⊕ ((Bool) ⊕ (Unit))) :=
  if i0 < (List.length c2.Table : Int) then
    (idx? c2.Table i0).bind fun z0 =>
    (r03_within z0 0 (wr (c2.N - 1))).bind fun r0 =>
    if (!r0) = true then
      some (.inr (.inl false))
    else
      some (.inl (wr (i0 + 1)))
  else
    some (.inr (.inr ()))
noncomputable def r03_owned_0 (c2 : GConf) (i0 : Int) : Option ((Bool) ⊕ (Unit)) :=
  loopO (fun s : Int => r03_owned_0_step c2 s) i0
@[reducible] def r03_owned_0_st (c2 : GConf) (i0 : Int) : PF.St := ⟨[(1, .ept (GConf.cells c2) 0), (3, iav i0)], []⟩
def r03_owned_0_rel (c2 : GConf) (r : ((Bool) ⊕ (Unit))) (q : Ex × PF.St) : Prop := (fun r (q : Ex × PF.St) => Sum.elim (fun r => (fun r (q : Ex × PF.St) => q = (Ex.ret, ⟨[(1, .ept (GConf.cells c2) 0), (2, .bool r)], []⟩)) r q) (fun r => (fun r (q : Ex × PF.St) => q = ((.exit 0), ⟨[(1, .ept (GConf.cells c2) 0), (2, .undef)], []⟩)) r q) r) r q
def r03_owned_0_inv (c2 : GConf) (v : Int) (e : PF.St) : Prop := e = r03_owned_0_st c2 v
theorem r03_owned_0_sim (c2 : GConf) (i0 : Int) (s : PF.St) (hk : keep [1, 3] [] s = some (r03_owned_0_st c2 i0)) : Sim (r03_owned_0 c2 i0) (Gv (r03_owned_0_rel c2)) (LM.loop ([1, 3], [], [1, 2], B_r03_owned_0) s) := by
  refine sim_loop M XE (r03_owned_0_inv c2) (r03_owned_0_rel c2) ?_ _ _ _ hk rfl
  clear hk
  rintro S hS hw hw8 R hR i0 env hp he
  change (⟨env, hp⟩ : PF.St) = r03_owned_0_st c2 i0 at he
  cases he
  show Sim (r03_owned_0_step c2 i0) _ _
  unfold r03_owned_0_step
  simp only [hw]
  refine au ?_
  refine Sim.ki hS (m := (List.length c2.Table : Int)) (by simp) ?_
  refine au (.ite Iff.rfl (fun hc => ?_) fun hc => ?_)
  · refine au ?_
    refine Sim.ix (by simp) (fun z0 hz0 => ?_)
    refine au ?_
    refine Sim.go (idx_map _ hz0) ?_
    refine au (cE hR (r03_within_sim _ _ _) fun r0 => ?_)
    refine au (.iteB (fun hc2 => ?_) fun hc2 => ?_)
    · exact au (.ret ⟨_, rfl, rfl⟩)
    · refine au ?_
      exact Sim.ret ⟨_, _, rfl, rfl, rfl⟩
  · exact au (.ret ⟨_, rfl, rfl⟩)
noncomputable def r03_owned_1_step (c4 : GConf) (n2 : Int) (has : Bool) (i2 : Int) : Option ((Bool × Int) ⊕ Bool) :=
  if i2 < (List.length c4.Table : Int) then
    if has = true then
      some (.inl (true, (wr (i2 + 1))))
    else
      (idx? c4.Table i2).bind fun z2 =>
      some (.inl ((decide (z2 = n2)), (wr (i2 + 1))))
  else
    some (.inr has)
noncomputable def r03_owned_1 (c4 : GConf) (n2 : Int) (has : Bool) (i2 : Int) : Option Bool :=
  loopO (fun s : Bool × Int => r03_owned_1_step c4 n2 s.1 s.2) (has, i2)
@[reducible] def r03_owned_1_st (c4 : GConf) (n2 : Int) (has : Bool) (i2 : Int) : PF.St := ⟨[(1, .ept (GConf.cells c4) 0), (4, iav n2), (5, .bool has), (6, iav i2)], []⟩
def r03_owned_1_rel (c4 : GConf) (n2 : Int) (r : Bool) (q : Ex × PF.St) : Prop := (fun r (q : Ex × PF.St) => q = ((.exit 4), ⟨[(1, .ept (GConf.cells c4) 0), (4, iav n2), (5, .bool r)], []⟩)) r q
def r03_owned_1_inv (c4 : GConf) (n2 : Int) (v : Bool × Int) (e : PF.St) : Prop := e = r03_owned_1_st c4 n2 v.1 v.2
theorem r03_owned_1_sim (c4 : GConf) (n2 : Int) (has : Bool) (i2 : Int) (s : PF.St) (hk : keep [1, 4, 5, 6] [] s = some (r03_owned_1_st c4 n2 has i2)) : Sim (r03_owned_1 c4 n2 has i2) (Gv (r03_owned_1_rel c4 n2)) (LM.loop ([1, 4, 5, 6], [], [1, 4, 5], B_r03_owned_1) s) := by
  refine sim_loop M XE (r03_owned_1_inv c4 n2) (r03_owned_1_rel c4 n2) ?_ _ _ _ hk rfl
  clear hk
  rintro S hS hw hw8 R hR ⟨has, i2⟩ env hp he
  change (⟨env, hp⟩ : PF.St) = r03_owned_1_st c4 n2 has i2 at he
  cases he
  show Sim (r03_owned_1_step c4 n2 has i2) _ _
  unfold r03_owned_1_step
  simp only [hw]
  refine au ?_
  refine Sim.ki hS (m := (List.length c4.Table : Int)) (by simp) ?_
  refine au (.ite Iff.rfl (fun hc4 => ?_) fun hc4 => ?_)
  · refine au (.iteB (fun hc5 => ?_) fun hc5 => ?_)
    · refine au ?_
      exact Sim.ret ⟨_, _, rfl, rfl, rfl⟩
    · refine au ?_
      refine Sim.ix (by simp) (fun z2 hz2 => ?_)
      refine au ?_
      refine Sim.go (idx_map _ hz2) ?_
      refine au ?_
      exact Sim.ret ⟨_, _, rfl, rfl, rfl⟩
  · exact au (.ret ⟨_, rfl, rfl⟩)
noncomputable def r03_owned_2_step (c3 : GConf) (n0 : Int) : Option ((Int) ⊕ ((Bool) ⊕ (Unit))) :=
  if n0 < c3.N then
    (r03_owned_1 c3 n0 false 0).bind fun r5 =>
    if (!r5) = true then
      some (.inr (.inl false))
    else
      some (.inl (wr (n0 + 1)))
  else
    some (.inr (.inr ()))
noncomputable def r03_owned_2 (c3 : GConf) (n0 : Int) : Option ((Bool) ⊕ (Unit)) :=
  loopO (fun s : Int => r03_owned_2_step c3 s) n0
@[reducible] def r03_owned_2_st (c3 : GConf) (n0 : Int) : PF.St := ⟨[(1, .ept (GConf.cells c3) 0), (4, iav n0)], []⟩
def r03_owned_2_rel (c3 : GConf) (r : ((Bool) ⊕ (Unit))) (q : Ex × PF.St) : Prop := (fun r (q : Ex × PF.St) => Sum.elim (fun r => (fun r (q : Ex × PF.St) => q = (Ex.ret, ⟨[(2, .bool r)], []⟩)) r q) (fun r => (fun r (q : Ex × PF.St) => q = ((.exit 2), ⟨[(2, .undef)], []⟩)) r q) r) r q
def r03_owned_2_inv (c3 : GConf) (v : Int) (e : PF.St) : Prop := e = r03_owned_2_st c3 v
theorem r03_owned_2_sim (c3 : GConf) (n0 : Int) (s : PF.St) (hk : keep [1, 4] [] s = some (r03_owned_2_st c3 n0)) : Sim (r03_owned_2 c3 n0) (Gv (r03_owned_2_rel c3)) (LM.loop ([1, 4], [], [2], B_r03_owned_2) s) := by
  refine sim_loop M XE (r03_owned_2_inv c3) (r03_owned_2_rel c3) ?_ _ _ _ hk rfl
  clear hk
  rintro S hS hw hw8 R hR n0 env hp he
  change (⟨env, hp⟩ : PF.St) = r03_owned_2_st c3 n0 at he
  cases he
  show Sim (r03_owned_2_step c3 n0) _ _
  unfold r03_owned_2_step
  simp only [hw]
  refine au (.ite Iff.rfl (fun hc3 => ?_) fun hc3 => ?_)
  · refine au ?_
    refine Sim.callL hR (r03_owned_1_sim c3 n0 false 0 _ rfl) ?_
    rintro r5 q rfl
    refine au (.iteB (fun hc6 => ?_) fun hc6 => ?_)
    · exact au (.ret ⟨_, rfl, rfl⟩)
    · refine au ?_
      exact Sim.ret ⟨_, _, rfl, rfl, rfl⟩
  · exact au (.ret ⟨_, rfl, rfl⟩)
noncomputable def r03_owned (c0 : GConf) : Option Bool :=
  (r03_owned_0 c0 0).bind fun r2 =>
  Sum.elim
    (fun r3 =>
      some r3)
    (fun r4 =>
      (r03_owned_2 c0 0).bind fun r6 =>
      Sum.elim
        (fun r7 =>
          some r7)
        (fun r8 =>
          some true)
        r6)
    r2
theorem r03_owned_sim (c0 : GConf) : Sim (r03_owned c0) (Gv fun r q => q = (.bool r, [])) (LM.call n_r03_owned [GConf.av c0] []) := by
  unfold r03_owned
  refine sim_evR M XE rfl rfl fun S hS hw hw8 R hR => ?_
  refine au ?_
  refine Sim.callL hR (r03_owned_0_sim c0 0 _ rfl) ?_
  rintro r2 q hr
  rcases r2 with r3 | r4
  · cases hr
    exact au (.ret ⟨_, rfl, rfl⟩)
  · cases hr
    refine au ?_
    refine Sim.callL hR (r03_owned_2_sim c0 0 _ rfl) ?_
    rintro r6 q hr
    rcases r6 with r7 | r8
    · cases hr
      exact au (.ret ⟨_, rfl, rfl⟩)
    · cases hr
      exact au (.ret ⟨_, rfl, rfl⟩)
noncomputable def r03_Plain (L0 : GConf) : Option Int :=
  (r03_within L0.N 4 13).bind fun r0 =>
  if (!r0) = true then
    some 7
  else
    (r03_within L0.F 0 4).bind fun r2 =>
    if (!r2) = true then
      some 7
    else
      if L0.N ≤ (wr (3 * L0.F)) then
        some 7
      else
        (r03_within L0.D 1 4).bind fun r3 =>
        if (!r3) = true then
          some 10
        else
          (r03_within L0.Period (wr ((wr ((wr (6 * (wr (L0.F + 1)))) * L0.D)) + 1)) 400).bind fun r4 =>
          if (!r4) = true then
            some 8
          else
            (r03_within L0.Rate 1 64).bind fun r5 =>
            if (!r5) = true then
              some 8
            else
              (r03_within L0.Drift 0 (wr (L0.Rate - 1))).bind fun r6 =>
              if (!r6) = true then
                some 8
              else
                (r03_within L0.Offset 0 30000).bind fun r7 =>
                if (!r7) = true then
                  some 8
                else
                  (r03_within L0.Slot 1 30000).bind fun r8 =>
                  if (!r8) = true then
                    some 8
                  else
                    (r03_within L0.Mod 2 250).bind fun r9 =>
                    if (!r9) = true then
                      some 8
                    else
                      (r03_within L0.Fresh 1 100).bind fun r10 =>
                      if (!r10) = true then
                        some 8
                      else
                        (r03_within (List.length L0.Table : Int) 1 32).bind fun r11 =>
                        if (!r11) = true then
                          some 11
                        else
                          (r03_owned L0).bind fun r12 =>
                          if (!r12) = true then
                            some 11
                          else
                            some 0
theorem r03_Plain_sim (L0 : GConf) : Sim (r03_Plain L0) (Gv fun r q => q = (iav r, [])) (LM.call n_r03_Plain [GConf.av L0] []) := by
  unfold r03_Plain
  refine sim_evR M XE rfl rfl fun S hS hw hw8 R hR => ?_
  simp only [hw]
  refine au (cE hR (r03_within_sim _ _ _) fun r0 => ?_)
  refine au (.iteB (fun hc => ?_) fun hc => ?_)
  · exact au (.ret ⟨_, rfl, rfl⟩)
  · refine au (cE hR (r03_within_sim _ _ _) fun r2 => ?_)
    refine au (.iteB (fun hc2 => ?_) fun hc2 => ?_)
    · exact au (.ret ⟨_, rfl, rfl⟩)
    · refine au (.ite Iff.rfl (fun hc3 => ?_) fun hc3 => ?_)
      · exact au (.ret ⟨_, rfl, rfl⟩)
      · refine au (cE hR (r03_within_sim _ _ _) fun r3 => ?_)
        refine au (.iteB (fun hc4 => ?_) fun hc4 => ?_)
        · exact au (.ret ⟨_, rfl, rfl⟩)
        · refine au (cE hR (r03_within_sim _ _ _) fun r4 => ?_)
          refine au (.iteB (fun hc5 => ?_) fun hc5 => ?_)
          · exact au (.ret ⟨_, rfl, rfl⟩)
          · refine au (cE hR (r03_within_sim _ _ _) fun r5 => ?_)
            refine au (.iteB (fun hc6 => ?_) fun hc6 => ?_)
            · exact au (.ret ⟨_, rfl, rfl⟩)
            · refine au (cE hR (r03_within_sim _ _ _) fun r6 => ?_)
              refine au (.iteB (fun hc7 => ?_) fun hc7 => ?_)
              · exact au (.ret ⟨_, rfl, rfl⟩)
              · refine au (cE hR (r03_within_sim _ _ _) fun r7 => ?_)
                refine au (.iteB (fun hc8 => ?_) fun hc8 => ?_)
                · exact au (.ret ⟨_, rfl, rfl⟩)
                · refine au (cE hR (r03_within_sim _ _ _) fun r8 => ?_)
                  refine au (.iteB (fun hc9 => ?_) fun hc9 => ?_)
                  · exact au (.ret ⟨_, rfl, rfl⟩)
                  · refine au (cE hR (r03_within_sim _ _ _) fun r9 => ?_)
                    refine au (.iteB (fun hc10 => ?_) fun hc10 => ?_)
                    · exact au (.ret ⟨_, rfl, rfl⟩)
                    · refine au (cE hR (r03_within_sim _ _ _) fun r10 => ?_)
                      refine au (.iteB (fun hc11 => ?_) fun hc11 => ?_)
                      · exact au (.ret ⟨_, rfl, rfl⟩)
                      · refine au ?_
                        refine Sim.ki hS (m := (List.length L0.Table : Int)) (by simp) ?_
                        refine au (cE hR (r03_within_sim _ _ _) fun r11 => ?_)
                        refine au (.iteB (fun hc12 => ?_) fun hc12 => ?_)
                        · exact au (.ret ⟨_, rfl, rfl⟩)
                        · refine au (cE hR (r03_owned_sim _) fun r12 => ?_)
                          refine au (.iteB (fun hc13 => ?_) fun hc13 => ?_)
                          · exact au (.ret ⟨_, rfl, rfl⟩)
                          · exact au (.ret ⟨_, rfl, rfl⟩)
noncomputable def r04_Begin (c0 : GConf) (slot : Int) : Option Int :=
  (r03_Plain c0).bind fun r0 =>
  if r0 ≠ 0 then
    some 0
  else
    if slot < 0 then
      some 0
    else
      if (List.length c0.Table : Int) ≤ slot then
        some 0
      else
        some (wr (c0.Offset + (wr (slot * c0.Slot))))
theorem r04_Begin_sim (c0 : GConf) (slot : Int) : Sim (r04_Begin c0 slot) (Gv fun r q => q = (iav r, [])) (LM.call n_r04_Begin [GConf.av c0, iav slot] []) := by
  unfold r04_Begin
  refine sim_evR M XE rfl rfl fun S hS hw hw8 R hR => ?_
  simp only [hw]
  refine au (cE hR (r03_Plain_sim _) fun r0 => ?_)
  refine au (.ite Iff.rfl (fun hc => ?_) fun hc => ?_)
  · exact au (.ret ⟨_, rfl, rfl⟩)
  · refine au (.ite Iff.rfl (fun hc2 => ?_) fun hc2 => ?_)
    · exact au (.ret ⟨_, rfl, rfl⟩)
    · refine au ?_
      refine Sim.ki hS (m := (List.length c0.Table : Int)) (by simp) ?_
      refine au (.ite Iff.rfl (fun hc3 => ?_) fun hc3 => ?_)
      · exact au (.ret ⟨_, rfl, rfl⟩)
      · exact au (.ret ⟨_, rfl, rfl⟩)
noncomputable def r04_Middle (c0 : GConf) (slot : Int) : Option Int :=
  (r03_Plain c0).bind fun r0 =>
  if r0 ≠ 0 then
    some 0
  else
    if slot < 0 then
      some 0
    else
      if (List.length c0.Table : Int) ≤ slot then
        some 0
      else
        (r04_Begin c0 slot).bind fun r2 =>
        some (wr (r2 + (wr (Int.tdiv c0.Slot 2))))
theorem r04_Middle_sim (c0 : GConf) (slot : Int) : Sim (r04_Middle c0 slot) (Gv fun r q => q = (iav r, [])) (LM.call n_r04_Middle [GConf.av c0, iav slot] []) := by
  unfold r04_Middle
  refine sim_evR M XE rfl rfl fun S hS hw hw8 R hR => ?_
  simp only [hw]
  refine au (cE hR (r03_Plain_sim _) fun r0 => ?_)
  refine au (.ite Iff.rfl (fun hc => ?_) fun hc => ?_)
  · exact au (.ret ⟨_, rfl, rfl⟩)
  · refine au (.ite Iff.rfl (fun hc2 => ?_) fun hc2 => ?_)
    · exact au (.ret ⟨_, rfl, rfl⟩)
    · refine au ?_
      refine Sim.ki hS (m := (List.length c0.Table : Int)) (by simp) ?_
      refine au (.ite Iff.rfl (fun hc3 => ?_) fun hc3 => ?_)
      · exact au (.ret ⟨_, rfl, rfl⟩)
      · refine au (cE hR (r04_Begin_sim _ _) fun r2 => ?_)
        exact au (.ret ⟨_, rfl, rfl⟩)
noncomputable def r04_Guard (c0 : GConf) : Option Int :=
  (r03_Plain c0).bind fun r0 =>
  if r0 ≠ 0 then
    some 0
  else
    (r04_Middle c0 (wr ((List.length c0.Table : Int) - 1))).bind fun r2 =>
    if (wr (c0.Rate - c0.Drift)) = 0 then none else
    if 0 < (Int.tmod (wr ((wr (2 * c0.Drift)) * r2)) (wr (c0.Rate - c0.Drift))) then
      some (wr ((wr ((wr ((wr (Int.tdiv (wr ((wr (2 * c0.Drift)) * r2)) (wr (c0.Rate - c0.Drift)))) + 1)) + c0.Rate)) + (wr ((wr (c0.D + 1)) * c0.Drift))))
    else
      some (wr ((wr ((wr (Int.tdiv (wr ((wr (2 * c0.Drift)) * r2)) (wr (c0.Rate - c0.Drift)))) + c0.Rate)) + (wr ((wr (c0.D + 1)) * c0.Drift))))
theorem r04_Guard_sim (c0 : GConf) : Sim (r04_Guard c0) (Gv fun r q => q = (iav r, [])) (LM.call n_r04_Guard [GConf.av c0] []) := by
  unfold r04_Guard
  refine sim_evR M XE rfl rfl fun S hS hw hw8 R hR => ?_
  simp only [hw]
  refine au (cE hR (r03_Plain_sim _) fun r0 => ?_)
  refine au (.ite Iff.rfl (fun hc => ?_) fun hc => ?_)
  · exact au (.ret ⟨_, rfl, rfl⟩)
  · refine au ?_
    refine Sim.ki hS (m := (List.length c0.Table : Int)) (by simp) ?_
    refine au (cE hR (r04_Middle_sim _ _) fun r2 => ?_)
    refine au ?_
    refine Sim.ite Iff.rfl (fun _ => Sim.no) (fun hc2 => ?_)
    refine au (.ite Iff.rfl (fun hc3 => ?_) fun hc3 => ?_)
    · exact au (.ret ⟨_, rfl, rfl⟩)
    · exact au (.ret ⟨_, rfl, rfl⟩)
noncomputable def r04_Right (c0 : GConf) : Option Int :=
  (r03_Plain c0).bind fun r0 =>
  if r0 ≠ 0 then
    (r03_Plain c0).bind fun r2 =>
    some r2
  else
    (r04_Guard c0).bind fun r3 =>
    (r04_Middle c0 (wr ((List.length c0.Table : Int) - 1))).bind fun r4 =>
    if c0.Slot ≤ (wr (2 * r3)) then
      some 8
    else
      if (wr ((wr (c0.Period - 1)) * (wr (c0.Rate - c0.Drift)))) < (wr ((wr (r4 + (wr (c0.D * c0.Rate)))) + r3)) then
        some 8
      else
        if 32768 ≤ (wr (c0.Period * (wr (c0.Rate + c0.Drift)))) then
          some 8
        else
          some 0
theorem r04_Right_sim (c0 : GConf) : Sim (r04_Right c0) (Gv fun r q => q = (iav r, [])) (LM.call n_r04_Right [GConf.av c0] []) := by
  unfold r04_Right
  refine sim_evR M XE rfl rfl fun S hS hw hw8 R hR => ?_
  simp only [hw]
  refine au (cE hR (r03_Plain_sim _) fun r0 => ?_)
  refine au (.ite Iff.rfl (fun hc => ?_) fun hc => ?_)
  · refine au (cE hR (r03_Plain_sim _) fun r2 => ?_)
    exact au (.ret ⟨_, rfl, rfl⟩)
  · refine au (cE hR (r04_Guard_sim _) fun r3 => ?_)
    refine au ?_
    refine Sim.ki hS (m := (List.length c0.Table : Int)) (by simp) ?_
    refine au (cE hR (r04_Middle_sim _ _) fun r4 => ?_)
    refine au (.ite Iff.rfl (fun hc2 => ?_) fun hc2 => ?_)
    · exact au (.ret ⟨_, rfl, rfl⟩)
    · refine au (.ite Iff.rfl (fun hc3 => ?_) fun hc3 => ?_)
      · exact au (.ret ⟨_, rfl, rfl⟩)
      · refine au (.ite Iff.rfl (fun hc4 => ?_) fun hc4 => ?_)
        · exact au (.ret ⟨_, rfl, rfl⟩)
        · exact au (.ret ⟨_, rfl, rfl⟩)
noncomputable def r01_Clamp (n0 : Int) (low : Int) (high : Int) : Option Int :=
  if n0 < low then
    some low
  else
    if high < low then
      some low
    else
      some (min n0 high)
theorem r01_Clamp_sim (n0 : Int) (low : Int) (high : Int) : Sim (r01_Clamp n0 low high) (Gv fun r q => q = (iav r, [])) (LM.call n_r01_Clamp [iav n0, iav low, iav high] []) := by
  unfold r01_Clamp
  refine sim_evR M XE rfl rfl fun S hS hw hw8 R hR => ?_
  refine au (.ite Iff.rfl (fun hc => ?_) fun hc => ?_)
  · exact au (.ret ⟨_, rfl, rfl⟩)
  · refine au (.ite Iff.rfl (fun hc2 => ?_) fun hc2 => ?_)
    · exact au (.ret ⟨_, rfl, rfl⟩)
    · exact au (.ret ⟨_, rfl, rfl⟩)
noncomputable def r33_node (c0 : GConf) (n0 : Int) : Option Bool :=
  if 0 ≤ n0 then
    (r01_Clamp c0.N 0 13).bind fun r0 =>
    some (decide (n0 < r0))
  else
    some false
theorem r33_node_sim (c0 : GConf) (n0 : Int) : Sim (r33_node c0 n0) (Gv fun r q => q = (.bool r, [])) (LM.call n_r33_node [GConf.av c0, iav n0] []) := by
  unfold r33_node
  refine sim_evR M XE rfl rfl fun S hS hw hw8 R hR => ?_
  refine au (.ite Iff.rfl (fun hc => ?_) fun hc => ?_)
  · refine au (cE hR (r01_Clamp_sim _ _ _) fun r0 => ?_)
    exact au (.ret ⟨_, rfl, rfl⟩)
  · exact au (.ret ⟨_, rfl, rfl⟩)
noncomputable def r14_In_0_step (l2 : List Int) (n2 : Int) (i0 : Int) : Option ((Int) ⊕ ((Bool) ⊕ (Unit))) :=
  if i0 < (List.length l2 : Int) then
    (idx? l2 i0).bind fun z0 =>
    if z0 = n2 then
      some (.inr (.inl true))
    else
      some (.inl (wr (i0 + 1)))
  else
    some (.inr (.inr ()))
noncomputable def r14_In_0 (l2 : List Int) (n2 : Int) (i0 : Int) : Option ((Bool) ⊕ (Unit)) :=
  loopO (fun s : Int => r14_In_0_step l2 n2 s) i0
@[reducible] def r14_In_0_st (l2 : List Int) (n2 : Int) (i0 : Int) : PF.St := ⟨[(0, lav iav l2), (1, iav n2), (5, iav i0)], []⟩
def r14_In_0_rel (l2 : List Int) (n2 : Int) (r : ((Bool) ⊕ (Unit))) (q : Ex × PF.St) : Prop := (fun r (q : Ex × PF.St) => Sum.elim (fun r => (fun r (q : Ex × PF.St) => q = (Ex.ret, ⟨[(4, .bool r)], []⟩)) r q) (fun r => (fun r (q : Ex × PF.St) => q = ((.exit 0), ⟨[(4, .undef)], []⟩)) r q) r) r q
def r14_In_0_inv (l2 : List Int) (n2 : Int) (v : Int) (e : PF.St) : Prop := e = r14_In_0_st l2 n2 v
theorem r14_In_0_sim (l2 : List Int) (n2 : Int) (i0 : Int) (s : PF.St) (hk : keep [0, 1, 5] [] s = some (r14_In_0_st l2 n2 i0)) : Sim (r14_In_0 l2 n2 i0) (Gv (r14_In_0_rel l2 n2)) (LM.loop ([0, 1, 5], [], [4], B_r14_In_0) s) := by
  refine sim_loop M XE (r14_In_0_inv l2 n2) (r14_In_0_rel l2 n2) ?_ _ _ _ hk rfl
  clear hk
  rintro S hS hw hw8 R hR i0 env hp he
  change (⟨env, hp⟩ : PF.St) = r14_In_0_st l2 n2 i0 at he
  cases he
  show Sim (r14_In_0_step l2 n2 i0) _ _
  unfold r14_In_0_step
  simp only [hw]
  refine au ?_
  refine Sim.ki hS (m := (List.length l2 : Int)) (by simp) ?_
  refine au (.ite Iff.rfl (fun hc => ?_) fun hc => ?_)
  · refine au ?_
    refine Sim.ix (by simp) (fun z0 hz0 => ?_)
    refine au ?_
    refine Sim.go (idx_map _ hz0) ?_
    refine au (.ite Iff.rfl (fun hc2 => ?_) fun hc2 => ?_)
    · exact au (.ret ⟨_, rfl, rfl⟩)
    · refine au ?_
      exact Sim.ret ⟨_, _, rfl, rfl, rfl⟩
  · exact au (.ret ⟨_, rfl, rfl⟩)
noncomputable def r14_In (l0 : List Int) (n0 : Int) : Option Bool :=
  (r14_In_0 l0 n0 0).bind fun r0 =>
  Sum.elim
    (fun r2 =>
      some r2)
    (fun r3 =>
      some false)
    r0
theorem r14_In_sim (l0 : List Int) (n0 : Int) : Sim (r14_In l0 n0) (Gv fun r q => q = (.bool r, [])) (LM.call n_r14_In [lav iav l0, iav n0] []) := by
  unfold r14_In
  refine sim_evR M XE rfl rfl fun S hS hw hw8 R hR => ?_
  refine au ?_
  refine Sim.callL hR (r14_In_0_sim l0 n0 0 _ rfl) ?_
  rintro r0 q hr
  rcases r0 with r2 | r3
  · cases hr
    exact au (.ret ⟨_, rfl, rfl⟩)
  · cases hr
    exact au (.ret ⟨_, rfl, rfl⟩)
noncomputable def r33_within_0_step (l2 : List Int) (i0 : Int) : Option ((Int) ⊕ ((Bool) ⊕ (Unit))) :=
  if i0 < (List.length l2 : Int) then
    (idx? l2 i0).bind fun z0 =>
    if z0 < 0 then
      some (.inr (.inl false))
    else
      (idx? l2 i0).bind fun z2 =>
      if 65535 < z2 then
        some (.inr (.inl false))
      else
        some (.inl (wr (i0 + 1)))
  else
    some (.inr (.inr ()))
noncomputable def r33_within_0 (l2 : List Int) (i0 : Int) : Option ((Bool) ⊕ (Unit)) :=
  loopO (fun s : Int => r33_within_0_step l2 s) i0
@[reducible] def r33_within_0_st (l2 : List Int) (i0 : Int) : PF.St := ⟨[(0, lav iav l2), (5, iav i0)], []⟩
def r33_within_0_rel (l2 : List Int) (r : ((Bool) ⊕ (Unit))) (q : Ex × PF.St) : Prop := (fun r (q : Ex × PF.St) => Sum.elim (fun r => (fun r (q : Ex × PF.St) => q = (Ex.ret, ⟨[(4, .bool r)], []⟩)) r q) (fun r => (fun r (q : Ex × PF.St) => q = ((.exit 0), ⟨[(4, .undef)], []⟩)) r q) r) r q
def r33_within_0_inv (l2 : List Int) (v : Int) (e : PF.St) : Prop := e = r33_within_0_st l2 v
theorem r33_within_0_sim (l2 : List Int) (i0 : Int) (s : PF.St) (hk : keep [0, 5] [] s = some (r33_within_0_st l2 i0)) : Sim (r33_within_0 l2 i0) (Gv (r33_within_0_rel l2)) (LM.loop ([0, 5], [], [4], B_r33_within_0) s) := by
  refine sim_loop M XE (r33_within_0_inv l2) (r33_within_0_rel l2) ?_ _ _ _ hk rfl
  clear hk
  rintro S hS hw hw8 R hR i0 env hp he
  change (⟨env, hp⟩ : PF.St) = r33_within_0_st l2 i0 at he
  cases he
  show Sim (r33_within_0_step l2 i0) _ _
  unfold r33_within_0_step
  simp only [hw]
  refine au ?_
  refine Sim.ki hS (m := (List.length l2 : Int)) (by simp) ?_
  refine au (.ite Iff.rfl (fun hc2 => ?_) fun hc2 => ?_)
  · refine au ?_
    refine Sim.ix (by simp) (fun z0 hz0 => ?_)
    refine au ?_
    refine Sim.go (idx_map _ hz0) ?_
    refine au (.ite Iff.rfl (fun hc3 => ?_) fun hc3 => ?_)
    · exact au (.ret ⟨_, rfl, rfl⟩)
    · refine au ?_
      refine Sim.ix (by simp) (fun z2 hz2 => ?_)
      refine au ?_
      refine Sim.go (idx_map _ hz2) ?_
      refine au (.ite Iff.rfl (fun hc4 => ?_) fun hc4 => ?_)
      · exact au (.ret ⟨_, rfl, rfl⟩)
      · refine au ?_
        exact Sim.ret ⟨_, _, rfl, rfl, rfl⟩
  · exact au (.ret ⟨_, rfl, rfl⟩)
noncomputable def r33_within (l0 : List Int) (n0 : Int) : Option Bool :=
  if n0 < (List.length l0 : Int) then
    some false
  else
    (r33_within_0 l0 0).bind fun r0 =>
    Sum.elim
      (fun r2 =>
        some r2)
      (fun r3 =>
        some true)
      r0
theorem r33_within_sim (l0 : List Int) (n0 : Int) : Sim (r33_within l0 n0) (Gv fun r q => q = (.bool r, [])) (LM.call n_r33_within [lav iav l0, iav n0] []) := by
  unfold r33_within
  refine sim_evR M XE rfl rfl fun S hS hw hw8 R hR => ?_
  refine au ?_
  refine Sim.ki hS (m := (List.length l0 : Int)) (by simp) ?_
  refine au (.ite Iff.rfl (fun hc => ?_) fun hc => ?_)
  · exact au (.ret ⟨_, rfl, rfl⟩)
  · refine au ?_
    refine Sim.callL hR (r33_within_0_sim l0 0 _ rfl) ?_
    rintro r0 q hr
    rcases r0 with r2 | r3
    · cases hr
      exact au (.ret ⟨_, rfl, rfl⟩)
    · cases hr
      exact au (.ret ⟨_, rfl, rfl⟩)
noncomputable def r33_waits_0_step (t2 : GTick) (x0 : List GSend) (x2 : Int) (out : List Int) (x3 : Int) : Option (((List Int) × Int) ⊕ ((List Int))) :=
  if x3 < x2 then
    (idx? x0 x3).bind fun z0 =>
    if List.length out + List.length [z0.Delay] ≤ lenMax then
      some (.inl ((out ++ [z0.Delay]), (wr (x3 + 1))))
    else none
  else
    some (.inr out)
noncomputable def r33_waits_0 (t2 : GTick) (x0 : List GSend) (x2 : Int) (out : List Int) (x3 : Int) : Option ((List Int)) :=
  loopO (fun s : (List Int) × Int => r33_waits_0_step t2 x0 x2 s.1 s.2) (out, x3)
@[reducible] def r33_waits_0_st (t2 : GTick) (x0 : List GSend) (x2 : Int) (out : List Int) (x3 : Int) (g0 : Gr) : PF.St := ⟨[(1, .ept (GTick.cells t2) 0), (3, .lst g0 (List.map iav out)), (9, lav GSend.av x0), (10, iav x2), (11, iav x3)], []⟩
def r33_waits_0_rel (t2 : GTick) (x0 : List GSend) (x2 : Int) (r : ((List Int))) (q : Ex × PF.St) : Prop := (fun r (q : Ex × PF.St) => ∃ g0', q = ((.exit 0), ⟨[(1, .ept (GTick.cells t2) 0), (3, .lst g0' (List.map iav r))], []⟩) ∧ Mg 1 g0') r q
def r33_waits_0_inv (t2 : GTick) (x0 : List GSend) (x2 : Int) (v : (List Int) × Int) (e : PF.St) : Prop := ∃ g0, e = r33_waits_0_st t2 x0 x2 v.1 v.2 g0 ∧ Mg 1 g0
theorem r33_waits_0_sim (t2 : GTick) (x0 : List GSend) (x2 : Int) (out : List Int) (x3 : Int) (g0 : Gr) (hg0 : Mg 1 g0) (s : PF.St) (hk : keep [1, 3, 9, 10, 11] [] s = some (r33_waits_0_st t2 x0 x2 out x3 g0)) : Sim (r33_waits_0 t2 x0 x2 out x3) (Gv (r33_waits_0_rel t2 x0 x2)) (LM.loop ([1, 3, 9, 10, 11], [], [1, 3], B_r33_waits_0) s) := by
  refine sim_loop M XE (r33_waits_0_inv t2 x0 x2) (r33_waits_0_rel t2 x0 x2) ?_ _ _ _ hk ⟨g0, rfl, hg0⟩
  clear hk hg0
  rintro S hS hw hw8 R hR ⟨out, x3⟩ env hp ⟨g0, he, hg0⟩
  change (⟨env, hp⟩ : PF.St) = r33_waits_0_st t2 x0 x2 out x3 g0 at he
  cases he
  show Sim (r33_waits_0_step t2 x0 x2 out x3) _ _
  unfold r33_waits_0_step
  simp only [hw]
  refine au (.ite Iff.rfl (fun hc => ?_) fun hc => ?_)
  · refine au ?_
    refine Sim.ix (by simp) (fun z0 hz0 => ?_)
    refine au ?_
    refine Sim.go (idx_map _ hz0) ?_
    refine au ?_
    refine Sim.kl hS (ys := List.map iav [z0.Delay]) rfl ?_
    refine au ?_
    first | (refine Sim.goB (may_map (by intro _; rfl) hg0 _) ?_) | skip
    refine au ?_
    first | (refine Sim.goB (okE_map (by intro _; exact ⟨rfl, rfl, rfl⟩) _) ?_) | skip
    refine au ?_
    first | refine Sim.ite (by simp) (fun _ => ?_) (fun _ => Sim.no) | refine Sim.guard (fun _ => ?_)
    refine au ?_
    refine Sim.kl hS (ys := List.map iav (out ++ [z0.Delay])) (by simp) ?_
    refine au ?_
    exact Sim.ret ⟨_, _, rfl, rfl, ⟨_, rfl, Mg.own⟩⟩
  · refine au ?_
    exact Sim.ret ⟨_, rfl, ⟨_, rfl, hg0⟩⟩
noncomputable def r33_waits_1_step (x4 : List GSend) (x5 : Int) (out2 : List Int) (x6 : Int) : Option (((List Int) × Int) ⊕ ((List Int))) :=
  if x6 < x5 then
    (idx? x4 x6).bind fun z2 =>
    if List.length out2 + List.length [z2.Delay] ≤ lenMax then
      some (.inl ((out2 ++ [z2.Delay]), (wr (x6 + 1))))
    else none
  else
    some (.inr out2)
noncomputable def r33_waits_1 (x4 : List GSend) (x5 : Int) (out2 : List Int) (x6 : Int) : Option ((List Int)) :=
  loopO (fun s : (List Int) × Int => r33_waits_1_step x4 x5 s.1 s.2) (out2, x6)
@[reducible] def r33_waits_1_st (x4 : List GSend) (x5 : Int) (out2 : List Int) (x6 : Int) (g3 : Gr) : PF.St := ⟨[(3, .lst g3 (List.map iav out2)), (22, lav GSend.av x4), (23, iav x5), (24, iav x6)], []⟩
def r33_waits_1_rel (x4 : List GSend) (x5 : Int) (r : ((List Int))) (q : Ex × PF.St) : Prop := (fun r (q : Ex × PF.St) => ∃ g0', q = ((.exit 2), ⟨[(3, .lst g0' (List.map iav r))], []⟩) ∧ Mg 1 g0') r q
def r33_waits_1_inv (x4 : List GSend) (x5 : Int) (v : (List Int) × Int) (e : PF.St) : Prop := ∃ g3, e = r33_waits_1_st x4 x5 v.1 v.2 g3 ∧ Mg 1 g3
theorem r33_waits_1_sim (x4 : List GSend) (x5 : Int) (out2 : List Int) (x6 : Int) (g3 : Gr) (hg3 : Mg 1 g3) (s : PF.St) (hk : keep [3, 22, 23, 24] [] s = some (r33_waits_1_st x4 x5 out2 x6 g3)) : Sim (r33_waits_1 x4 x5 out2 x6) (Gv (r33_waits_1_rel x4 x5)) (LM.loop ([3, 22, 23, 24], [], [3], B_r33_waits_1) s) := by
  refine sim_loop M XE (r33_waits_1_inv x4 x5) (r33_waits_1_rel x4 x5) ?_ _ _ _ hk ⟨g3, rfl, hg3⟩
  clear hk hg3
  rintro S hS hw hw8 R hR ⟨out2, x6⟩ env hp ⟨g3, he, hg3⟩
  change (⟨env, hp⟩ : PF.St) = r33_waits_1_st x4 x5 out2 x6 g3 at he
  cases he
  show Sim (r33_waits_1_step x4 x5 out2 x6) _ _
  unfold r33_waits_1_step
  simp only [hw]
  refine au (.ite Iff.rfl (fun hc2 => ?_) fun hc2 => ?_)
  · refine au ?_
    refine Sim.ix (by simp) (fun z2 hz2 => ?_)
    refine au ?_
    refine Sim.go (idx_map _ hz2) ?_
    refine au ?_
    refine Sim.kl hS (ys := List.map iav [z2.Delay]) rfl ?_
    refine au ?_
    first | (refine Sim.goB (may_map (by intro _; rfl) hg3 _) ?_) | skip
    refine au ?_
    first | (refine Sim.goB (okE_map (by intro _; exact ⟨rfl, rfl, rfl⟩) _) ?_) | skip
    refine au ?_
    first | refine Sim.ite (by simp) (fun _ => ?_) (fun _ => Sim.no) | refine Sim.guard (fun _ => ?_)
    refine au ?_
    refine Sim.kl hS (ys := List.map iav (out2 ++ [z2.Delay])) (by simp) ?_
    refine au ?_
    exact Sim.ret ⟨_, _, rfl, rfl, ⟨_, rfl, Mg.own⟩⟩
  · refine au ?_
    exact Sim.ret ⟨_, rfl, ⟨_, rfl, hg3⟩⟩
noncomputable def r33_waits (t0 : GTick) : Option ((List Int)) :=
  (r33_waits_0 t0 t0.Sends (List.length t0.Sends : Int) ([] : List Int) 0).bind fun r0 =>
  (r33_waits_1 t0.Strays (List.length t0.Strays : Int) r0 0).bind fun r2 =>
  some r2
theorem r33_waits_sim (t0 : GTick) : Sim (r33_waits t0) (Gv fun r q => q = (lav iav r, [])) (LM.call n_r33_waits [GTick.av t0] []) := by
  unfold r33_waits
  refine sim_evR M XE rfl rfl fun S hS hw hw8 R hR => ?_
  refine au ?_
  refine Sim.ki hS (m := (List.length t0.Sends : Int)) (by simp) ?_
  refine au ?_
  refine Sim.callL hR (r33_waits_0_sim t0 t0.Sends (List.length t0.Sends : Int) ([] : List Int) 0 .full Mg.full _ rfl) ?_
  rintro r0 q ⟨g2, rfl, hg2⟩
  refine au ?_
  refine Sim.ki hS (m := (List.length t0.Strays : Int)) (by simp) ?_
  refine au ?_
  refine Sim.callL hR (r33_waits_1_sim t0.Strays (List.length t0.Strays : Int) r0 0 g2 hg2 _ rfl) ?_
  rintro r2 q ⟨g4, rfl, hg4⟩
  exact au (.ret ⟨_, rfl, rfl⟩)
noncomputable def r33_nodes_0_step (s0 : GConf) (t0 : GTick) (x0 : List GSend) (x2 : Int) (x3 : Int) : Option ((Int) ⊕ ((Bool) ⊕ (Unit))) :=
  if x3 < x2 then
    (idx? x0 x3).bind fun z0 =>
    (r33_node s0 z0.From).bind fun r0 =>
    if (!r0) = true then
      some (.inr (.inl false))
    else
      (r33_node s0 z0.To).bind fun r2 =>
      if (!r2) = true then
        some (.inr (.inl false))
      else
        some (.inl (wr (x3 + 1)))
  else
    some (.inr (.inr ()))
noncomputable def r33_nodes_0 (s0 : GConf) (t0 : GTick) (x0 : List GSend) (x2 : Int) (x3 : Int) : Option ((Bool) ⊕ (Unit)) :=
  loopO (fun s : Int => r33_nodes_0_step s0 t0 x0 x2 s) x3
@[reducible] def r33_nodes_0_st (s0 : GConf) (t0 : GTick) (x0 : List GSend) (x2 : Int) (x3 : Int) : PF.St := ⟨[(2, .ept (GConf.cells s0) 0), (3, .ept (GTick.cells t0) 0), (14, lav GSend.av x0), (15, iav x2), (16, iav x3)], []⟩
def r33_nodes_0_rel (s0 : GConf) (t0 : GTick) (x0 : List GSend) (x2 : Int) (r : ((Bool) ⊕ (Unit))) (q : Ex × PF.St) : Prop := (fun r (q : Ex × PF.St) => Sum.elim (fun r => (fun r (q : Ex × PF.St) => q = (Ex.ret, ⟨[(2, .ept (GConf.cells s0) 0), (3, .ept (GTick.cells t0) 0), (4, .bool r)], []⟩)) r q) (fun r => (fun r (q : Ex × PF.St) => q = ((.exit 0), ⟨[(2, .ept (GConf.cells s0) 0), (3, .ept (GTick.cells t0) 0), (4, .undef)], []⟩)) r q) r) r q
def r33_nodes_0_inv (s0 : GConf) (t0 : GTick) (x0 : List GSend) (x2 : Int) (v : Int) (e : PF.St) : Prop := e = r33_nodes_0_st s0 t0 x0 x2 v
theorem r33_nodes_0_sim (s0 : GConf) (t0 : GTick) (x0 : List GSend) (x2 : Int) (x3 : Int) (s : PF.St) (hk : keep [2, 3, 14, 15, 16] [] s = some (r33_nodes_0_st s0 t0 x0 x2 x3)) : Sim (r33_nodes_0 s0 t0 x0 x2 x3) (Gv (r33_nodes_0_rel s0 t0 x0 x2)) (LM.loop ([2, 3, 14, 15, 16], [], [2, 3, 4], B_r33_nodes_0) s) := by
  refine sim_loop M XE (r33_nodes_0_inv s0 t0 x0 x2) (r33_nodes_0_rel s0 t0 x0 x2) ?_ _ _ _ hk rfl
  clear hk
  rintro S hS hw hw8 R hR x3 env hp he
  change (⟨env, hp⟩ : PF.St) = r33_nodes_0_st s0 t0 x0 x2 x3 at he
  cases he
  show Sim (r33_nodes_0_step s0 t0 x0 x2 x3) _ _
  unfold r33_nodes_0_step
  simp only [hw]
  refine au (.ite Iff.rfl (fun hc => ?_) fun hc => ?_)
  · refine au ?_
    refine Sim.ix (by simp) (fun z0 hz0 => ?_)
    refine au ?_
    refine Sim.go (idx_map _ hz0) ?_
    refine au (cE hR (r33_node_sim _ _) fun r0 => ?_)
    refine au (.iteB (fun hc2 => ?_) fun hc2 => ?_)
    · exact au (.ret ⟨_, rfl, rfl⟩)
    · refine au (cE hR (r33_node_sim _ _) fun r2 => ?_)
      refine au (.iteB (fun hc3 => ?_) fun hc3 => ?_)
      · exact au (.ret ⟨_, rfl, rfl⟩)
      · refine au ?_
        exact Sim.ret ⟨_, _, rfl, rfl, rfl⟩
  · exact au (.ret ⟨_, rfl, rfl⟩)
noncomputable def r33_nodes_1_step (s2 : GConf) (t2 : GTick) (x4 : List GSend) (x5 : Int) (x6 : Int) : Option ((Int) ⊕ ((Bool) ⊕ (Unit))) :=
  if x6 < x5 then
    (idx? x4 x6).bind fun z2 =>
    (r33_node s2 z2.From).bind fun r6 =>
    if (!r6) = true then
      some (.inr (.inl false))
    else
      (r33_node s2 z2.To).bind fun r7 =>
      if (!r7) = true then
        some (.inr (.inl false))
      else
        some (.inl (wr (x6 + 1)))
  else
    some (.inr (.inr ()))
noncomputable def r33_nodes_1 (s2 : GConf) (t2 : GTick) (x4 : List GSend) (x5 : Int) (x6 : Int) : Option ((Bool) ⊕ (Unit)) :=
  loopO (fun s : Int => r33_nodes_1_step s2 t2 x4 x5 s) x6
@[reducible] def r33_nodes_1_st (s2 : GConf) (t2 : GTick) (x4 : List GSend) (x5 : Int) (x6 : Int) : PF.St := ⟨[(2, .ept (GConf.cells s2) 0), (3, .ept (GTick.cells t2) 0), (34, lav GSend.av x4), (35, iav x5), (36, iav x6)], []⟩
def r33_nodes_1_rel (s2 : GConf) (t2 : GTick) (x4 : List GSend) (x5 : Int) (r : ((Bool) ⊕ (Unit))) (q : Ex × PF.St) : Prop := (fun r (q : Ex × PF.St) => Sum.elim (fun r => (fun r (q : Ex × PF.St) => q = (Ex.ret, ⟨[(2, .ept (GConf.cells s2) 0), (3, .ept (GTick.cells t2) 0), (4, .bool r)], []⟩)) r q) (fun r => (fun r (q : Ex × PF.St) => q = ((.exit 2), ⟨[(2, .ept (GConf.cells s2) 0), (3, .ept (GTick.cells t2) 0), (4, .undef)], []⟩)) r q) r) r q
def r33_nodes_1_inv (s2 : GConf) (t2 : GTick) (x4 : List GSend) (x5 : Int) (v : Int) (e : PF.St) : Prop := e = r33_nodes_1_st s2 t2 x4 x5 v
theorem r33_nodes_1_sim (s2 : GConf) (t2 : GTick) (x4 : List GSend) (x5 : Int) (x6 : Int) (s : PF.St) (hk : keep [2, 3, 34, 35, 36] [] s = some (r33_nodes_1_st s2 t2 x4 x5 x6)) : Sim (r33_nodes_1 s2 t2 x4 x5 x6) (Gv (r33_nodes_1_rel s2 t2 x4 x5)) (LM.loop ([2, 3, 34, 35, 36], [], [2, 3, 4], B_r33_nodes_1) s) := by
  refine sim_loop M XE (r33_nodes_1_inv s2 t2 x4 x5) (r33_nodes_1_rel s2 t2 x4 x5) ?_ _ _ _ hk rfl
  clear hk
  rintro S hS hw hw8 R hR x6 env hp he
  change (⟨env, hp⟩ : PF.St) = r33_nodes_1_st s2 t2 x4 x5 x6 at he
  cases he
  show Sim (r33_nodes_1_step s2 t2 x4 x5 x6) _ _
  unfold r33_nodes_1_step
  simp only [hw]
  refine au (.ite Iff.rfl (fun hc4 => ?_) fun hc4 => ?_)
  · refine au ?_
    refine Sim.ix (by simp) (fun z2 hz2 => ?_)
    refine au ?_
    refine Sim.go (idx_map _ hz2) ?_
    refine au (cE hR (r33_node_sim _ _) fun r6 => ?_)
    refine au (.iteB (fun hc5 => ?_) fun hc5 => ?_)
    · exact au (.ret ⟨_, rfl, rfl⟩)
    · refine au (cE hR (r33_node_sim _ _) fun r7 => ?_)
      refine au (.iteB (fun hc6 => ?_) fun hc6 => ?_)
      · exact au (.ret ⟨_, rfl, rfl⟩)
      · refine au ?_
        exact Sim.ret ⟨_, _, rfl, rfl, rfl⟩
  · exact au (.ret ⟨_, rfl, rfl⟩)
noncomputable def r33_nodes_2_step (s3 : GConf) (t3 : GTick) (x7 : List GBurst) (x8 : Int) (x9 : Int) : Option ((Int) ⊕ ((Bool) ⊕ (Unit))) :=
  if x9 < x8 then
    (idx? x7 x9).bind fun z3 =>
    (r33_node s3 z3.Node).bind fun r11 =>
    if (!r11) = true then
      some (.inr (.inl false))
    else
      some (.inl (wr (x9 + 1)))
  else
    some (.inr (.inr ()))
noncomputable def r33_nodes_2 (s3 : GConf) (t3 : GTick) (x7 : List GBurst) (x8 : Int) (x9 : Int) : Option ((Bool) ⊕ (Unit)) :=
  loopO (fun s : Int => r33_nodes_2_step s3 t3 x7 x8 s) x9
@[reducible] def r33_nodes_2_st (s3 : GConf) (t3 : GTick) (x7 : List GBurst) (x8 : Int) (x9 : Int) : PF.St := ⟨[(2, .ept (GConf.cells s3) 0), (3, .ept (GTick.cells t3) 0), (54, lav GBurst.av x7), (55, iav x8), (56, iav x9)], []⟩
def r33_nodes_2_rel (s3 : GConf) (t3 : GTick) (x7 : List GBurst) (x8 : Int) (r : ((Bool) ⊕ (Unit))) (q : Ex × PF.St) : Prop := (fun r (q : Ex × PF.St) => Sum.elim (fun r => (fun r (q : Ex × PF.St) => q = (Ex.ret, ⟨[(2, .ept (GConf.cells s3) 0), (3, .ept (GTick.cells t3) 0), (4, .bool r)], []⟩)) r q) (fun r => (fun r (q : Ex × PF.St) => q = ((.exit 4), ⟨[(2, .ept (GConf.cells s3) 0), (3, .ept (GTick.cells t3) 0), (4, .undef)], []⟩)) r q) r) r q
def r33_nodes_2_inv (s3 : GConf) (t3 : GTick) (x7 : List GBurst) (x8 : Int) (v : Int) (e : PF.St) : Prop := e = r33_nodes_2_st s3 t3 x7 x8 v
theorem r33_nodes_2_sim (s3 : GConf) (t3 : GTick) (x7 : List GBurst) (x8 : Int) (x9 : Int) (s : PF.St) (hk : keep [2, 3, 54, 55, 56] [] s = some (r33_nodes_2_st s3 t3 x7 x8 x9)) : Sim (r33_nodes_2 s3 t3 x7 x8 x9) (Gv (r33_nodes_2_rel s3 t3 x7 x8)) (LM.loop ([2, 3, 54, 55, 56], [], [2, 3, 4], B_r33_nodes_2) s) := by
  refine sim_loop M XE (r33_nodes_2_inv s3 t3 x7 x8) (r33_nodes_2_rel s3 t3 x7 x8) ?_ _ _ _ hk rfl
  clear hk
  rintro S hS hw hw8 R hR x9 env hp he
  change (⟨env, hp⟩ : PF.St) = r33_nodes_2_st s3 t3 x7 x8 x9 at he
  cases he
  show Sim (r33_nodes_2_step s3 t3 x7 x8 x9) _ _
  unfold r33_nodes_2_step
  simp only [hw]
  refine au (.ite Iff.rfl (fun hc7 => ?_) fun hc7 => ?_)
  · refine au ?_
    refine Sim.ix (by simp) (fun z3 hz3 => ?_)
    refine au ?_
    refine Sim.go (idx_map _ hz3) ?_
    refine au (cE hR (r33_node_sim _ _) fun r11 => ?_)
    refine au (.iteB (fun hc8 => ?_) fun hc8 => ?_)
    · exact au (.ret ⟨_, rfl, rfl⟩)
    · refine au ?_
      exact Sim.ret ⟨_, _, rfl, rfl, rfl⟩
  · exact au (.ret ⟨_, rfl, rfl⟩)
noncomputable def r33_nodes_3_step (s4 : GConf) (x10 : List GWrite) (x11 : Int) (x12 : Int) : Option ((Int) ⊕ ((Bool) ⊕ (Unit))) :=
  if x12 < x11 then
    (idx? x10 x12).bind fun z4 =>
    (r33_node s4 z4.Node).bind fun r15 =>
    if (!r15) = true then
      some (.inr (.inl false))
    else
      some (.inl (wr (x12 + 1)))
  else
    some (.inr (.inr ()))
noncomputable def r33_nodes_3 (s4 : GConf) (x10 : List GWrite) (x11 : Int) (x12 : Int) : Option ((Bool) ⊕ (Unit)) :=
  loopO (fun s : Int => r33_nodes_3_step s4 x10 x11 s) x12
@[reducible] def r33_nodes_3_st (s4 : GConf) (x10 : List GWrite) (x11 : Int) (x12 : Int) : PF.St := ⟨[(2, .ept (GConf.cells s4) 0), (67, lav GWrite.av x10), (68, iav x11), (69, iav x12)], []⟩
def r33_nodes_3_rel (s4 : GConf) (x10 : List GWrite) (x11 : Int) (r : ((Bool) ⊕ (Unit))) (q : Ex × PF.St) : Prop := (fun r (q : Ex × PF.St) => Sum.elim (fun r => (fun r (q : Ex × PF.St) => q = (Ex.ret, ⟨[(4, .bool r)], []⟩)) r q) (fun r => (fun r (q : Ex × PF.St) => q = ((.exit 6), ⟨[(4, .undef)], []⟩)) r q) r) r q
def r33_nodes_3_inv (s4 : GConf) (x10 : List GWrite) (x11 : Int) (v : Int) (e : PF.St) : Prop := e = r33_nodes_3_st s4 x10 x11 v
theorem r33_nodes_3_sim (s4 : GConf) (x10 : List GWrite) (x11 : Int) (x12 : Int) (s : PF.St) (hk : keep [2, 67, 68, 69] [] s = some (r33_nodes_3_st s4 x10 x11 x12)) : Sim (r33_nodes_3 s4 x10 x11 x12) (Gv (r33_nodes_3_rel s4 x10 x11)) (LM.loop ([2, 67, 68, 69], [], [4], B_r33_nodes_3) s) := by
  refine sim_loop M XE (r33_nodes_3_inv s4 x10 x11) (r33_nodes_3_rel s4 x10 x11) ?_ _ _ _ hk rfl
  clear hk
  rintro S hS hw hw8 R hR x12 env hp he
  change (⟨env, hp⟩ : PF.St) = r33_nodes_3_st s4 x10 x11 x12 at he
  cases he
  show Sim (r33_nodes_3_step s4 x10 x11 x12) _ _
  unfold r33_nodes_3_step
  simp only [hw]
  refine au (.ite Iff.rfl (fun hc9 => ?_) fun hc9 => ?_)
  · refine au ?_
    refine Sim.ix (by simp) (fun z4 hz4 => ?_)
    refine au ?_
    refine Sim.go (idx_map _ hz4) ?_
    refine au (cE hR (r33_node_sim _ _) fun r15 => ?_)
    refine au (.iteB (fun hc10 => ?_) fun hc10 => ?_)
    · exact au (.ret ⟨_, rfl, rfl⟩)
    · refine au ?_
      exact Sim.ret ⟨_, _, rfl, rfl, rfl⟩
  · exact au (.ret ⟨_, rfl, rfl⟩)
noncomputable def r33_nodes (L0 : GConf) (i0 : GTick) : Option Bool :=
  (r33_nodes_0 L0 i0 i0.Sends (List.length i0.Sends : Int) 0).bind fun r3 =>
  Sum.elim
    (fun r4 =>
      some r4)
    (fun r5 =>
      (r33_nodes_1 L0 i0 i0.Strays (List.length i0.Strays : Int) 0).bind fun r8 =>
      Sum.elim
        (fun r9 =>
          some r9)
        (fun r10 =>
          (r33_nodes_2 L0 i0 i0.Bursts (List.length i0.Bursts : Int) 0).bind fun r12 =>
          Sum.elim
            (fun r13 =>
              some r13)
            (fun r14 =>
              (r33_nodes_3 L0 i0.Writes (List.length i0.Writes : Int) 0).bind fun r16 =>
              Sum.elim
                (fun r17 =>
                  some r17)
                (fun r18 =>
                  some true)
                r16)
            r12)
        r8)
    r3
theorem r33_nodes_sim (L0 : GConf) (i0 : GTick) : Sim (r33_nodes L0 i0) (Gv fun r q => q = (.bool r, [])) (LM.call n_r33_nodes [GConf.av L0, GTick.av i0] []) := by
  unfold r33_nodes
  refine sim_evR M XE rfl rfl fun S hS hw hw8 R hR => ?_
  refine au ?_
  refine Sim.ki hS (m := (List.length i0.Sends : Int)) (by simp) ?_
  refine au ?_
  refine Sim.callL hR (r33_nodes_0_sim L0 i0 i0.Sends (List.length i0.Sends : Int) 0 _ rfl) ?_
  rintro r3 q hr
  rcases r3 with r4 | r5
  · cases hr
    exact au (.ret ⟨_, rfl, rfl⟩)
  · cases hr
    refine au ?_
    refine Sim.ki hS (m := (List.length i0.Strays : Int)) (by simp) ?_
    refine au ?_
    refine Sim.callL hR (r33_nodes_1_sim L0 i0 i0.Strays (List.length i0.Strays : Int) 0 _ rfl) ?_
    rintro r8 q hr
    rcases r8 with r9 | r10
    · cases hr
      exact au (.ret ⟨_, rfl, rfl⟩)
    · cases hr
      refine au ?_
      refine Sim.ki hS (m := (List.length i0.Bursts : Int)) (by simp) ?_
      refine au ?_
      refine Sim.callL hR (r33_nodes_2_sim L0 i0 i0.Bursts (List.length i0.Bursts : Int) 0 _ rfl) ?_
      rintro r12 q hr
      rcases r12 with r13 | r14
      · cases hr
        exact au (.ret ⟨_, rfl, rfl⟩)
      · cases hr
        refine au ?_
        refine Sim.ki hS (m := (List.length i0.Writes : Int)) (by simp) ?_
        refine au ?_
        refine Sim.callL hR (r33_nodes_3_sim L0 i0.Writes (List.length i0.Writes : Int) 0 _ rfl) ?_
        rintro r16 q hr
        rcases r16 with r17 | r18
        · cases hr
          exact au (.ret ⟨_, rfl, rfl⟩)
        · cases hr
          exact au (.ret ⟨_, rfl, rfl⟩)
noncomputable def r33_long_0_step (t2 : GTick) (x0 : List GSend) (x2 : Int) (x3 : Int) : Option ((Int) ⊕ ((Bool) ⊕ (Unit))) :=
  if x3 < x2 then
    (idx? x0 x3).bind fun z0 =>
    if 40 < (List.length z0.Bytes : Int) then
      some (.inr (.inl true))
    else
      some (.inl (wr (x3 + 1)))
  else
    some (.inr (.inr ()))
noncomputable def r33_long_0 (t2 : GTick) (x0 : List GSend) (x2 : Int) (x3 : Int) : Option ((Bool) ⊕ (Unit)) :=
  loopO (fun s : Int => r33_long_0_step t2 x0 x2 s) x3
@[reducible] def r33_long_0_st (t2 : GTick) (x0 : List GSend) (x2 : Int) (x3 : Int) : PF.St := ⟨[(1, .ept (GTick.cells t2) 0), (10, lav GSend.av x0), (11, iav x2), (12, iav x3)], []⟩
def r33_long_0_rel (t2 : GTick) (x0 : List GSend) (x2 : Int) (r : ((Bool) ⊕ (Unit))) (q : Ex × PF.St) : Prop := (fun r (q : Ex × PF.St) => Sum.elim (fun r => (fun r (q : Ex × PF.St) => q = (Ex.ret, ⟨[(1, .ept (GTick.cells t2) 0), (2, .bool r)], []⟩)) r q) (fun r => (fun r (q : Ex × PF.St) => q = ((.exit 0), ⟨[(1, .ept (GTick.cells t2) 0), (2, .undef)], []⟩)) r q) r) r q
def r33_long_0_inv (t2 : GTick) (x0 : List GSend) (x2 : Int) (v : Int) (e : PF.St) : Prop := e = r33_long_0_st t2 x0 x2 v
theorem r33_long_0_sim (t2 : GTick) (x0 : List GSend) (x2 : Int) (x3 : Int) (s : PF.St) (hk : keep [1, 10, 11, 12] [] s = some (r33_long_0_st t2 x0 x2 x3)) : Sim (r33_long_0 t2 x0 x2 x3) (Gv (r33_long_0_rel t2 x0 x2)) (LM.loop ([1, 10, 11, 12], [], [1, 2], B_r33_long_0) s) := by
  refine sim_loop M XE (r33_long_0_inv t2 x0 x2) (r33_long_0_rel t2 x0 x2) ?_ _ _ _ hk rfl
  clear hk
  rintro S hS hw hw8 R hR x3 env hp he
  change (⟨env, hp⟩ : PF.St) = r33_long_0_st t2 x0 x2 x3 at he
  cases he
  show Sim (r33_long_0_step t2 x0 x2 x3) _ _
  unfold r33_long_0_step
  simp only [hw]
  refine au (.ite Iff.rfl (fun hc => ?_) fun hc => ?_)
  · refine au ?_
    refine Sim.ix (by simp) (fun z0 hz0 => ?_)
    refine au ?_
    refine Sim.go (idx_map _ hz0) ?_
    refine au (.ite Iff.rfl (fun hc2 => ?_) fun hc2 => ?_)
    · exact au (.ret ⟨_, rfl, rfl⟩)
    · refine au ?_
      exact Sim.ret ⟨_, _, rfl, rfl, rfl⟩
  · exact au (.ret ⟨_, rfl, rfl⟩)
noncomputable def r33_long_1_step (t3 : GTick) (x4 : List GSend) (x5 : Int) (x6 : Int) : Option ((Int) ⊕ ((Bool) ⊕ (Unit))) :=
  if x6 < x5 then
    (idx? x4 x6).bind fun z2 =>
    if 40 < (List.length z2.Bytes : Int) then
      some (.inr (.inl true))
    else
      some (.inl (wr (x6 + 1)))
  else
    some (.inr (.inr ()))
noncomputable def r33_long_1 (t3 : GTick) (x4 : List GSend) (x5 : Int) (x6 : Int) : Option ((Bool) ⊕ (Unit)) :=
  loopO (fun s : Int => r33_long_1_step t3 x4 x5 s) x6
@[reducible] def r33_long_1_st (t3 : GTick) (x4 : List GSend) (x5 : Int) (x6 : Int) : PF.St := ⟨[(1, .ept (GTick.cells t3) 0), (22, lav GSend.av x4), (23, iav x5), (24, iav x6)], []⟩
def r33_long_1_rel (t3 : GTick) (x4 : List GSend) (x5 : Int) (r : ((Bool) ⊕ (Unit))) (q : Ex × PF.St) : Prop := (fun r (q : Ex × PF.St) => Sum.elim (fun r => (fun r (q : Ex × PF.St) => q = (Ex.ret, ⟨[(1, .ept (GTick.cells t3) 0), (2, .bool r)], []⟩)) r q) (fun r => (fun r (q : Ex × PF.St) => q = ((.exit 2), ⟨[(1, .ept (GTick.cells t3) 0), (2, .undef)], []⟩)) r q) r) r q
def r33_long_1_inv (t3 : GTick) (x4 : List GSend) (x5 : Int) (v : Int) (e : PF.St) : Prop := e = r33_long_1_st t3 x4 x5 v
theorem r33_long_1_sim (t3 : GTick) (x4 : List GSend) (x5 : Int) (x6 : Int) (s : PF.St) (hk : keep [1, 22, 23, 24] [] s = some (r33_long_1_st t3 x4 x5 x6)) : Sim (r33_long_1 t3 x4 x5 x6) (Gv (r33_long_1_rel t3 x4 x5)) (LM.loop ([1, 22, 23, 24], [], [1, 2], B_r33_long_1) s) := by
  refine sim_loop M XE (r33_long_1_inv t3 x4 x5) (r33_long_1_rel t3 x4 x5) ?_ _ _ _ hk rfl
  clear hk
  rintro S hS hw hw8 R hR x6 env hp he
  change (⟨env, hp⟩ : PF.St) = r33_long_1_st t3 x4 x5 x6 at he
  cases he
  show Sim (r33_long_1_step t3 x4 x5 x6) _ _
  unfold r33_long_1_step
  simp only [hw]
  refine au (.ite Iff.rfl (fun hc3 => ?_) fun hc3 => ?_)
  · refine au ?_
    refine Sim.ix (by simp) (fun z2 hz2 => ?_)
    refine au ?_
    refine Sim.go (idx_map _ hz2) ?_
    refine au (.ite Iff.rfl (fun hc4 => ?_) fun hc4 => ?_)
    · exact au (.ret ⟨_, rfl, rfl⟩)
    · refine au ?_
      exact Sim.ret ⟨_, _, rfl, rfl, rfl⟩
  · exact au (.ret ⟨_, rfl, rfl⟩)
noncomputable def r33_long_2_step (x7 : List GBurst) (x8 : Int) (x9 : Int) : Option ((Int) ⊕ ((Bool) ⊕ (Unit))) :=
  if x9 < x8 then
    (idx? x7 x9).bind fun z3 =>
    if 8000 < (List.length z3.Image : Int) then
      some (.inr (.inl true))
    else
      some (.inl (wr (x9 + 1)))
  else
    some (.inr (.inr ()))
noncomputable def r33_long_2 (x7 : List GBurst) (x8 : Int) (x9 : Int) : Option ((Bool) ⊕ (Unit)) :=
  loopO (fun s : Int => r33_long_2_step x7 x8 s) x9
@[reducible] def r33_long_2_st (x7 : List GBurst) (x8 : Int) (x9 : Int) : PF.St := ⟨[(34, lav GBurst.av x7), (35, iav x8), (36, iav x9)], []⟩
def r33_long_2_rel (x7 : List GBurst) (x8 : Int) (r : ((Bool) ⊕ (Unit))) (q : Ex × PF.St) : Prop := (fun r (q : Ex × PF.St) => Sum.elim (fun r => (fun r (q : Ex × PF.St) => q = (Ex.ret, ⟨[(2, .bool r)], []⟩)) r q) (fun r => (fun r (q : Ex × PF.St) => q = ((.exit 4), ⟨[(2, .undef)], []⟩)) r q) r) r q
def r33_long_2_inv (x7 : List GBurst) (x8 : Int) (v : Int) (e : PF.St) : Prop := e = r33_long_2_st x7 x8 v
theorem r33_long_2_sim (x7 : List GBurst) (x8 : Int) (x9 : Int) (s : PF.St) (hk : keep [34, 35, 36] [] s = some (r33_long_2_st x7 x8 x9)) : Sim (r33_long_2 x7 x8 x9) (Gv (r33_long_2_rel x7 x8)) (LM.loop ([34, 35, 36], [], [2], B_r33_long_2) s) := by
  refine sim_loop M XE (r33_long_2_inv x7 x8) (r33_long_2_rel x7 x8) ?_ _ _ _ hk rfl
  clear hk
  rintro S hS hw hw8 R hR x9 env hp he
  change (⟨env, hp⟩ : PF.St) = r33_long_2_st x7 x8 x9 at he
  cases he
  show Sim (r33_long_2_step x7 x8 x9) _ _
  unfold r33_long_2_step
  simp only [hw]
  refine au (.ite Iff.rfl (fun hc5 => ?_) fun hc5 => ?_)
  · refine au ?_
    refine Sim.ix (by simp) (fun z3 hz3 => ?_)
    refine au ?_
    refine Sim.go (idx_map _ hz3) ?_
    refine au (.ite Iff.rfl (fun hc6 => ?_) fun hc6 => ?_)
    · exact au (.ret ⟨_, rfl, rfl⟩)
    · refine au ?_
      exact Sim.ret ⟨_, _, rfl, rfl, rfl⟩
  · exact au (.ret ⟨_, rfl, rfl⟩)
noncomputable def r33_long (t0 : GTick) : Option Bool :=
  (r33_long_0 t0 t0.Sends (List.length t0.Sends : Int) 0).bind fun r0 =>
  Sum.elim
    (fun r2 =>
      some r2)
    (fun r3 =>
      (r33_long_1 t0 t0.Strays (List.length t0.Strays : Int) 0).bind fun r4 =>
      Sum.elim
        (fun r5 =>
          some r5)
        (fun r6 =>
          (r33_long_2 t0.Bursts (List.length t0.Bursts : Int) 0).bind fun r7 =>
          Sum.elim
            (fun r8 =>
              some r8)
            (fun r9 =>
              some false)
            r7)
        r4)
    r0
theorem r33_long_sim (t0 : GTick) : Sim (r33_long t0) (Gv fun r q => q = (.bool r, [])) (LM.call n_r33_long [GTick.av t0] []) := by
  unfold r33_long
  refine sim_evR M XE rfl rfl fun S hS hw hw8 R hR => ?_
  refine au ?_
  refine Sim.ki hS (m := (List.length t0.Sends : Int)) (by simp) ?_
  refine au ?_
  refine Sim.callL hR (r33_long_0_sim t0 t0.Sends (List.length t0.Sends : Int) 0 _ rfl) ?_
  rintro r0 q hr
  rcases r0 with r2 | r3
  · cases hr
    exact au (.ret ⟨_, rfl, rfl⟩)
  · cases hr
    refine au ?_
    refine Sim.ki hS (m := (List.length t0.Strays : Int)) (by simp) ?_
    refine au ?_
    refine Sim.callL hR (r33_long_1_sim t0 t0.Strays (List.length t0.Strays : Int) 0 _ rfl) ?_
    rintro r4 q hr
    rcases r4 with r5 | r6
    · cases hr
      exact au (.ret ⟨_, rfl, rfl⟩)
    · cases hr
      refine au ?_
      refine Sim.ki hS (m := (List.length t0.Bursts : Int)) (by simp) ?_
      refine au ?_
      refine Sim.callL hR (r33_long_2_sim t0.Bursts (List.length t0.Bursts : Int) 0 _ rfl) ?_
      rintro r7 q hr
      rcases r7 with r8 | r9
      · cases hr
        exact au (.ret ⟨_, rfl, rfl⟩)
      · cases hr
        exact au (.ret ⟨_, rfl, rfl⟩)
noncomputable def r33_tick_0_step (x0 : List GWrite) (x2 : Int) (x3 : Int) : Option ((Int) ⊕ ((Int) ⊕ (Unit))) :=
  if x3 < x2 then
    (idx? x0 x3).bind fun z0 =>
    if 16 < (List.length z0.Text : Int) then
      some (.inr (.inl 15))
    else
      some (.inl (wr (x3 + 1)))
  else
    some (.inr (.inr ()))
noncomputable def r33_tick_0 (x0 : List GWrite) (x2 : Int) (x3 : Int) : Option ((Int) ⊕ (Unit)) :=
  loopO (fun s : Int => r33_tick_0_step x0 x2 s) x3
@[reducible] def r33_tick_0_st (x0 : List GWrite) (x2 : Int) (x3 : Int) : PF.St := ⟨[(66, lav GWrite.av x0), (67, iav x2), (68, iav x3)], []⟩
def r33_tick_0_rel (x0 : List GWrite) (x2 : Int) (r : ((Int) ⊕ (Unit))) (q : Ex × PF.St) : Prop := (fun r (q : Ex × PF.St) => Sum.elim (fun r => (fun r (q : Ex × PF.St) => q = (Ex.ret, ⟨[(4, iav r)], []⟩)) r q) (fun r => (fun r (q : Ex × PF.St) => q = ((.exit 0), ⟨[(4, .undef)], []⟩)) r q) r) r q
def r33_tick_0_inv (x0 : List GWrite) (x2 : Int) (v : Int) (e : PF.St) : Prop := e = r33_tick_0_st x0 x2 v
theorem r33_tick_0_sim (x0 : List GWrite) (x2 : Int) (x3 : Int) (s : PF.St) (hk : keep [66, 67, 68] [] s = some (r33_tick_0_st x0 x2 x3)) : Sim (r33_tick_0 x0 x2 x3) (Gv (r33_tick_0_rel x0 x2)) (LM.loop ([66, 67, 68], [], [4], B_r33_tick_0) s) := by
  refine sim_loop M XE (r33_tick_0_inv x0 x2) (r33_tick_0_rel x0 x2) ?_ _ _ _ hk rfl
  clear hk
  rintro S hS hw hw8 R hR x3 env hp he
  change (⟨env, hp⟩ : PF.St) = r33_tick_0_st x0 x2 x3 at he
  cases he
  show Sim (r33_tick_0_step x0 x2 x3) _ _
  unfold r33_tick_0_step
  simp only [hw]
  refine au (.ite Iff.rfl (fun hc10 => ?_) fun hc10 => ?_)
  · refine au ?_
    refine Sim.ix (by simp) (fun z0 hz0 => ?_)
    refine au ?_
    refine Sim.go (idx_map _ hz0) ?_
    refine au (.ite Iff.rfl (fun hc11 => ?_) fun hc11 => ?_)
    · exact au (.ret ⟨_, rfl, rfl⟩)
    · refine au ?_
      exact Sim.ret ⟨_, _, rfl, rfl, rfl⟩
  · exact au (.ret ⟨_, rfl, rfl⟩)
noncomputable def r33_tick (L0 : GConf) (i0 : GTick) : Option Int :=
  (r33_within i0.Units L0.N).bind fun r0 =>
  if (!r0) = true then
    some 2
  else
    (r33_within i0.Delays (wr (L0.N * L0.N))).bind fun r2 =>
    if (!r2) = true then
      some 2
    else
      (r33_waits i0).bind fun r3 =>
      (r33_within r3 (wr ((List.length i0.Sends : Int) + (List.length i0.Strays : Int)))).bind fun r4 =>
      if (!r4) = true then
        some 2
      else
        if 40 < (List.length i0.Sends : Int) then
          some 9
        else
          if 40 < (List.length i0.Bursts : Int) then
            some 9
          else
            if 40 < (List.length i0.Strays : Int) then
              some 9
            else
              if 40 < (List.length i0.Writes : Int) then
                some 9
              else
                (r33_nodes L0 i0).bind fun r5 =>
                if (!r5) = true then
                  some 7
                else
                  (r33_long i0).bind fun r6 =>
                  if r6 = true then
                    some 6
                  else
                    (r33_tick_0 i0.Writes (List.length i0.Writes : Int) 0).bind fun r7 =>
                    Sum.elim
                      (fun r8 =>
                        some r8)
                      (fun r9 =>
                        some 0)
                      r7
theorem r33_tick_sim (L0 : GConf) (i0 : GTick) : Sim (r33_tick L0 i0) (Gv fun r q => q = (iav r, [])) (LM.call n_r33_tick [GConf.av L0, GTick.av i0] []) := by
  unfold r33_tick
  refine sim_evR M XE rfl rfl fun S hS hw hw8 R hR => ?_
  simp only [hw]
  refine au (cE hR (r33_within_sim _ _) fun r0 => ?_)
  refine au (.iteB (fun hc => ?_) fun hc => ?_)
  · exact au (.ret ⟨_, rfl, rfl⟩)
  · refine au (cE hR (r33_within_sim _ _) fun r2 => ?_)
    refine au (.iteB (fun hc2 => ?_) fun hc2 => ?_)
    · exact au (.ret ⟨_, rfl, rfl⟩)
    · refine au (cE hR (r33_waits_sim _) fun r3 => ?_)
      refine au ?_
      refine Sim.ki hS (m := (List.length i0.Sends : Int)) (by simp) ?_
      refine au ?_
      refine Sim.ki hS (m := (List.length i0.Strays : Int)) (by simp) ?_
      refine au (cE hR (r33_within_sim _ _) fun r4 => ?_)
      refine au (.iteB (fun hc3 => ?_) fun hc3 => ?_)
      · exact au (.ret ⟨_, rfl, rfl⟩)
      · refine au ?_
        refine Sim.ki hS (m := (List.length i0.Sends : Int)) (by simp) ?_
        refine au (.ite Iff.rfl (fun hc4 => ?_) fun hc4 => ?_)
        · exact au (.ret ⟨_, rfl, rfl⟩)
        · refine au ?_
          refine Sim.ki hS (m := (List.length i0.Bursts : Int)) (by simp) ?_
          refine au (.ite Iff.rfl (fun hc5 => ?_) fun hc5 => ?_)
          · exact au (.ret ⟨_, rfl, rfl⟩)
          · refine au ?_
            refine Sim.ki hS (m := (List.length i0.Strays : Int)) (by simp) ?_
            refine au (.ite Iff.rfl (fun hc6 => ?_) fun hc6 => ?_)
            · exact au (.ret ⟨_, rfl, rfl⟩)
            · refine au ?_
              refine Sim.ki hS (m := (List.length i0.Writes : Int)) (by simp) ?_
              refine au (.ite Iff.rfl (fun hc7 => ?_) fun hc7 => ?_)
              · exact au (.ret ⟨_, rfl, rfl⟩)
              · refine au (cE hR (r33_nodes_sim _ _) fun r5 => ?_)
                refine au (.iteB (fun hc8 => ?_) fun hc8 => ?_)
                · exact au (.ret ⟨_, rfl, rfl⟩)
                · refine au (cE hR (r33_long_sim _) fun r6 => ?_)
                  refine au (.iteB (fun hc9 => ?_) fun hc9 => ?_)
                  · exact au (.ret ⟨_, rfl, rfl⟩)
                  · refine au ?_
                    refine Sim.ki hS (m := (List.length i0.Writes : Int)) (by simp) ?_
                    refine au ?_
                    refine Sim.callL hR (r33_tick_0_sim i0.Writes (List.length i0.Writes : Int) 0 _ rfl) ?_
                    rintro r7 q hr
                    rcases r7 with r8 | r9
                    · cases hr
                      exact au (.ret ⟨_, rfl, rfl⟩)
                    · cases hr
                      exact au (.ret ⟨_, rfl, rfl⟩)
noncomputable def r33_Right_0_step (i0 : GScript) (t0 : Int) : Option ((Int) ⊕ ((Int) ⊕ (Unit))) :=
  if t0 < (List.length i0.Faulty : Int) then
    (idx? i0.Faulty t0).bind fun z0 =>
    (r33_node i0.Conf z0).bind fun r3 =>
    if (!r3) = true then
      some (.inr (.inl 7))
    else
      if 0 ≤ t0 ∧ t0 ≤ ((List.length i0.Faulty) : Nat) then
        (idx? i0.Faulty t0).bind fun z2 =>
        (r14_In (List.take (Int.toNat t0) i0.Faulty) z2).bind fun r4 =>
        if r4 = true then
          some (.inr (.inl 7))
        else
          some (.inl (wr (t0 + 1)))
      else none
  else
    some (.inr (.inr ()))
noncomputable def r33_Right_0 (i0 : GScript) (t0 : Int) : Option ((Int) ⊕ (Unit)) :=
  loopO (fun s : Int => r33_Right_0_step i0 s) t0
@[reducible] def r33_Right_0_st (i0 : GScript) (t0 : Int) : PF.St := ⟨[(1, .ept (GScript.cells i0) 0), (3, iav t0)], []⟩
def r33_Right_0_rel (i0 : GScript) (r : ((Int) ⊕ (Unit))) (q : Ex × PF.St) : Prop := (fun r (q : Ex × PF.St) => Sum.elim (fun r => (fun r (q : Ex × PF.St) => q = (Ex.ret, ⟨[(1, .ept (GScript.cells i0) 0), (2, iav r)], []⟩)) r q) (fun r => (fun r (q : Ex × PF.St) => q = ((.exit 0), ⟨[(1, .ept (GScript.cells i0) 0), (2, .undef)], []⟩)) r q) r) r q
def r33_Right_0_inv (i0 : GScript) (v : Int) (e : PF.St) : Prop := e = r33_Right_0_st i0 v
theorem r33_Right_0_sim (i0 : GScript) (t0 : Int) (s : PF.St) (hk : keep [1, 3] [] s = some (r33_Right_0_st i0 t0)) : Sim (r33_Right_0 i0 t0) (Gv (r33_Right_0_rel i0)) (LM.loop ([1, 3], [], [1, 2], B_r33_Right_0) s) := by
  refine sim_loop M XE (r33_Right_0_inv i0) (r33_Right_0_rel i0) ?_ _ _ _ hk rfl
  clear hk
  rintro S hS hw hw8 R hR t0 env hp he
  change (⟨env, hp⟩ : PF.St) = r33_Right_0_st i0 t0 at he
  cases he
  show Sim (r33_Right_0_step i0 t0) _ _
  unfold r33_Right_0_step
  simp only [hw]
  refine au ?_
  refine Sim.ki hS (m := (List.length i0.Faulty : Int)) (by simp) ?_
  refine au (.ite Iff.rfl (fun hc2 => ?_) fun hc2 => ?_)
  · refine au ?_
    refine Sim.ix (by simp) (fun z0 hz0 => ?_)
    refine au ?_
    refine Sim.go (idx_map _ hz0) ?_
    refine au (cE hR (r33_node_sim _ _) fun r3 => ?_)
    refine au (.iteB (fun hc3 => ?_) fun hc3 => ?_)
    · exact au (.ret ⟨_, rfl, rfl⟩)
    · refine au ?_
      first | (refine Sim.goB (headE_map (by intro _; rfl) _) ?_) | skip
      refine au ?_
      refine Sim.kn hS (m := (List.length i0.Faulty)) (by simp) ?_
      refine au ?_
      first | refine Sim.ite Iff.rfl (fun _ => ?_) (fun _ => Sim.no) | refine Sim.guard (fun _ => ?_)
      refine au ?_
      refine Sim.kl hS (ys := List.map iav (List.take (Int.toNat t0) i0.Faulty)) (by simp only [PF.cut, List.map_drop, List.map_take]) ?_
      refine au ?_
      refine Sim.ix (by simp) (fun z2 hz2 => ?_)
      refine au ?_
      refine Sim.go (idx_map _ hz2) ?_
      refine au (cE hR (r14_In_sim _ _) fun r4 => ?_)
      refine au (.iteB (fun hc4 => ?_) fun hc4 => ?_)
      · exact au (.ret ⟨_, rfl, rfl⟩)
      · refine au ?_
        exact Sim.ret ⟨_, _, rfl, rfl, rfl⟩
  · exact au (.ret ⟨_, rfl, rfl⟩)
noncomputable def r33_Right_1_step (i2 : GScript) (x0 : Int) : Option ((Int) ⊕ ((Int) ⊕ (Unit))) :=
  if x0 < (List.length i2.Images : Int) then
    (idx? i2.Images x0).bind fun z3 =>
    if 8000 < (List.length z3 : Int) then
      some (.inr (.inl 6))
    else
      some (.inl (wr (x0 + 1)))
  else
    some (.inr (.inr ()))
noncomputable def r33_Right_1 (i2 : GScript) (x0 : Int) : Option ((Int) ⊕ (Unit)) :=
  loopO (fun s : Int => r33_Right_1_step i2 s) x0
@[reducible] def r33_Right_1_st (i2 : GScript) (x0 : Int) : PF.St := ⟨[(1, .ept (GScript.cells i2) 0), (4, iav x0)], []⟩
def r33_Right_1_rel (i2 : GScript) (r : ((Int) ⊕ (Unit))) (q : Ex × PF.St) : Prop := (fun r (q : Ex × PF.St) => Sum.elim (fun r => (fun r (q : Ex × PF.St) => q = (Ex.ret, ⟨[(1, .ept (GScript.cells i2) 0), (2, iav r)], []⟩)) r q) (fun r => (fun r (q : Ex × PF.St) => q = ((.exit 2), ⟨[(1, .ept (GScript.cells i2) 0), (2, .undef)], []⟩)) r q) r) r q
def r33_Right_1_inv (i2 : GScript) (v : Int) (e : PF.St) : Prop := e = r33_Right_1_st i2 v
theorem r33_Right_1_sim (i2 : GScript) (x0 : Int) (s : PF.St) (hk : keep [1, 4] [] s = some (r33_Right_1_st i2 x0)) : Sim (r33_Right_1 i2 x0) (Gv (r33_Right_1_rel i2)) (LM.loop ([1, 4], [], [1, 2], B_r33_Right_1) s) := by
  refine sim_loop M XE (r33_Right_1_inv i2) (r33_Right_1_rel i2) ?_ _ _ _ hk rfl
  clear hk
  rintro S hS hw hw8 R hR x0 env hp he
  change (⟨env, hp⟩ : PF.St) = r33_Right_1_st i2 x0 at he
  cases he
  show Sim (r33_Right_1_step i2 x0) _ _
  unfold r33_Right_1_step
  simp only [hw]
  refine au ?_
  refine Sim.ki hS (m := (List.length i2.Images : Int)) (by simp) ?_
  refine au (.ite Iff.rfl (fun hc7 => ?_) fun hc7 => ?_)
  · refine au ?_
    refine Sim.ix (by simp) (fun z3 hz3 => ?_)
    refine au ?_
    refine Sim.go (idx_map _ hz3) ?_
    refine au (.ite Iff.rfl (fun hc8 => ?_) fun hc8 => ?_)
    · exact au (.ret ⟨_, rfl, rfl⟩)
    · refine au ?_
      exact Sim.ret ⟨_, _, rfl, rfl, rfl⟩
  · exact au (.ret ⟨_, rfl, rfl⟩)
noncomputable def r33_Right_2_step (i3 : GScript) (t2 : Int) : Option ((Int) ⊕ ((Int) ⊕ (Unit))) :=
  if t2 < (List.length i3.Ticks : Int) then
    (idx? i3.Ticks t2).bind fun z4 =>
    (r33_tick i3.Conf z4).bind fun r11 =>
    if r11 ≠ 0 then
      some (.inr (.inl r11))
    else
      some (.inl (wr (t2 + 1)))
  else
    some (.inr (.inr ()))
noncomputable def r33_Right_2 (i3 : GScript) (t2 : Int) : Option ((Int) ⊕ (Unit)) :=
  loopO (fun s : Int => r33_Right_2_step i3 s) t2
@[reducible] def r33_Right_2_st (i3 : GScript) (t2 : Int) : PF.St := ⟨[(1, .ept (GScript.cells i3) 0), (5, iav t2)], []⟩
def r33_Right_2_rel (i3 : GScript) (r : ((Int) ⊕ (Unit))) (q : Ex × PF.St) : Prop := (fun r (q : Ex × PF.St) => Sum.elim (fun r => (fun r (q : Ex × PF.St) => q = (Ex.ret, ⟨[(2, iav r)], []⟩)) r q) (fun r => (fun r (q : Ex × PF.St) => q = ((.exit 4), ⟨[(2, .undef)], []⟩)) r q) r) r q
def r33_Right_2_inv (i3 : GScript) (v : Int) (e : PF.St) : Prop := e = r33_Right_2_st i3 v
theorem r33_Right_2_sim (i3 : GScript) (t2 : Int) (s : PF.St) (hk : keep [1, 5] [] s = some (r33_Right_2_st i3 t2)) : Sim (r33_Right_2 i3 t2) (Gv (r33_Right_2_rel i3)) (LM.loop ([1, 5], [], [2], B_r33_Right_2) s) := by
  refine sim_loop M XE (r33_Right_2_inv i3) (r33_Right_2_rel i3) ?_ _ _ _ hk rfl
  clear hk
  rintro S hS hw hw8 R hR t2 env hp he
  change (⟨env, hp⟩ : PF.St) = r33_Right_2_st i3 t2 at he
  cases he
  show Sim (r33_Right_2_step i3 t2) _ _
  unfold r33_Right_2_step
  simp only [hw]
  refine au ?_
  refine Sim.ki hS (m := (List.length i3.Ticks : Int)) (by simp) ?_
  refine au (.ite Iff.rfl (fun hc9 => ?_) fun hc9 => ?_)
  · refine au ?_
    refine Sim.ix (by simp) (fun z4 hz4 => ?_)
    refine au ?_
    refine Sim.go (idx_map _ hz4) ?_
    refine au (cE hR (r33_tick_sim _ _) fun r11 => ?_)
    refine au (.ite Iff.rfl (fun hc10 => ?_) fun hc10 => ?_)
    · exact au (.ret ⟨_, rfl, rfl⟩)
    · refine au ?_
      exact Sim.ret ⟨_, _, rfl, rfl, rfl⟩
  · exact au (.ret ⟨_, rfl, rfl⟩)
noncomputable def r33_Right (L0 : GScript) : Option Int :=
  (r04_Right L0.Conf).bind fun r0 =>
  if r0 ≠ 0 then
    (r04_Right L0.Conf).bind fun r2 =>
    some r2
  else
    (r33_Right_0 L0 0).bind fun r5 =>
    Sum.elim
      (fun r6 =>
        some r6)
      (fun r7 =>
        if L0.Conf.N < (List.length L0.Images : Int) then
          some 6
        else
          if 2000 < (List.length L0.Ticks : Int) then
            some 6
          else
            (r33_Right_1 L0 0).bind fun r8 =>
            Sum.elim
              (fun r9 =>
                some r9)
              (fun r10 =>
                (r33_Right_2 L0 0).bind fun r12 =>
                Sum.elim
                  (fun r13 =>
                    some r13)
                  (fun r14 =>
                    some 0)
                  r12)
              r8)
      r5
theorem r33_Right_sim (L0 : GScript) : Sim (r33_Right L0) (Gv fun r q => q = (iav r, [])) (LM.call n_r33_Right [GScript.av L0] []) := by
  unfold r33_Right
  refine sim_evR M XE rfl rfl fun S hS hw hw8 R hR => ?_
  refine au (cE hR (r04_Right_sim _) fun r0 => ?_)
  refine au (.ite Iff.rfl (fun hc => ?_) fun hc => ?_)
  · refine au (cE hR (r04_Right_sim _) fun r2 => ?_)
    exact au (.ret ⟨_, rfl, rfl⟩)
  · refine au ?_
    refine Sim.callL hR (r33_Right_0_sim L0 0 _ rfl) ?_
    rintro r5 q hr
    rcases r5 with r6 | r7
    · cases hr
      exact au (.ret ⟨_, rfl, rfl⟩)
    · cases hr
      refine au ?_
      refine Sim.ki hS (m := (List.length L0.Images : Int)) (by simp) ?_
      refine au (.ite Iff.rfl (fun hc5 => ?_) fun hc5 => ?_)
      · exact au (.ret ⟨_, rfl, rfl⟩)
      · refine au ?_
        refine Sim.ki hS (m := (List.length L0.Ticks : Int)) (by simp) ?_
        refine au (.ite Iff.rfl (fun hc6 => ?_) fun hc6 => ?_)
        · exact au (.ret ⟨_, rfl, rfl⟩)
        · refine au ?_
          refine Sim.callL hR (r33_Right_1_sim L0 0 _ rfl) ?_
          rintro r8 q hr
          rcases r8 with r9 | r10
          · cases hr
            exact au (.ret ⟨_, rfl, rfl⟩)
          · cases hr
            refine au ?_
            refine Sim.callL hR (r33_Right_2_sim L0 0 _ rfl) ?_
            rintro r12 q hr
            rcases r12 with r13 | r14
            · cases hr
              exact au (.ret ⟨_, rfl, rfl⟩)
            · cases hr
              exact au (.ret ⟨_, rfl, rfl⟩)
noncomputable def r01_Byte (n0 : Int) : Option ((List UInt8)) :=
  some (bytesOf [(w8 n0)])
theorem r01_Byte_sim (n0 : Int) : Sim (r01_Byte n0) (Gv fun r q => q = (.str r, [])) (LM.call n_r01_Byte [iav n0] []) := by
  unfold r01_Byte
  refine sim_evR M XE rfl rfl fun S hS hw hw8 R hR => ?_
  simp only [hw8]
  refine au ?_
  refine Sim.kl hS (ys := List.map u8av [(S.w8 n0)]) rfl ?_
  refine au ?_
  first | (refine Sim.go (bytes_mapM _) ?_) | skip
  exact au (.ret ⟨_, rfl, rfl⟩)
noncomputable def r40_digits_body (rec_r40_digits : Int → Option ((List UInt8))) (n0 : Int) : Option ((List UInt8)) :=
  if n0 < 10 then
    (r01_Byte (wr (48 + n0))).bind fun r0 =>
    some r0
  else
    (rec_r40_digits (wr (Int.tdiv n0 10))).bind fun r2 =>
    (r01_Byte (wr (48 + (Int.tmod n0 10)))).bind fun r3 =>
    if List.length r2 + List.length r3 ≤ 9223372036854775807 then
      some (r2 ++ r3)
    else none
noncomputable def r40_digits (n0 : Int) : Option ((List UInt8)) := iterO (fun r (p : Int) => r40_digits_body (fun n0 => r n0) p) recN n0
theorem r40_digits_sim (n0 : Int) : Sim (r40_digits n0) (Gv fun r q => q = (.str r, [])) (LM.call n_r40_digits [iav n0] []) := by
  have key : ∀ (f : Int → Option ((List UInt8))), (∀ (n0 : Int), Sim (f n0) (Gv fun r q => q = (.str r, [])) (LM.call n_r40_digits [iav n0] [])) → ∀ (n0 : Int), Sim (r40_digits_body f n0) (Gv fun r q => q = (.str r, [])) (LM.call n_r40_digits [iav n0] []) := by
    intro rec_r40_digits rec_r40_digits_sim n0
    unfold r40_digits_body
    refine sim_evR M XE rfl rfl fun S hS hw hw8 R hR => ?_
    simp only [hw]
    refine au (.ite Iff.rfl (fun hc => ?_) fun hc => ?_)
    · refine au (cE hR (r01_Byte_sim _) fun r0 => ?_)
      exact au (.ret ⟨_, rfl, rfl⟩)
    · refine au (cE hR (rec_r40_digits_sim _) fun r2 => ?_)
      refine au (cE hR (r01_Byte_sim _) fun r3 => ?_)
      refine au ?_
      first | refine Sim.ite Iff.rfl (fun _ => ?_) (fun _ => Sim.no) | refine Sim.guard (fun _ => ?_)
      exact au (.ret ⟨_, rfl, rfl⟩)
  unfold r40_digits
  exact iterO_sim (A := fun p => LM.call n_r40_digits ((fun n0 => [iav n0]) p) []) (G := Gv fun r q => q = (.str r, [])) (fun f hf p => key _ (fun n0 => hf n0) p) recN n0
noncomputable def r40_row_0_step (l2 : List Int) (s0 : List UInt8) (i0 : Int) : Option (((List UInt8) × Int) ⊕ ((List UInt8))) :=
  if i0 < (List.length l2 : Int) then
    if List.length s0 + List.length ([32] : List UInt8) ≤ 9223372036854775807 then
      (idx? l2 i0).bind fun z0 =>
      (r40_digits z0).bind fun r0 =>
      if List.length (s0 ++ ([32] : List UInt8)) + List.length r0 ≤ 9223372036854775807 then
        some (.inl (((s0 ++ ([32] : List UInt8)) ++ r0), (wr (i0 + 1))))
      else none
    else none
  else
    some (.inr s0)
noncomputable def r40_row_0 (l2 : List Int) (s0 : List UInt8) (i0 : Int) : Option ((List UInt8)) :=
  loopO (fun s : (List UInt8) × Int => r40_row_0_step l2 s.1 s.2) (s0, i0)
@[reducible] def r40_row_0_st (l2 : List Int) (s0 : List UInt8) (i0 : Int) : PF.St := ⟨[(1, lav iav l2), (5, .str s0), (6, iav i0)], []⟩
def r40_row_0_rel (l2 : List Int) (r : ((List UInt8))) (q : Ex × PF.St) : Prop := (fun r (q : Ex × PF.St) => q = ((.exit 0), ⟨[(5, .str r)], []⟩)) r q
def r40_row_0_inv (l2 : List Int) (v : (List UInt8) × Int) (e : PF.St) : Prop := e = r40_row_0_st l2 v.1 v.2
theorem r40_row_0_sim (l2 : List Int) (s0 : List UInt8) (i0 : Int) (s : PF.St) (hk : keep [1, 5, 6] [] s = some (r40_row_0_st l2 s0 i0)) : Sim (r40_row_0 l2 s0 i0) (Gv (r40_row_0_rel l2)) (LM.loop ([1, 5, 6], [], [5], B_r40_row_0) s) := by
  refine sim_loop M XE (r40_row_0_inv l2) (r40_row_0_rel l2) ?_ _ _ _ hk rfl
  clear hk
  rintro S hS hw hw8 R hR ⟨s0, i0⟩ env hp he
  change (⟨env, hp⟩ : PF.St) = r40_row_0_st l2 s0 i0 at he
  cases he
  show Sim (r40_row_0_step l2 s0 i0) _ _
  unfold r40_row_0_step
  simp only [hw]
  refine au ?_
  refine Sim.ki hS (m := (List.length l2 : Int)) (by simp) ?_
  refine au (.ite Iff.rfl (fun hc => ?_) fun hc => ?_)
  · refine au ?_
    first | refine Sim.ite Iff.rfl (fun _ => ?_) (fun _ => Sim.no) | refine Sim.guard (fun _ => ?_)
    refine au ?_
    refine Sim.ix (by simp) (fun z0 hz0 => ?_)
    refine au ?_
    refine Sim.go (idx_map _ hz0) ?_
    refine au (cE hR (r40_digits_sim _) fun r0 => ?_)
    refine au ?_
    first | refine Sim.ite Iff.rfl (fun _ => ?_) (fun _ => Sim.no) | refine Sim.guard (fun _ => ?_)
    refine au ?_
    exact Sim.ret ⟨_, _, rfl, rfl, rfl⟩
  · exact au (.ret ⟨_, rfl, rfl⟩)
noncomputable def r40_row (word : List UInt8) (l0 : List Int) : Option ((List UInt8)) :=
  (r40_row_0 l0 word 0).bind fun r2 =>
  some r2
theorem r40_row_sim (word : List UInt8) (l0 : List Int) : Sim (r40_row word l0) (Gv fun r q => q = (.str r, [])) (LM.call n_r40_row [.str word, lav iav l0] []) := by
  unfold r40_row
  refine sim_evR M XE rfl rfl fun S hS hw hw8 R hR => ?_
  refine au ?_
  refine Sim.callL hR (r40_row_0_sim l0 word 0 _ rfl) ?_
  rintro r2 q rfl
  exact au (.ret ⟨_, rfl, rfl⟩)
noncomputable def r40_some (word : List UInt8) (l0 : List Int) : Option ((List UInt8)) :=
  if (List.length l0 : Int) = 0 then
    some ([] : List UInt8)
  else
    (r40_row word l0).bind fun r0 =>
    if List.length r0 + List.length ([10] : List UInt8) ≤ 9223372036854775807 then
      some (r0 ++ ([10] : List UInt8))
    else none
theorem r40_some_sim (word : List UInt8) (l0 : List Int) : Sim (r40_some word l0) (Gv fun r q => q = (.str r, [])) (LM.call n_r40_some [.str word, lav iav l0] []) := by
  unfold r40_some
  refine sim_evR M XE rfl rfl fun S hS hw hw8 R hR => ?_
  refine au ?_
  refine Sim.ki hS (m := (List.length l0 : Int)) (by simp) ?_
  refine au (.ite Iff.rfl (fun hc => ?_) fun hc => ?_)
  · exact au (.ret ⟨_, rfl, rfl⟩)
  · refine au (cE hR (r40_row_sim _ _) fun r0 => ?_)
    refine au ?_
    first | refine Sim.ite Iff.rfl (fun _ => ?_) (fun _ => Sim.no) | refine Sim.guard (fun _ => ?_)
    exact au (.ret ⟨_, rfl, rfl⟩)
noncomputable def r40_hex_0_step (s2 : List UInt8) (all : List UInt8) (out : List Int) (i0 : Int) : Option (((List Int) × Int) ⊕ ((List Int))) :=
  if i0 < (List.length s2 : Int) then
    (idx? s2 i0).bind fun b0 =>
    (idx? all (IntKind.wrap .u8 (Int.tdiv (UInt8.toNat b0 : Int) 16))).bind fun b2 =>
    (idx? s2 i0).bind fun b3 =>
    (idx? all (Int.tmod (UInt8.toNat b3 : Int) 16)).bind fun b4 =>
    if List.length out + List.length [(UInt8.toNat b2 : Int), (UInt8.toNat b4 : Int)] ≤ lenMax then
      some (.inl ((out ++ [(UInt8.toNat b2 : Int), (UInt8.toNat b4 : Int)]), (wr (i0 + 1))))
    else none
  else
    some (.inr out)
noncomputable def r40_hex_0 (s2 : List UInt8) (all : List UInt8) (out : List Int) (i0 : Int) : Option ((List Int)) :=
  loopO (fun s : (List Int) × Int => r40_hex_0_step s2 all s.1 s.2) (out, i0)
@[reducible] def r40_hex_0_st (s2 : List UInt8) (all : List UInt8) (out : List Int) (i0 : Int) (g0 : Gr) : PF.St := ⟨[(0, .str s2), (3, .str all), (4, .lst g0 (List.map u8av out)), (5, iav i0)], []⟩
def r40_hex_0_rel (s2 : List UInt8) (all : List UInt8) (r : ((List Int))) (q : Ex × PF.St) : Prop := (fun r (q : Ex × PF.St) => ∃ g0', q = ((.exit 0), ⟨[(4, .lst g0' (List.map u8av r))], []⟩) ∧ Mg 1 g0') r q
def r40_hex_0_inv (s2 : List UInt8) (all : List UInt8) (v : (List Int) × Int) (e : PF.St) : Prop := ∃ g0, e = r40_hex_0_st s2 all v.1 v.2 g0 ∧ Mg 1 g0
theorem r40_hex_0_sim (s2 : List UInt8) (all : List UInt8) (out : List Int) (i0 : Int) (g0 : Gr) (hg0 : Mg 1 g0) (s : PF.St) (hk : keep [0, 3, 4, 5] [] s = some (r40_hex_0_st s2 all out i0 g0)) : Sim (r40_hex_0 s2 all out i0) (Gv (r40_hex_0_rel s2 all)) (LM.loop ([0, 3, 4, 5], [], [4], B_r40_hex_0) s) := by
  refine sim_loop M XE (r40_hex_0_inv s2 all) (r40_hex_0_rel s2 all) ?_ _ _ _ hk ⟨g0, rfl, hg0⟩
  clear hk hg0
  rintro S hS hw hw8 R hR ⟨out, i0⟩ env hp ⟨g0, he, hg0⟩
  change (⟨env, hp⟩ : PF.St) = r40_hex_0_st s2 all out i0 g0 at he
  cases he
  show Sim (r40_hex_0_step s2 all out i0) _ _
  unfold r40_hex_0_step
  simp only [hw]
  refine au (.ite Iff.rfl (fun hc2 => ?_) fun hc2 => ?_)
  · refine au ?_
    refine Sim.ix rfl (fun b0 hb0 => ?_)
    refine au ?_
    refine Sim.go hb0 ?_
    refine au ?_
    refine Sim.ix rfl (fun b2 hb2 => ?_)
    refine au ?_
    refine Sim.go hb2 ?_
    refine au ?_
    refine Sim.ix rfl (fun b3 hb3 => ?_)
    refine au ?_
    refine Sim.go hb3 ?_
    refine au ?_
    refine Sim.ix rfl (fun b4 hb4 => ?_)
    refine au ?_
    refine Sim.go hb4 ?_
    refine au ?_
    refine Sim.kl hS (ys := List.map u8av [(UInt8.toNat b2 : Int), (UInt8.toNat b4 : Int)]) rfl ?_
    refine au ?_
    first | (refine Sim.goB (may_map (by intro _; rfl) hg0 _) ?_) | skip
    refine au ?_
    first | (refine Sim.goB (okE_map (by intro _; exact ⟨rfl, rfl, rfl⟩) _) ?_) | skip
    refine au ?_
    first | refine Sim.ite (by simp) (fun _ => ?_) (fun _ => Sim.no) | refine Sim.guard (fun _ => ?_)
    refine au ?_
    refine Sim.kl hS (ys := List.map u8av (out ++ [(UInt8.toNat b2 : Int), (UInt8.toNat b4 : Int)])) (by simp) ?_
    refine au ?_
    exact Sim.ret ⟨_, _, rfl, rfl, ⟨_, rfl, Mg.own⟩⟩
  · refine au ?_
    exact Sim.ret ⟨_, rfl, ⟨_, rfl, hg0⟩⟩
noncomputable def r40_hex (s0 : List UInt8) : Option ((List UInt8)) :=
  if s0 = ([] : List UInt8) then
    some ([45] : List UInt8)
  else
    if 0 ≤ (wr (2 * (List.length s0 : Int))) ∧ (wr (2 * (List.length s0 : Int))) ≤ lenMax then
      (r40_hex_0 s0 ([48, 49, 50, 51, 52, 53, 54, 55, 56, 57, 97, 98, 99, 100, 101, 102] : List UInt8) ([] : List Int) 0).bind fun r0 =>
      some (bytesOf r0)
    else none
theorem r40_hex_sim (s0 : List UInt8) : Sim (r40_hex s0) (Gv fun r q => q = (.str r, [])) (LM.call n_r40_hex [.str s0] []) := by
  unfold r40_hex
  refine sim_evR M XE rfl rfl fun S hS hw hw8 R hR => ?_
  simp only [hw]
  refine au (.ite Iff.rfl (fun hc => ?_) fun hc => ?_)
  · exact au (.ret ⟨_, rfl, rfl⟩)
  · refine au ?_
    first | refine Sim.ite Iff.rfl (fun _ => ?_) (fun _ => Sim.no) | refine Sim.guard (fun _ => ?_)
    refine au ?_
    refine Sim.callL hR (r40_hex_0_sim s0 ([48, 49, 50, 51, 52, 53, 54, 55, 56, 57, 97, 98, 99, 100, 101, 102] : List UInt8) ([] : List Int) 0 (.own 1) Mg.own _ rfl) ?_
    rintro r0 q ⟨g2, rfl, hg2⟩
    refine au ?_
    refine Sim.go (bytes_mapM _) ?_
    exact au (.ret ⟨_, rfl, rfl⟩)
noncomputable def r40_tick_0_step (i0 : GTick) (x0 : List GSend) (x2 : Int) (t0 : List UInt8) (x3 : Int) : Option (((List UInt8) × Int) ⊕ ((List UInt8))) :=
  if x3 < x2 then
    (idx? x0 x3).bind fun z0 =>
    (r40_row ([115, 101, 110, 100] : List UInt8) [z0.From, z0.To, z0.Delay]).bind fun r3 =>
    if List.length t0 + List.length r3 ≤ 9223372036854775807 then
      if List.length (t0 ++ r3) + List.length ([32] : List UInt8) ≤ 9223372036854775807 then
        (r40_hex z0.Bytes).bind fun r4 =>
        if List.length ((t0 ++ r3) ++ ([32] : List UInt8)) + List.length r4 ≤ 9223372036854775807 then
          if List.length (((t0 ++ r3) ++ ([32] : List UInt8)) ++ r4) + List.length ([10] : List UInt8) ≤ 9223372036854775807 then
            some (.inl (((((t0 ++ r3) ++ ([32] : List UInt8)) ++ r4) ++ ([10] : List UInt8)), (wr (x3 + 1))))
          else none
        else none
      else none
    else none
  else
    some (.inr t0)
noncomputable def r40_tick_0 (i0 : GTick) (x0 : List GSend) (x2 : Int) (t0 : List UInt8) (x3 : Int) : Option ((List UInt8)) :=
  loopO (fun s : (List UInt8) × Int => r40_tick_0_step i0 x0 x2 s.1 s.2) (t0, x3)
@[reducible] def r40_tick_0_st (i0 : GTick) (x0 : List GSend) (x2 : Int) (t0 : List UInt8) (x3 : Int) : PF.St := ⟨[(1, .ept (GTick.cells i0) 0), (3, .str t0), (21, lav GSend.av x0), (22, iav x2), (23, iav x3)], []⟩
def r40_tick_0_rel (i0 : GTick) (x0 : List GSend) (x2 : Int) (r : ((List UInt8))) (q : Ex × PF.St) : Prop := (fun r (q : Ex × PF.St) => q = ((.exit 0), ⟨[(1, .ept (GTick.cells i0) 0), (3, .str r)], []⟩)) r q
def r40_tick_0_inv (i0 : GTick) (x0 : List GSend) (x2 : Int) (v : (List UInt8) × Int) (e : PF.St) : Prop := e = r40_tick_0_st i0 x0 x2 v.1 v.2
theorem r40_tick_0_sim (i0 : GTick) (x0 : List GSend) (x2 : Int) (t0 : List UInt8) (x3 : Int) (s : PF.St) (hk : keep [1, 3, 21, 22, 23] [] s = some (r40_tick_0_st i0 x0 x2 t0 x3)) : Sim (r40_tick_0 i0 x0 x2 t0 x3) (Gv (r40_tick_0_rel i0 x0 x2)) (LM.loop ([1, 3, 21, 22, 23], [], [1, 3], B_r40_tick_0) s) := by
  refine sim_loop M XE (r40_tick_0_inv i0 x0 x2) (r40_tick_0_rel i0 x0 x2) ?_ _ _ _ hk rfl
  clear hk
  rintro S hS hw hw8 R hR ⟨t0, x3⟩ env hp he
  change (⟨env, hp⟩ : PF.St) = r40_tick_0_st i0 x0 x2 t0 x3 at he
  cases he
  show Sim (r40_tick_0_step i0 x0 x2 t0 x3) _ _
  unfold r40_tick_0_step
  simp only [hw]
  refine au (.ite Iff.rfl (fun hc => ?_) fun hc => ?_)
  · refine au ?_
    refine Sim.ix (by simp) (fun z0 hz0 => ?_)
    refine au ?_
    refine Sim.go (idx_map _ hz0) ?_
    refine au ?_
    refine Sim.kl hS (ys := List.map iav [z0.From, z0.To, z0.Delay]) rfl ?_
    refine au (cE hR (r40_row_sim _ _) fun r3 => ?_)
    refine au ?_
    first | refine Sim.ite Iff.rfl (fun _ => ?_) (fun _ => Sim.no) | refine Sim.guard (fun _ => ?_)
    refine au ?_
    first | refine Sim.ite Iff.rfl (fun _ => ?_) (fun _ => Sim.no) | refine Sim.guard (fun _ => ?_)
    refine au (cE hR (r40_hex_sim _) fun r4 => ?_)
    refine au ?_
    first | refine Sim.ite Iff.rfl (fun _ => ?_) (fun _ => Sim.no) | refine Sim.guard (fun _ => ?_)
    refine au ?_
    first | refine Sim.ite Iff.rfl (fun _ => ?_) (fun _ => Sim.no) | refine Sim.guard (fun _ => ?_)
    refine au ?_
    exact Sim.ret ⟨_, _, rfl, rfl, rfl⟩
  · exact au (.ret ⟨_, rfl, rfl⟩)
noncomputable def r40_tick_1_step (i2 : GTick) (x4 : List GBurst) (x5 : Int) (t2 : List UInt8) (x6 : Int) : Option (((List UInt8) × Int) ⊕ ((List UInt8))) :=
  if x6 < x5 then
    (idx? x4 x6).bind fun z2 =>
    (r40_row ([98, 117, 114, 115, 116] : List UInt8) [z2.Node]).bind fun r6 =>
    if List.length t2 + List.length r6 ≤ 9223372036854775807 then
      if List.length (t2 ++ r6) + List.length ([32] : List UInt8) ≤ 9223372036854775807 then
        (r40_hex z2.Image).bind fun r7 =>
        if List.length ((t2 ++ r6) ++ ([32] : List UInt8)) + List.length r7 ≤ 9223372036854775807 then
          if List.length (((t2 ++ r6) ++ ([32] : List UInt8)) ++ r7) + List.length ([10] : List UInt8) ≤ 9223372036854775807 then
            some (.inl (((((t2 ++ r6) ++ ([32] : List UInt8)) ++ r7) ++ ([10] : List UInt8)), (wr (x6 + 1))))
          else none
        else none
      else none
    else none
  else
    some (.inr t2)
noncomputable def r40_tick_1 (i2 : GTick) (x4 : List GBurst) (x5 : Int) (t2 : List UInt8) (x6 : Int) : Option ((List UInt8)) :=
  loopO (fun s : (List UInt8) × Int => r40_tick_1_step i2 x4 x5 s.1 s.2) (t2, x6)
@[reducible] def r40_tick_1_st (i2 : GTick) (x4 : List GBurst) (x5 : Int) (t2 : List UInt8) (x6 : Int) : PF.St := ⟨[(1, .ept (GTick.cells i2) 0), (3, .str t2), (45, lav GBurst.av x4), (46, iav x5), (47, iav x6)], []⟩
def r40_tick_1_rel (i2 : GTick) (x4 : List GBurst) (x5 : Int) (r : ((List UInt8))) (q : Ex × PF.St) : Prop := (fun r (q : Ex × PF.St) => q = ((.exit 2), ⟨[(1, .ept (GTick.cells i2) 0), (3, .str r)], []⟩)) r q
def r40_tick_1_inv (i2 : GTick) (x4 : List GBurst) (x5 : Int) (v : (List UInt8) × Int) (e : PF.St) : Prop := e = r40_tick_1_st i2 x4 x5 v.1 v.2
end Go.Proofs.YtfjlpfjpidikjaaGreatDoor
