/-
  The program's functions as plain functions (printed by a program of mine), each beside the machine's.
-/
import Derived.Test.YtfjlpfjpidikjaaGreatDoorFm
import Derived.Test.YtfjlpfjpidikjaaGreatDoorPFe
set_option linter.unusedVariables false
set_option linter.unusedSimpArgs false
set_option maxRecDepth 100000
set_option maxHeartbeats 4000000
namespace Go.Proofs.YtfjlpfjpidikjaaGreatDoor
open Go.Proofs.PF
noncomputable abbrev LM : MRec := lim M XE
abbrev ES := Ex × PF.St
structure Ar13 (α : Type) where
 a0 : α
 a1 : α
 a2 : α
 a3 : α
 a4 : α
 a5 : α
 a6 : α
 a7 : α
 a8 : α
 a9 : α
 a10 : α
 a11 : α
 a12 : α
 deriving DecidableEq, Inhabited
@[reducible] def Ar13.cells {α : Type} (f : α → AV) (x : Ar13 α) : List AV := [f x.a0, f x.a1, f x.a2, f x.a3, f x.a4, f x.a5, f x.a6, f x.a7, f x.a8, f x.a9, f x.a10, f x.a11, f x.a12]
@[reducible] def Ar13.av {α : Type} (f : α → AV) (x : Ar13 α) : AV := .agg [f x.a0, f x.a1, f x.a2, f x.a3, f x.a4, f x.a5, f x.a6, f x.a7, f x.a8, f x.a9, f x.a10, f x.a11, f x.a12]
def Ar13.get? {α : Type} (x : Ar13 α) : Nat → Option α
 | 0 => some x.a0
 | 1 => some x.a1
 | 2 => some x.a2
 | 3 => some x.a3
 | 4 => some x.a4
 | 5 => some x.a5
 | 6 => some x.a6
 | 7 => some x.a7
 | 8 => some x.a8
 | 9 => some x.a9
 | 10 => some x.a10
 | 11 => some x.a11
 | 12 => some x.a12
 | _ => none
def Ar13.set? {α : Type} (x : Ar13 α) (k : Nat) (v : α) : Option (Ar13 α) :=
 match k with
 | 0 => some { x with a0 := v }
 | 1 => some { x with a1 := v }
 | 2 => some { x with a2 := v }
 | 3 => some { x with a3 := v }
 | 4 => some { x with a4 := v }
 | 5 => some { x with a5 := v }
 | 6 => some { x with a6 := v }
 | 7 => some { x with a7 := v }
 | 8 => some { x with a8 := v }
 | 9 => some { x with a9 := v }
 | 10 => some { x with a10 := v }
 | 11 => some { x with a11 := v }
 | 12 => some { x with a12 := v }
 | _ => none
structure GConf where
 N : Int
 F : Int
 D : Int
 Period : Int
 Rate : Int
 Drift : Int
 Offset : Int
 Slot : Int
 Mod : Int
 Fresh : Int
 Table : List Int
 deriving DecidableEq, Inhabited
@[reducible] def GConf.cells (x : GConf) : List AV := [iav x.N, iav x.F, iav x.D, iav x.Period, iav x.Rate, iav x.Drift, iav x.Offset, iav x.Slot, iav x.Mod, iav x.Fresh, lav iav x.Table]
@[reducible] def GConf.av (x : GConf) : AV := .agg [iav x.N, iav x.F, iav x.D, iav x.Period, iav x.Rate, iav x.Drift, iav x.Offset, iav x.Slot, iav x.Mod, iav x.Fresh, lav iav x.Table]
structure GSend where
 From : Int
 To : Int
 Delay : Int
 Bytes : List UInt8
 deriving DecidableEq, Inhabited
@[reducible] def GSend.cells (x : GSend) : List AV := [iav x.From, iav x.To, iav x.Delay, .str x.Bytes]
@[reducible] def GSend.av (x : GSend) : AV := .agg [iav x.From, iav x.To, iav x.Delay, .str x.Bytes]
structure GBurst where
 Node : Int
 Image : List UInt8
 deriving DecidableEq, Inhabited
@[reducible] def GBurst.cells (x : GBurst) : List AV := [iav x.Node, .str x.Image]
@[reducible] def GBurst.av (x : GBurst) : AV := .agg [iav x.Node, .str x.Image]
structure GWrite where
 Node : Int
 Text : List UInt8
 deriving DecidableEq, Inhabited
@[reducible] def GWrite.cells (x : GWrite) : List AV := [iav x.Node, .str x.Text]
@[reducible] def GWrite.av (x : GWrite) : AV := .agg [iav x.Node, .str x.Text]
structure GTick where
 Units : List Int
 Delays : List Int
 Sends : List GSend
 Bursts : List GBurst
 Strays : List GSend
 Writes : List GWrite
 deriving DecidableEq, Inhabited
@[reducible] def GTick.cells (x : GTick) : List AV := [lav iav x.Units, lav iav x.Delays, lav GSend.av x.Sends, lav GBurst.av x.Bursts, lav GSend.av x.Strays, lav GWrite.av x.Writes]
@[reducible] def GTick.av (x : GTick) : AV := .agg [lav iav x.Units, lav iav x.Delays, lav GSend.av x.Sends, lav GBurst.av x.Bursts, lav GSend.av x.Strays, lav GWrite.av x.Writes]
structure GScript where
 Conf : GConf
 Faulty : List Int
 Images : List (List UInt8)
 Ticks : List GTick
 deriving DecidableEq, Inhabited
@[reducible] def GScript.cells (x : GScript) : List AV := [iav x.Conf.N, iav x.Conf.F, iav x.Conf.D, iav x.Conf.Period, iav x.Conf.Rate, iav x.Conf.Drift, iav x.Conf.Offset, iav x.Conf.Slot, iav x.Conf.Mod, iav x.Conf.Fresh, lav iav x.Conf.Table, lav iav x.Faulty, lav sav x.Images, lav GTick.av x.Ticks]
@[reducible] def GScript.av (x : GScript) : AV := .agg [iav x.Conf.N, iav x.Conf.F, iav x.Conf.D, iav x.Conf.Period, iav x.Conf.Rate, iav x.Conf.Drift, iav x.Conf.Offset, iav x.Conf.Slot, iav x.Conf.Mod, iav x.Conf.Fresh, lav iav x.Conf.Table, lav iav x.Faulty, lav sav x.Images, lav GTick.av x.Ticks]
structure Csp where
 f_low : Int
 f_high : Int
 deriving DecidableEq, Inhabited
@[reducible] def Csp.cells (x : Csp) : List AV := [iav x.f_low, iav x.f_high]
@[reducible] def Csp.av (x : Csp) : AV := .agg [iav x.f_low, iav x.f_high]
structure Nsp where
 f_n : Int
 f_span : Csp
 deriving DecidableEq, Inhabited
@[reducible] def Nsp.cells (x : Nsp) : List AV := [iav x.f_n, iav x.f_span.f_low, iav x.f_span.f_high]
@[reducible] def Nsp.av (x : Nsp) : AV := .agg [iav x.f_n, iav x.f_span.f_low, iav x.f_span.f_high]
structure Gbound_plain where
 Conf : GConf
 deriving DecidableEq, Inhabited
@[reducible] def Gbound_plain.cells (x : Gbound_plain) : List AV := [iav x.Conf.N, iav x.Conf.F, iav x.Conf.D, iav x.Conf.Period, iav x.Conf.Rate, iav x.Conf.Drift, iav x.Conf.Offset, iav x.Conf.Slot, iav x.Conf.Mod, iav x.Conf.Fresh, lav iav x.Conf.Table]
@[reducible] def Gbound_plain.av (x : Gbound_plain) : AV := .agg [iav x.Conf.N, iav x.Conf.F, iav x.Conf.D, iav x.Conf.Period, iav x.Conf.Rate, iav x.Conf.Drift, iav x.Conf.Offset, iav x.Conf.Slot, iav x.Conf.Mod, iav x.Conf.Fresh, lav iav x.Conf.Table]
structure Gbound_sound where
 f_plain : Gbound_plain
 f_wide : Int
 deriving DecidableEq, Inhabited
@[reducible] def Gbound_sound.cells (x : Gbound_sound) : List AV := [iav x.f_plain.Conf.N, iav x.f_plain.Conf.F, iav x.f_plain.Conf.D, iav x.f_plain.Conf.Period, iav x.f_plain.Conf.Rate, iav x.f_plain.Conf.Drift, iav x.f_plain.Conf.Offset, iav x.f_plain.Conf.Slot, iav x.f_plain.Conf.Mod, iav x.f_plain.Conf.Fresh, lav iav x.f_plain.Conf.Table, iav x.f_wide]
@[reducible] def Gbound_sound.av (x : Gbound_sound) : AV := .agg [iav x.f_plain.Conf.N, iav x.f_plain.Conf.F, iav x.f_plain.Conf.D, iav x.f_plain.Conf.Period, iav x.f_plain.Conf.Rate, iav x.f_plain.Conf.Drift, iav x.f_plain.Conf.Offset, iav x.f_plain.Conf.Slot, iav x.f_plain.Conf.Mod, iav x.f_plain.Conf.Fresh, lav iav x.f_plain.Conf.Table, iav x.f_wide]
structure Wtr where
 f_out : List Int
 deriving DecidableEq, Inhabited
@[reducible] def Wtr.cells (x : Wtr) : List AV := [lav u8av x.f_out]
@[reducible] def Wtr.av (x : Wtr) : AV := .agg [lav u8av x.f_out]
structure Rdr where
 f_lines : List (List UInt8)
 f_at : Int
 f_s : GScript
 deriving DecidableEq, Inhabited
@[reducible] def Rc (x : Rdr) (a b c d e : Gr) : List AV := [.lst a (List.map sav x.f_lines), iav x.f_at, iav x.f_s.Conf.N, iav x.f_s.Conf.F, iav x.f_s.Conf.D, iav x.f_s.Conf.Period, iav x.f_s.Conf.Rate, iav x.f_s.Conf.Drift, iav x.f_s.Conf.Offset, iav x.f_s.Conf.Slot, iav x.f_s.Conf.Mod, iav x.f_s.Conf.Fresh, .lst b (List.map iav x.f_s.Conf.Table), .lst c (List.map iav x.f_s.Faulty), .lst d (List.map sav x.f_s.Images), .lst e (List.map GTick.av x.f_s.Ticks)]
@[reducible] def Rdr.cells (x : Rdr) : List AV := [lav sav x.f_lines, iav x.f_at, iav x.f_s.Conf.N, iav x.f_s.Conf.F, iav x.f_s.Conf.D, iav x.f_s.Conf.Period, iav x.f_s.Conf.Rate, iav x.f_s.Conf.Drift, iav x.f_s.Conf.Offset, iav x.f_s.Conf.Slot, iav x.f_s.Conf.Mod, iav x.f_s.Conf.Fresh, lav iav x.f_s.Conf.Table, lav iav x.f_s.Faulty, lav sav x.f_s.Images, lav GTick.av x.f_s.Ticks]
@[reducible] def Rdr.av (x : Rdr) : AV := .agg [lav sav x.f_lines, iav x.f_at, iav x.f_s.Conf.N, iav x.f_s.Conf.F, iav x.f_s.Conf.D, iav x.f_s.Conf.Period, iav x.f_s.Conf.Rate, iav x.f_s.Conf.Drift, iav x.f_s.Conf.Offset, iav x.f_s.Conf.Slot, iav x.f_s.Conf.Mod, iav x.f_s.Conf.Fresh, lav iav x.f_s.Conf.Table, lav iav x.f_s.Faulty, lav sav x.f_s.Images, lav GTick.av x.f_s.Ticks]
noncomputable def strings_Split (s sep : List UInt8) : Option (List (List UInt8)) := if s.length < 4294967281 ∧ 1 ≤ sep.length then some (Lib.split s sep) else none
theorem strings_Split_sim (s sep : List UInt8) : Sim (strings_Split s sep) (Gv fun r q => q = (lav sav r, [])) (LM.call n_strings_Split [.str s, .str sep] []) := by
 unfold strings_Split
 refine Sim.guard fun h => Sim.ret ⟨(lav sav (Lib.split s sep), []), ?_, rfl⟩
 rw [lim_ext_eq M XE rfl]
 first
 | (show (if s.length < 4294967281 ∧ 1 ≤ sep.length then some (lav sav (Lib.split s sep), ([] : List PF.Obj)) else none) = _; rw [if_pos h])
 | (show (match (if s.length < 4294967281 ∧ 1 ≤ sep.length then some (lav sav (Lib.split s sep), ([] : List PF.Obj)) else none) with
   | some r => some r
   | none => _) = _; rw [if_pos h])
noncomputable def strconv_Itoa (c : Int) : Option (List UInt8) := if -9223372036854775808 ≤ c ∧ c ≤ 9223372036854775807 then some (Lib.itoa c) else none
theorem strconv_Itoa_sim (c : Int) : Sim (strconv_Itoa c) (Gv fun r q => q = (.str r, [])) (LM.call n_strconv_Itoa [.int .i64 c] []) := by
 unfold strconv_Itoa
 refine Sim.guard fun h => Sim.ret ⟨(.str (Lib.itoa c), []), ?_, rfl⟩
 rw [lim_ext_eq M XE rfl]
 first
 | (show (if -9223372036854775808 ≤ c ∧ c ≤ 9223372036854775807 then some (AV.str (Lib.itoa c), ([] : List PF.Obj)) else none) = _; rw [if_pos h])
 | (show (match (if -9223372036854775808 ≤ c ∧ c ≤ 9223372036854775807 then some (AV.str (Lib.itoa c), ([] : List PF.Obj)) else none) with
   | some r => some r
   | none => _) = _; rw [if_pos h])
noncomputable def strings_IndexByte (s : List UInt8) (c : Int) : Option Int := some (Lib.indexByte s c.toNat.toUInt8)
theorem strings_IndexByte_sim (s : List UInt8) (c : Int) : Sim (strings_IndexByte s c) (Gv fun r q => q = (iav r, [])) (LM.call n_strings_IndexByte [.str s, u8av c] []) := by
 unfold strings_IndexByte
 refine Sim.ret ⟨(iav (Lib.indexByte s c.toNat.toUInt8), []), ?_, rfl⟩
 rw [lim_ext_eq M XE rfl]
 rfl
noncomputable def strings_Cut (s sep : List UInt8) : Option (List UInt8 × List UInt8 × Bool) := if s.length < 4294967281 then some (Lib.cut s sep) else none
theorem strings_Cut_sim (s sep : List UInt8) : Sim (strings_Cut s sep) (Gv fun r q => q = (.tup [.str r.1, .str r.2.1, .bool r.2.2], [])) (LM.call n_strings_Cut [.str s, .str sep] []) := by
 unfold strings_Cut
 refine Sim.guard fun h => Sim.ret ⟨(.tup [.str (Lib.cut s sep).1, .str (Lib.cut s sep).2.1, .bool (Lib.cut s sep).2.2], []), ?_, rfl⟩
 rw [lim_ext_eq M XE rfl]
 first
 | (show (if s.length < 4294967281 then some (AV.tup [.str (Lib.cut s sep).1, .str (Lib.cut s sep).2.1, .bool (Lib.cut s sep).2.2], ([] : List PF.Obj)) else none) = _; rw [if_pos h])
 | (show (match (if s.length < 4294967281 then some (AV.tup [.str (Lib.cut s sep).1, .str (Lib.cut s sep).2.1, .bool (Lib.cut s sep).2.2], ([] : List PF.Obj)) else none) with
   | some r => some r
   | none => _) = _; rw [if_pos h])
noncomputable def r33_Few_0_step (s0 : GScript) (t0 : Int) : Option ((Int) ⊕ ((Bool) ⊕ (Unit))) :=
 if t0 < (List.length s0.Images : Int) then
  (idx? s0.Images t0).bind fun z0 =>
  if 16000 < (List.length z0 : Int) then
   some (.inr (.inl false))
  else
   some (.inl (wr (t0 + 1)))
 else
  some (.inr (.inr ()))
noncomputable def r33_Few_0 (s0 : GScript) (t0 : Int) : Option ((Bool) ⊕ (Unit)) :=
 loopO (fun s : Int => r33_Few_0_step s0 s) t0
@[reducible] def r33_Few_0_st (s0 : GScript) (t0 : Int) : PF.St := ⟨[(2, .ept (GScript.cells s0) 0), (5, iav t0)], []⟩
def r33_Few_0_rel (s0 : GScript) (r : ((Bool) ⊕ (Unit))) (q : ES) : Prop := (fun r (q : ES) => Sum.elim (fun r => (fun r (q : ES) => q = (Ex.ret, ⟨[(2, .ept (GScript.cells s0) 0), (4, .bool r)], []⟩)) r q) (fun r => (fun r (q : ES) => q = ((.exit 0), ⟨[(2, .ept (GScript.cells s0) 0), (4, .undef)], []⟩)) r q) r) r q
def r33_Few_0_inv (s0 : GScript) (v : Int) (e : PF.St) : Prop := e = r33_Few_0_st s0 v
theorem r33_Few_0_sim (s0 : GScript) (t0 : Int) (s : PF.St) (hk : keep [2, 5] [] s = some (r33_Few_0_st s0 t0)) : Sim (r33_Few_0 s0 t0) (Gv (r33_Few_0_rel s0)) (LM.loop ([2, 5], [], [2, 4], B_r33_Few_0) s) := by
 refine sim_loop M XE (r33_Few_0_inv s0) (r33_Few_0_rel s0) ?_ _ _ _ hk rfl
 clear hk
 rintro S hS hw hw8 R hR t0 env hp he
 change (⟨env, hp⟩ : PF.St) = r33_Few_0_st s0 t0 at he
 cases he
 show Sim (r33_Few_0_step s0 t0) _ _
 unfold r33_Few_0_step
 simp only [hw]
 refine au ?_
 refine Sim.ki hS (m := (List.length s0.Images : Int)) (by simp) ?_
 refine au (.ite Iff.rfl (fun hc5 => ?_) fun hc5 => ?_)
 ·refine au ?_
  refine Sim.ix (by simp) (fun z0 hz0 => ?_)
  refine au ?_
  refine Sim.go (idx_map _ hz0) ?_
  refine au (.ite Iff.rfl (fun hc6 => ?_) fun hc6 => ?_)
  ·exact au (.ret ⟨_, rfl, rfl⟩)
  ·refine au ?_
   exact Sim.ret ⟨_, _, rfl, rfl, rfl⟩
 ·exact au (.ret ⟨_, rfl, rfl⟩)
noncomputable def r33_Few_1_step (s3 : GScript) (o2 : Int) (x0 : List GBurst) (x2 : Int) (A0 : GTick) (x3 : Int) : Option ((Int) ⊕ ((Bool) ⊕ (Unit))) :=
 if x3 < x2 then
  (idx? x0 x3).bind fun z3 =>
  if 16000 < (List.length z3.Image : Int) then
   some (.inr (.inl false))
  else
   some (.inl (wr (x3 + 1)))
 else
  some (.inr (.inr ()))
noncomputable def r33_Few_1 (s3 : GScript) (o2 : Int) (x0 : List GBurst) (x2 : Int) (A0 : GTick) (x3 : Int) : Option ((Bool) ⊕ (Unit)) :=
 loopO (fun s : Int => r33_Few_1_step s3 o2 x0 x2 A0 s) x3
@[reducible] def r33_Few_1_st (s3 : GScript) (o2 : Int) (x0 : List GBurst) (x2 : Int) (A0 : GTick) (x3 : Int) (g0 : Gr) (g2 : Gr) : PF.St := ⟨[(2, .ept (GScript.cells s3) 0), (6, iav o2), (95, lav GBurst.av x0), (96, iav x2), (97, iav x3)], [(107, ⟨true, [.lst g0 (List.map iav A0.Units), .lst g2 (List.map iav A0.Delays), lav GSend.av A0.Sends, lav GBurst.av A0.Bursts, lav GSend.av A0.Strays, lav GWrite.av A0.Writes]⟩)]⟩
def r33_Few_1_rel (s3 : GScript) (o2 : Int) (x0 : List GBurst) (x2 : Int) (A0 : GTick) (r : ((Bool) ⊕ (Unit))) (q : ES) : Prop := (fun r (q : ES) => Sum.elim (fun r => (fun r (q : ES) => ∃ g0', ∃ g1', q = (Ex.ret, ⟨[(2, .ept (GScript.cells s3) 0), (4, .bool r), (6, iav o2)], [(107, ⟨true, [.lst g0' (List.map iav A0.Units), .lst g1' (List.map iav A0.Delays), lav GSend.av A0.Sends, lav GBurst.av A0.Bursts, lav GSend.av A0.Strays, lav GWrite.av A0.Writes]⟩)]⟩)) r q) (fun r => (fun r (q : ES) => ∃ g0', ∃ g1', q = ((.exit 4), ⟨[(2, .ept (GScript.cells s3) 0), (4, .undef), (6, iav o2)], [(107, ⟨true, [.lst g0' (List.map iav A0.Units), .lst g1' (List.map iav A0.Delays), lav GSend.av A0.Sends, lav GBurst.av A0.Bursts, lav GSend.av A0.Strays, lav GWrite.av A0.Writes]⟩)]⟩)) r q) r) r q
def r33_Few_1_inv (s3 : GScript) (o2 : Int) (x0 : List GBurst) (x2 : Int) (A0 : GTick) (v : Int) (e : PF.St) : Prop := ∃ g0, ∃ g2, e = r33_Few_1_st s3 o2 x0 x2 A0 v g0 g2
theorem r33_Few_1_sim (s3 : GScript) (o2 : Int) (x0 : List GBurst) (x2 : Int) (A0 : GTick) (x3 : Int) (g0 : Gr) (g2 : Gr) (s : PF.St) (hk : keep [2, 6, 95, 96, 97] [107] s = some (r33_Few_1_st s3 o2 x0 x2 A0 x3 g0 g2)) : Sim (r33_Few_1 s3 o2 x0 x2 A0 x3) (Gv (r33_Few_1_rel s3 o2 x0 x2 A0)) (LM.loop ([2, 6, 95, 96, 97], [107], [2, 4, 6], B_r33_Few_1) s) := by
 refine sim_loop M XE (r33_Few_1_inv s3 o2 x0 x2 A0) (r33_Few_1_rel s3 o2 x0 x2 A0) ?_ _ _ _ hk ⟨g0, g2, rfl⟩
 clear hk
 rintro S hS hw hw8 R hR x3 env hp ⟨g0, g2, he⟩
 change (⟨env, hp⟩ : PF.St) = r33_Few_1_st s3 o2 x0 x2 A0 x3 g0 g2 at he
 cases he
 show Sim (r33_Few_1_step s3 o2 x0 x2 A0 x3) _ _
 unfold r33_Few_1_step
 simp only [hw]
 refine au (.ite Iff.rfl (fun hc14 => ?_) fun hc14 => ?_)
 ·refine au ?_
  refine Sim.ix (by simp) (fun z3 hz3 => ?_)
  refine au ?_
  refine Sim.go (idx_map _ hz3) ?_
  refine au (.ite Iff.rfl (fun hc15 => ?_) fun hc15 => ?_)
  ·refine au ?_
   exact Sim.ret ⟨_, rfl, ⟨_, _, rfl⟩⟩
  ·refine au ?_
   exact Sim.ret ⟨_, _, rfl, rfl, ⟨_, _, rfl⟩⟩
 ·refine au ?_
  exact Sim.ret ⟨_, rfl, ⟨_, _, rfl⟩⟩
noncomputable def r33_Few_2_step (s2 : GScript) (o0 : Int) : Option ((Int) ⊕ ((Bool) ⊕ (Unit))) :=
 if o0 < (List.length s2.Ticks : Int) then
  (idx? s2.Ticks o0).bind fun z2 =>
  if 100 < (List.length z2.Units : Int) then
   some (.inr (.inl false))
  else
   if 400 < (List.length z2.Delays : Int) then
    some (.inr (.inl false))
   else
    if 100 < (List.length z2.Sends : Int) then
     some (.inr (.inl false))
    else
     if 100 < (List.length z2.Bursts : Int) then
      some (.inr (.inl false))
     else
      if 100 < (List.length z2.Strays : Int) then
       some (.inr (.inl false))
      else
       if 100 < (List.length z2.Writes : Int) then
        some (.inr (.inl false))
       else
        (r33_Few_1 s2 o0 z2.Bursts (List.length z2.Bursts : Int) z2 0).bind fun r4 =>
        Sum.elim
         (fun r5 =>
           some (.inr (.inl r5)))
         (fun r6 =>
           some (.inl (wr (o0 + 1))))
         r4
 else
  some (.inr (.inr ()))
noncomputable def r33_Few_2 (s2 : GScript) (o0 : Int) : Option ((Bool) ⊕ (Unit)) :=
 loopO (fun s : Int => r33_Few_2_step s2 s) o0
@[reducible] def r33_Few_2_st (s2 : GScript) (o0 : Int) : PF.St := ⟨[(2, .ept (GScript.cells s2) 0), (6, iav o0)], []⟩
def r33_Few_2_rel (s2 : GScript) (r : ((Bool) ⊕ (Unit))) (q : ES) : Prop := (fun r (q : ES) => Sum.elim (fun r => (fun r (q : ES) => q = (Ex.ret, ⟨[(4, .bool r)], []⟩)) r q) (fun r => (fun r (q : ES) => q = ((.exit 2), ⟨[(4, .undef)], []⟩)) r q) r) r q
def r33_Few_2_inv (s2 : GScript) (v : Int) (e : PF.St) : Prop := e = r33_Few_2_st s2 v
theorem r33_Few_2_sim (s2 : GScript) (o0 : Int) (s : PF.St) (hk : keep [2, 6] [] s = some (r33_Few_2_st s2 o0)) : Sim (r33_Few_2 s2 o0) (Gv (r33_Few_2_rel s2)) (LM.loop ([2, 6], [], [4], B_r33_Few_2) s) := by
 refine sim_loop M XE (r33_Few_2_inv s2) (r33_Few_2_rel s2) ?_ _ _ _ hk rfl
 clear hk
 rintro S hS hw hw8 R hR o0 env hp he
 change (⟨env, hp⟩ : PF.St) = r33_Few_2_st s2 o0 at he
 cases he
 show Sim (r33_Few_2_step s2 o0) _ _
 unfold r33_Few_2_step
 simp only [hw]
 refine au ?_
 refine Sim.ki hS (m := (List.length s2.Ticks : Int)) (by simp) ?_
 refine au (.ite Iff.rfl (fun hc7 => ?_) fun hc7 => ?_)
 ·refine au ?_
  refine Sim.ix (by simp) (fun z2 hz2 => ?_)
  refine au ?_
  refine Sim.go (idx_map _ hz2) ?_
  refine au ?_
  refine Sim.ki hS (m := (List.length z2.Units : Int)) (by simp) ?_
  refine au (.ite Iff.rfl (fun hc8 => ?_) fun hc8 => ?_)
  ·exact au (.ret ⟨_, rfl, rfl⟩)
  ·refine au ?_
   refine Sim.ki hS (m := (List.length z2.Delays : Int)) (by simp) ?_
   refine au (.ite Iff.rfl (fun hc9 => ?_) fun hc9 => ?_)
   ·exact au (.ret ⟨_, rfl, rfl⟩)
   ·refine au ?_
    refine Sim.ki hS (m := (List.length z2.Sends : Int)) (by simp) ?_
    refine au (.ite Iff.rfl (fun hc10 => ?_) fun hc10 => ?_)
    ·exact au (.ret ⟨_, rfl, rfl⟩)
    ·refine au ?_
     refine Sim.ki hS (m := (List.length z2.Bursts : Int)) (by simp) ?_
     refine au (.ite Iff.rfl (fun hc11 => ?_) fun hc11 => ?_)
     ·exact au (.ret ⟨_, rfl, rfl⟩)
     ·refine au ?_
      refine Sim.ki hS (m := (List.length z2.Strays : Int)) (by simp) ?_
      refine au (.ite Iff.rfl (fun hc12 => ?_) fun hc12 => ?_)
      ·exact au (.ret ⟨_, rfl, rfl⟩)
      ·refine au ?_
       refine Sim.ki hS (m := (List.length z2.Writes : Int)) (by simp) ?_
       refine au (.ite Iff.rfl (fun hc13 => ?_) fun hc13 => ?_)
       ·exact au (.ret ⟨_, rfl, rfl⟩)
       ·refine au ?_
        refine Sim.ki hS (m := (List.length z2.Bursts : Int)) (by simp) ?_
        refine au ?_
        refine Sim.callL hR (r33_Few_1_sim s2 o0 z2.Bursts (List.length z2.Bursts : Int) z2 0 .no .no _ rfl) ?_
        rintro r4 q hr
        rcases r4 with r5 | r6
        ·obtain ⟨g3, g4, rfl⟩ := hr
         exact au (.ret ⟨_, rfl, rfl⟩)
        ·obtain ⟨g5, g6, rfl⟩ := hr
         refine au ?_
         exact Sim.ret ⟨_, _, rfl, rfl, rfl⟩
 ·exact au (.ret ⟨_, rfl, rfl⟩)
noncomputable def r33_Few (L0 : GScript) (i0 : Int) : Option Bool :=
 if i0 < (List.length L0.Ticks : Int) then
  some false
 else
  if 100 < (List.length L0.Conf.Table : Int) then
   some false
  else
   if 100 < (List.length L0.Faulty : Int) then
    some false
   else
    if 100 < (List.length L0.Images : Int) then
     some false
    else
     (r33_Few_0 L0 0).bind fun r0 =>
     Sum.elim
      (fun r2 =>
        some r2)
      (fun r3 =>
        (r33_Few_2 L0 0).bind fun r7 =>
        Sum.elim
         (fun r8 =>
           some r8)
         (fun r9 =>
           some true)
         r7)
      r0
theorem r33_Few_sim (L0 : GScript) (i0 : Int) : Sim (r33_Few L0 i0) (Gv fun r q => q = (.bool r, [])) (LM.call n_r33_Few [GScript.av L0, iav i0] []) := by
 unfold r33_Few
 refine sim_evR M XE rfl rfl fun S hS hw hw8 R hR => ?_
 refine au ?_
 refine Sim.ki hS (m := (List.length L0.Ticks : Int)) (by simp) ?_
 refine au (.ite Iff.rfl (fun hc => ?_) fun hc => ?_)
 ·exact au (.ret ⟨_, rfl, rfl⟩)
 ·refine au ?_
  refine Sim.ki hS (m := (List.length L0.Conf.Table : Int)) (by simp) ?_
  refine au (.ite Iff.rfl (fun hc2 => ?_) fun hc2 => ?_)
  ·exact au (.ret ⟨_, rfl, rfl⟩)
  ·refine au ?_
   refine Sim.ki hS (m := (List.length L0.Faulty : Int)) (by simp) ?_
   refine au (.ite Iff.rfl (fun hc3 => ?_) fun hc3 => ?_)
   ·exact au (.ret ⟨_, rfl, rfl⟩)
   ·refine au ?_
    refine Sim.ki hS (m := (List.length L0.Images : Int)) (by simp) ?_
    refine au (.ite Iff.rfl (fun hc4 => ?_) fun hc4 => ?_)
    ·exact au (.ret ⟨_, rfl, rfl⟩)
    ·refine au ?_
     refine Sim.callL hR (r33_Few_0_sim L0 0 _ rfl) ?_
     rintro r0 q hr
     rcases r0 with r2 | r3
     ·cases hr
      exact au (.ret ⟨_, rfl, rfl⟩)
     ·cases hr
      refine au ?_
      refine Sim.callL hR (r33_Few_2_sim L0 0 _ rfl) ?_
      rintro r7 q hr
      rcases r7 with r8 | r9
      ·cases hr
       exact au (.ret ⟨_, rfl, rfl⟩)
      ·cases hr
       exact au (.ret ⟨_, rfl, rfl⟩)
def l40_known : Option Bool := some true
theorem l40_known_sim : Sim l40_known (Gv fun r q => q = (.bool r, [])) (LM.call n_l40_known [] []) := Sim.ret ⟨_, (lim_call M XE).2 ⟨400, by kernel_rfl⟩, rfl⟩
noncomputable def conf_span_has (s0 : Csp) (n0 : Int) : Option Bool :=
 if s0.f_low ≤ n0 then
  some (decide (n0 ≤ s0.f_high))
 else
  some false
theorem conf_span_has_sim (s0 : Csp) (n0 : Int) : Sim (conf_span_has s0 n0) (Gv fun r q => q = (.bool r, [])) (LM.call n_conf_span_has [Csp.av s0, iav n0] []) := by
 unfold conf_span_has
 refine sim_evR M XE rfl rfl fun S hS hw hw8 R hR => ?_
 refine au (.ite Iff.rfl (fun hc => ?_) fun hc => ?_)
 ·exact au (.ret ⟨_, rfl, rfl⟩)
 ·exact au (.ret ⟨_, rfl, rfl⟩)
noncomputable def conf_nodes (c0 : GConf) : Option Bool :=
 (conf_span_has (Csp.mk 4 13) c0.N).bind fun r0 =>
 if r0 = true then
  (conf_span_has (Csp.mk 0 4) c0.F).bind fun r2 =>
  if r2 = true then
   some (decide ((wr (3 * c0.F)) < c0.N))
  else
   some false
 else
  some false
theorem conf_nodes_sim (c0 : GConf) : Sim (conf_nodes c0) (Gv fun r q => q = (.bool r, [])) (LM.call n_conf_nodes [GConf.av c0] []) := by
 unfold conf_nodes
 refine sim_evR M XE rfl rfl fun S hS hw hw8 R hR => ?_
 simp only [hw]
 refine au (cE hR (conf_span_has_sim _ _) fun r0 => ?_)
 refine au (.iteB (fun hc => ?_) fun hc => ?_)
 ·refine au (cE hR (conf_span_has_sim _ _) fun r2 => ?_)
  refine au (.iteB (fun hc2 => ?_) fun hc2 => ?_)
  ·exact au (.ret ⟨_, rfl, rfl⟩)
  ·exact au (.ret ⟨_, rfl, rfl⟩)
 ·exact au (.ret ⟨_, rfl, rfl⟩)
noncomputable def conf_nu_0_step (x0 : List Nsp) (x2 : Int) (x3 : Int) : Option ((Int) ⊕ ((Bool) ⊕ (Unit))) :=
 if x3 < x2 then
  (idx? x0 x3).bind fun z0 =>
  (conf_span_has z0.f_span z0.f_n).bind fun r0 =>
  if (!r0) = true then
   some (.inr (.inl false))
  else
   some (.inl (wr (x3 + 1)))
 else
  some (.inr (.inr ()))
noncomputable def conf_nu_0 (x0 : List Nsp) (x2 : Int) (x3 : Int) : Option ((Bool) ⊕ (Unit)) :=
 loopO (fun s : Int => conf_nu_0_step x0 x2 s) x3
@[reducible] def conf_nu_0_st (x0 : List Nsp) (x2 : Int) (x3 : Int) (g0 : Gr) : PF.St := ⟨[(44, .lst g0 (List.map Nsp.av x0)), (45, iav x2), (46, iav x3)], []⟩
def conf_nu_0_rel (x0 : List Nsp) (x2 : Int) (r : ((Bool) ⊕ (Unit))) (q : ES) : Prop := (fun r (q : ES) => Sum.elim (fun r => (fun r (q : ES) => q = (Ex.ret, ⟨[(2, .bool r)], []⟩)) r q) (fun r => (fun r (q : ES) => q = ((.exit 0), ⟨[(2, .undef)], []⟩)) r q) r) r q
def conf_nu_0_inv (x0 : List Nsp) (x2 : Int) (v : Int) (e : PF.St) : Prop := ∃ g0, e = conf_nu_0_st x0 x2 v g0 ∧ Mg 3 g0
theorem conf_nu_0_sim (x0 : List Nsp) (x2 : Int) (x3 : Int) (g0 : Gr) (hg0 : Mg 3 g0) (s : PF.St) (hk : keep [44, 45, 46] [] s = some (conf_nu_0_st x0 x2 x3 g0)) : Sim (conf_nu_0 x0 x2 x3) (Gv (conf_nu_0_rel x0 x2)) (LM.loop ([44, 45, 46], [], [2], B_conf_nu_0) s) := by
 refine sim_loop M XE (conf_nu_0_inv x0 x2) (conf_nu_0_rel x0 x2) ?_ _ _ _ hk ⟨g0, rfl, hg0⟩
 clear hk hg0
 rintro S hS hw hw8 R hR x3 env hp ⟨g0, he, hg0⟩
 change (⟨env, hp⟩ : PF.St) = conf_nu_0_st x0 x2 x3 g0 at he
 cases he
 show Sim (conf_nu_0_step x0 x2 x3) _ _
 unfold conf_nu_0_step
 simp only [hw]
 refine au (.ite Iff.rfl (fun hc => ?_) fun hc => ?_)
 ·refine au ?_
  refine Sim.ix (by simp) (fun z0 hz0 => ?_)
  refine au ?_
  refine Sim.go (idx_map _ hz0) ?_
  refine au (cE hR (conf_span_has_sim _ _) fun r0 => ?_)
  refine au (.iteB (fun hc2 => ?_) fun hc2 => ?_)
  ·exact au (.ret ⟨_, rfl, rfl⟩)
  ·refine au ?_
   exact Sim.ret ⟨_, _, rfl, rfl, ⟨_, rfl, hg0⟩⟩
 ·exact au (.ret ⟨_, rfl, rfl⟩)
noncomputable def conf_numbers (c0 : GConf) : Option Bool :=
 (conf_nu_0 [(Nsp.mk c0.Period (Csp.mk (wr ((wr ((wr (6 * (wr (c0.F + 1)))) * c0.D)) + 1)) 400)), (Nsp.mk c0.Rate (Csp.mk 1 64)), (Nsp.mk c0.Drift (Csp.mk 0 (wr (c0.Rate - 1)))), (Nsp.mk c0.Offset (Csp.mk 0 30000)), (Nsp.mk c0.Slot (Csp.mk 1 30000)), (Nsp.mk c0.Mod (Csp.mk 2 250)), (Nsp.mk c0.Fresh (Csp.mk 1 100))] (List.length [(Nsp.mk c0.Period (Csp.mk (wr ((wr ((wr (6 * (wr (c0.F + 1)))) * c0.D)) + 1)) 400)), (Nsp.mk c0.Rate (Csp.mk 1 64)), (Nsp.mk c0.Drift (Csp.mk 0 (wr (c0.Rate - 1)))), (Nsp.mk c0.Offset (Csp.mk 0 30000)), (Nsp.mk c0.Slot (Csp.mk 1 30000)), (Nsp.mk c0.Mod (Csp.mk 2 250)), (Nsp.mk c0.Fresh (Csp.mk 1 100))] : Int) 0).bind fun r2 =>
 Sum.elim
  (fun r3 =>
    some r3)
  (fun r4 =>
    some true)
  r2
theorem conf_nu_sim (c0 : GConf) : Sim (conf_numbers c0) (Gv fun r q => q = (.bool r, [])) (LM.call n_conf_numbers [GConf.av c0] []) := by
 unfold conf_numbers
 refine sim_evR M XE rfl rfl fun S hS hw hw8 R hR => ?_
 simp only [hw]
 refine au ?_
 refine Sim.kl hS (ys := List.map Nsp.av [(Nsp.mk c0.Period (Csp.mk (S.wr ((S.wr ((S.wr (6 * (S.wr (c0.F + 1)))) * c0.D)) + 1)) 400)), (Nsp.mk c0.Rate (Csp.mk 1 64)), (Nsp.mk c0.Drift (Csp.mk 0 (S.wr (c0.Rate - 1)))), (Nsp.mk c0.Offset (Csp.mk 0 30000)), (Nsp.mk c0.Slot (Csp.mk 1 30000)), (Nsp.mk c0.Mod (Csp.mk 2 250)), (Nsp.mk c0.Fresh (Csp.mk 1 100))]) rfl ?_
 refine au ?_
 refine Sim.ki hS (m := (List.length [(Nsp.mk c0.Period (Csp.mk (S.wr ((S.wr ((S.wr (6 * (S.wr (c0.F + 1)))) * c0.D)) + 1)) 400)), (Nsp.mk c0.Rate (Csp.mk 1 64)), (Nsp.mk c0.Drift (Csp.mk 0 (S.wr (c0.Rate - 1)))), (Nsp.mk c0.Offset (Csp.mk 0 30000)), (Nsp.mk c0.Slot (Csp.mk 1 30000)), (Nsp.mk c0.Mod (Csp.mk 2 250)), (Nsp.mk c0.Fresh (Csp.mk 1 100))] : Int)) (by simp) ?_
 refine au ?_
 refine Sim.callL hR (conf_nu_0_sim [(Nsp.mk c0.Period (Csp.mk (S.wr ((S.wr ((S.wr (6 * (S.wr (c0.F + 1)))) * c0.D)) + 1)) 400)), (Nsp.mk c0.Rate (Csp.mk 1 64)), (Nsp.mk c0.Drift (Csp.mk 0 (S.wr (c0.Rate - 1)))), (Nsp.mk c0.Offset (Csp.mk 0 30000)), (Nsp.mk c0.Slot (Csp.mk 1 30000)), (Nsp.mk c0.Mod (Csp.mk 2 250)), (Nsp.mk c0.Fresh (Csp.mk 1 100))] (List.length [(Nsp.mk c0.Period (Csp.mk (S.wr ((S.wr ((S.wr (6 * (S.wr (c0.F + 1)))) * c0.D)) + 1)) 400)), (Nsp.mk c0.Rate (Csp.mk 1 64)), (Nsp.mk c0.Drift (Csp.mk 0 (S.wr (c0.Rate - 1)))), (Nsp.mk c0.Offset (Csp.mk 0 30000)), (Nsp.mk c0.Slot (Csp.mk 1 30000)), (Nsp.mk c0.Mod (Csp.mk 2 250)), (Nsp.mk c0.Fresh (Csp.mk 1 100))] : Int) 0 .full Mg.full _ rfl) ?_
 rintro r2 q hr
 rcases r2 with r3 | r4
 ·cases hr
  exact au (.ret ⟨_, rfl, rfl⟩)
 ·cases hr
  exact au (.ret ⟨_, rfl, rfl⟩)
noncomputable def conf_table_0_step (c2 : GConf) (x0 : List Int) (x2 : Int) (slots : Csp) (x3 : Int) (owns : Ar13 Int) : Option ((Int × (Ar13 Int)) ⊕ ((Bool × (Ar13 Int)) ⊕ ((Ar13 Int)))) :=
 if x3 < x2 then
  (idx? x0 x3).bind fun z0 =>
  if z0 < 0 then
   some (.inr (.inl (false, owns)))
  else
   if c2.N ≤ z0 then
    some (.inr (.inl (false, owns)))
   else
    if 0 ≤ z0 ∧ z0 < (13 : Nat) then
     (Ar13.get? (Ar13.mk owns.a0 owns.a1 owns.a2 owns.a3 owns.a4 owns.a5 owns.a6 owns.a7 owns.a8 owns.a9 owns.a10 owns.a11 owns.a12) (Int.toNat z0)).bind fun z2 =>
     if 0 ≤ z0 ∧ z0 < (13 : Nat) then
      (Ar13.set? owns (Int.toNat z0) (wr (z2 + 1))).bind fun y0 =>
      some (.inl ((wr (x3 + 1)), y0))
     else none
    else none
 else
  some (.inr (.inr owns))
noncomputable def conf_table_0 (c2 : GConf) (x0 : List Int) (x2 : Int) (slots : Csp) (x3 : Int) (owns : Ar13 Int) : Option ((Bool × (Ar13 Int)) ⊕ ((Ar13 Int))) :=
 loopO (fun s : Int × (Ar13 Int) => conf_table_0_step c2 x0 x2 slots s.1 s.2) (x3, owns)
@[reducible] def conf_table_0_st (c2 : GConf) (x0 : List Int) (x2 : Int) (slots : Csp) (x3 : Int) (owns : Ar13 Int) : PF.St := ⟨[(1, .ept (GConf.cells c2) 0), (4, .ptr 104 0), (17, lav iav x0), (18, iav x2), (19, iav x3)], [(104, ⟨true, Ar13.cells iav owns⟩), (103, ⟨true, Csp.cells slots⟩)]⟩
def conf_table_0_rel (c2 : GConf) (x0 : List Int) (x2 : Int) (slots : Csp) (r : ((Bool × (Ar13 Int)) ⊕ ((Ar13 Int)))) (q : ES) : Prop := (fun r (q : ES) => Sum.elim (fun r => (fun r (q : ES) => q = (Ex.ret, ⟨[(1, .ept (GConf.cells c2) 0), (2, .bool r.1), (4, .ptr 104 0)], [(104, ⟨true, Ar13.cells iav r.2⟩), (103, ⟨true, Csp.cells slots⟩)]⟩)) r q) (fun r => (fun r (q : ES) => q = ((.exit 0), ⟨[(1, .ept (GConf.cells c2) 0), (2, .undef), (4, .ptr 104 0)], [(104, ⟨true, Ar13.cells iav r⟩), (103, ⟨true, Csp.cells slots⟩)]⟩)) r q) r) r q
def conf_table_0_inv (c2 : GConf) (x0 : List Int) (x2 : Int) (slots : Csp) (v : Int × (Ar13 Int)) (e : PF.St) : Prop := e = conf_table_0_st c2 x0 x2 slots v.1 v.2
theorem conf_table_0_sim (c2 : GConf) (x0 : List Int) (x2 : Int) (slots : Csp) (x3 : Int) (owns : Ar13 Int) (s : PF.St) (hk : keep [1, 4, 17, 18, 19] [103, 104] s = some (conf_table_0_st c2 x0 x2 slots x3 owns)) : Sim (conf_table_0 c2 x0 x2 slots x3 owns) (Gv (conf_table_0_rel c2 x0 x2 slots)) (LM.loop ([1, 4, 17, 18, 19], [103, 104], [1, 2, 4], B_conf_table_0) s) := by
 refine sim_loop M XE (conf_table_0_inv c2 x0 x2 slots) (conf_table_0_rel c2 x0 x2 slots) ?_ _ _ _ hk rfl
 clear hk
 rintro S hS hw hw8 R hR ⟨x3, owns⟩ env hp he
 change (⟨env, hp⟩ : PF.St) = conf_table_0_st c2 x0 x2 slots x3 owns at he
 cases he
 show Sim (conf_table_0_step c2 x0 x2 slots x3 owns) _ _
 unfold conf_table_0_step
 simp only [hw]
 refine au (.ite Iff.rfl (fun hc2 => ?_) fun hc2 => ?_)
 ·refine au ?_
  refine Sim.ix (by simp) (fun z0 hz0 => ?_)
  refine au ?_
  refine Sim.go (idx_map _ hz0) ?_
  refine au (.ite Iff.rfl (fun hc3 => ?_) fun hc3 => ?_)
  ·exact au (.ret ⟨_, rfl, rfl⟩)
  ·refine au (.ite Iff.rfl (fun hc4 => ?_) fun hc4 => ?_)
   ·exact au (.ret ⟨_, rfl, rfl⟩)
   ·refine au ?_
    first | refine Sim.ite Iff.rfl (fun hb => ?_) (fun _ => Sim.no) | refine Sim.guard (fun hb => ?_)
    refine au ?_
    refine Sim.opt (f := iav) (by have hb' : (Int.toNat z0) < 13 := (by omega); generalize (Int.toNat z0) = j at hb' ⊢; rcases j with _|_|_|_|_|_|_|_|_|_|_|_|_|j <;> first | rfl | exact absurd hb' (by omega)) (fun z2 _ => ?_)
    refine au ?_
    first | refine Sim.ite Iff.rfl (fun hb2 => ?_) (fun _ => Sim.no) | refine Sim.guard (fun hb2 => ?_)
    refine au ?_
    refine Sim.opt (f := fun y0 => [iav y0.a0, iav y0.a1, iav y0.a2, iav y0.a3, iav y0.a4, iav y0.a5, iav y0.a6, iav y0.a7, iav y0.a8, iav y0.a9, iav y0.a10, iav y0.a11, iav y0.a12]) (by have hb' : (Int.toNat z0) < 13 := (by omega); generalize (Int.toNat z0) = j at hb' ⊢; rcases j with _|_|_|_|_|_|_|_|_|_|_|_|_|j <;> first | rfl | exact absurd hb' (by omega)) (fun y0 _ => ?_)
    refine au ?_
    exact Sim.ret ⟨_, _, rfl, rfl, rfl⟩
 ·exact au (.ret ⟨_, rfl, rfl⟩)
noncomputable def conf_table_1_step (len : Nat) (x4 : Int) (owns2 : Ar13 Int) (slots2 : Csp) (x5 : Int) : Option ((Int) ⊕ ((Bool) ⊕ (Unit))) :=
 if x5 < x4 then
  if 0 ≤ x5 ∧ x5 < ((len : Nat) : Int) then
   (Ar13.get? (Ar13.mk owns2.a0 owns2.a1 owns2.a2 owns2.a3 owns2.a4 owns2.a5 owns2.a6 owns2.a7 owns2.a8 owns2.a9 owns2.a10 owns2.a11 owns2.a12) (Int.toNat x5)).bind fun z3 =>
   if z3 = 0 then
    some (.inr (.inl false))
   else
    some (.inl (wr (x5 + 1)))
  else none
 else
  some (.inr (.inr ()))
noncomputable def conf_table_1 (len : Nat) (x4 : Int) (owns2 : Ar13 Int) (slots2 : Csp) (x5 : Int) : Option ((Bool) ⊕ (Unit)) :=
 loopO (fun s : Int => conf_table_1_step len x4 owns2 slots2 s) x5
@[reducible] def conf_table_1_st (len : Nat) (x4 : Int) (owns2 : Ar13 Int) (slots2 : Csp) (x5 : Int) : PF.St := ⟨[(39, .arr 104 0 len 1 false), (40, iav x4), (41, iav x5)], [(104, ⟨true, Ar13.cells iav owns2⟩), (103, ⟨true, Csp.cells slots2⟩)]⟩
def conf_table_1_rel (len : Nat) (x4 : Int) (owns2 : Ar13 Int) (slots2 : Csp) (r : ((Bool) ⊕ (Unit))) (q : ES) : Prop := (fun r (q : ES) => Sum.elim (fun r => (fun r (q : ES) => q = (Ex.ret, ⟨[(2, .bool r)], [(104, ⟨true, Ar13.cells iav owns2⟩), (103, ⟨true, Csp.cells slots2⟩)]⟩)) r q) (fun r => (fun r (q : ES) => q = ((.exit 2), ⟨[(2, .undef)], [(104, ⟨true, Ar13.cells iav owns2⟩), (103, ⟨true, Csp.cells slots2⟩)]⟩)) r q) r) r q
def conf_table_1_inv (len : Nat) (x4 : Int) (owns2 : Ar13 Int) (slots2 : Csp) (v : Int) (e : PF.St) : Prop := e = conf_table_1_st len x4 owns2 slots2 v
theorem conf_table_1_sim (len : Nat) (x4 : Int) (owns2 : Ar13 Int) (slots2 : Csp) (x5 : Int) (s : PF.St) (hk : keep [39, 40, 41] [103, 104] s = some (conf_table_1_st len x4 owns2 slots2 x5)) : Sim (conf_table_1 len x4 owns2 slots2 x5) (Gv (conf_table_1_rel len x4 owns2 slots2)) (LM.loop ([39, 40, 41], [103, 104], [2], B_conf_table_1) s) := by
 refine sim_loop M XE (conf_table_1_inv len x4 owns2 slots2) (conf_table_1_rel len x4 owns2 slots2) ?_ _ _ _ hk rfl
 clear hk
 rintro S hS hw hw8 R hR x5 env hp he
 change (⟨env, hp⟩ : PF.St) = conf_table_1_st len x4 owns2 slots2 x5 at he
 cases he
 show Sim (conf_table_1_step len x4 owns2 slots2 x5) _ _
 unfold conf_table_1_step
 simp only [hw]
 refine au (.ite Iff.rfl (fun hc5 => ?_) fun hc5 => ?_)
 ·refine au ?_
  first | refine Sim.ite Iff.rfl (fun _ => ?_) (fun _ => Sim.no) | refine Sim.guard (fun _ => ?_)
  refine au ?_
  refine Sim.opt (f := iav) (by generalize (Int.toNat x5) = j; rcases j with _|_|_|_|_|_|_|_|_|_|_|_|_|j <;> first | rfl | exact (loadC_out (by simp only [List.length_cons, List.length_nil]; omega)).trans rfl | exact (storeC_none _ (by simp) _ _ (by simp only [List.length_cons, List.length_nil]; omega)).trans rfl) (fun z3 _ => ?_)
  refine au (.ite Iff.rfl (fun hc6 => ?_) fun hc6 => ?_)
  ·exact au (.ret ⟨_, rfl, rfl⟩)
  ·refine au ?_
   exact Sim.ret ⟨_, _, rfl, rfl, rfl⟩
 ·exact au (.ret ⟨_, rfl, rfl⟩)
noncomputable def conf_table (c0 : GConf) : Option Bool :=
 (conf_span_has (Csp.mk 1 32) (List.length c0.Table : Int)).bind fun r0 =>
 if (!r0) = true then
  some false
 else
  (conf_table_0 c0 c0.Table (List.length c0.Table : Int) (Csp.mk 1 32) 0 (Ar13.mk 0 0 0 0 0 0 0 0 0 0 0 0 0)).bind fun r2 =>
  Sum.elim
   (fun r3 =>
     some r3.1)
   (fun r4 =>
     if 0 ≤ c0.N ∧ c0.N ≤ (13 : Nat) then
      (conf_table_1 ((Int.toNat c0.N) - 0) ((((Int.toNat c0.N) - 0) : Nat) : Int) r4 (Csp.mk 1 32) 0).bind fun r5 =>
      Sum.elim
       (fun r6 =>
         some r6)
       (fun r7 =>
         some true)
       r5
     else none)
   r2
theorem conf_table_sim (c0 : GConf) : Sim (conf_table c0) (Gv fun r q => q = (.bool r, [])) (LM.call n_conf_table [GConf.av c0] []) := by
 unfold conf_table
 refine sim_evR M XE rfl rfl fun S hS hw hw8 R hR => ?_
 refine au ?_
 refine Sim.ki hS (m := (List.length c0.Table : Int)) (by simp) ?_
 refine au (cE hR (conf_span_has_sim _ _) fun r0 => ?_)
 refine au (.iteB (fun hc => ?_) fun hc => ?_)
 ·exact au (.ret ⟨_, rfl, rfl⟩)
 ·refine au ?_
  refine Sim.ki hS (m := (List.length c0.Table : Int)) (by simp) ?_
  refine au ?_
  refine Sim.callL hR (conf_table_0_sim c0 c0.Table (List.length c0.Table : Int) (Csp.mk 1 32) 0 (Ar13.mk 0 0 0 0 0 0 0 0 0 0 0 0 0) _ rfl) ?_
  rintro r2 q hr
  rcases r2 with r3 | r4
  ·cases hr
   exact au (.ret ⟨_, rfl, rfl⟩)
  ·cases hr
   refine au ?_
   first | refine Sim.ite Iff.rfl (fun _ => ?_) (fun _ => Sim.no) | refine Sim.guard (fun _ => ?_)
   refine au ?_
   refine Sim.callL hR (conf_table_1_sim ((Int.toNat c0.N) - 0) ((((Int.toNat c0.N) - 0) : Nat) : Int) r4 (Csp.mk 1 32) 0 _ rfl) ?_
   rintro r5 q hr
   rcases r5 with r6 | r7
   ·cases hr
    exact au (.ret ⟨_, rfl, rfl⟩)
   ·cases hr
    exact au (.ret ⟨_, rfl, rfl⟩)
noncomputable def conf_Plain (c0 : GConf) : Option Int :=
 (conf_nodes c0).bind fun r0 =>
 if (!r0) = true then
  some 7
 else
  (conf_span_has (Csp.mk 1 4) c0.D).bind fun r2 =>
  if (!r2) = true then
   some 10
  else
   (conf_numbers c0).bind fun r3 =>
   if (!r3) = true then
    some 8
   else
    (conf_table c0).bind fun r4 =>
    if (!r4) = true then
     some 11
    else
     some 0
theorem conf_Plain_sim (c0 : GConf) : Sim (conf_Plain c0) (Gv fun r q => q = (iav r, [])) (LM.call n_conf_Plain [GConf.av c0] []) := by
 unfold conf_Plain
 refine sim_evR M XE rfl rfl fun S hS hw hw8 R hR => ?_
 refine au (cE hR (conf_nodes_sim _) fun r0 => ?_)
 refine au (.iteB (fun hc => ?_) fun hc => ?_)
 ·exact au (.ret ⟨_, rfl, rfl⟩)
 ·refine au (cE hR (conf_span_has_sim _ _) fun r2 => ?_)
  refine au (.iteB (fun hc2 => ?_) fun hc2 => ?_)
  ·exact au (.ret ⟨_, rfl, rfl⟩)
  ·refine au (cE hR (conf_nu_sim _) fun r3 => ?_)
   refine au (.iteB (fun hc3 => ?_) fun hc3 => ?_)
   ·exact au (.ret ⟨_, rfl, rfl⟩)
   ·refine au (cE hR (conf_table_sim _) fun r4 => ?_)
    refine au (.iteB (fun hc4 => ?_) fun hc4 => ?_)
    ·exact au (.ret ⟨_, rfl, rfl⟩)
    ·exact au (.ret ⟨_, rfl, rfl⟩)
noncomputable def bound_of (c0 : GConf) : Option (Gbound_plain × Bool) :=
 (conf_Plain c0).bind fun r0 =>
 some ((Gbound_plain.mk c0), (decide (r0 = 0)))
theorem bound_of_sim (c0 : GConf) : Sim (bound_of c0) (Gv fun r q => q = (.tup [Gbound_plain.av r.1, .bool r.2], [])) (LM.call n_bound_of [GConf.av c0] []) := by
 unfold bound_of
 refine sim_evR M XE rfl rfl fun S hS hw hw8 R hR => ?_
 refine au (cE hR (conf_Plain_sim _) fun r0 => ?_)
 exact au (.ret ⟨_, rfl, rfl⟩)
noncomputable def bound_plain_begin (p0 : Gbound_plain) (slot : Int) : Option Int :=
 some (wr (p0.Conf.Offset + (wr (slot * p0.Conf.Slot))))
theorem bound_plain_begin_sim (p0 : Gbound_plain) (slot : Int) : Sim (bound_plain_begin p0 slot) (Gv fun r q => q = (iav r, [])) (LM.call n_bound_plain_begin [Gbound_plain.av p0, iav slot] []) := by
 unfold bound_plain_begin
 refine sim_evR M XE rfl rfl fun S hS hw hw8 R hR => ?_
 simp only [hw]
 exact au (.ret ⟨_, rfl, rfl⟩)
noncomputable def bound_plain_middle (p0 : Gbound_plain) (slot : Int) : Option Int :=
 (bound_plain_begin p0 slot).bind fun r0 =>
 some (wr (r0 + (wr (Int.tdiv p0.Conf.Slot 2))))
theorem bound_plain_middle_sim (p0 : Gbound_plain) (slot : Int) : Sim (bound_plain_middle p0 slot) (Gv fun r q => q = (iav r, [])) (LM.call n_bound_plain_middle [Gbound_plain.av p0, iav slot] []) := by
 unfold bound_plain_middle
 refine sim_evR M XE rfl rfl fun S hS hw hw8 R hR => ?_
 simp only [hw]
 refine au (cE hR (bound_plain_begin_sim _ _) fun r0 => ?_)
 exact au (.ret ⟨_, rfl, rfl⟩)
noncomputable def bound_plain_last (p0 : Gbound_plain) : Option Int :=
 (bound_plain_middle p0 (wr ((List.length p0.Conf.Table : Int) - 1))).bind fun r0 =>
 some r0
theorem bound_plain_last_sim (p0 : Gbound_plain) : Sim (bound_plain_last p0) (Gv fun r q => q = (iav r, [])) (LM.call n_bound_plain_last [Gbound_plain.av p0] []) := by
 unfold bound_plain_last
 refine sim_evR M XE rfl rfl fun S hS hw hw8 R hR => ?_
 simp only [hw]
 refine au ?_
 refine Sim.ki hS (m := (List.length p0.Conf.Table : Int)) (by simp) ?_
 refine au (cE hR (bound_plain_middle_sim _ _) fun r0 => ?_)
 exact au (.ret ⟨_, rfl, rfl⟩)
noncomputable def bound_plain_slowest (p0 : Gbound_plain) : Option Int :=
 some (wr (p0.Conf.Rate - p0.Conf.Drift))
theorem bound_plain_slowest_sim (p0 : Gbound_plain) : Sim (bound_plain_slowest p0) (Gv fun r q => q = (iav r, [])) (LM.call n_bound_plain_slowest [Gbound_plain.av p0] []) := by
 unfold bound_plain_slowest
 refine sim_evR M XE rfl rfl fun S hS hw hw8 R hR => ?_
 simp only [hw]
 exact au (.ret ⟨_, rfl, rfl⟩)
noncomputable def bound_plain_guard (p0 : Gbound_plain) : Option Int :=
 (bound_plain_last p0).bind fun r0 =>
 (bound_plain_slowest p0).bind fun r2 =>
 (bound_plain_slowest p0).bind fun r3 =>
 if r3 = 0 then none else
 some (wr ((wr ((wr (Int.tdiv (wr ((wr ((wr ((wr (2 * p0.Conf.Drift)) * r0)) + r2)) - 1)) r3)) + p0.Conf.Rate)) + (wr ((wr (p0.Conf.D + 1)) * p0.Conf.Drift))))
theorem bound_plain_guard_sim (p0 : Gbound_plain) : Sim (bound_plain_guard p0) (Gv fun r q => q = (iav r, [])) (LM.call n_bound_plain_guard [Gbound_plain.av p0] []) := by
 unfold bound_plain_guard
 refine sim_evR M XE rfl rfl fun S hS hw hw8 R hR => ?_
 simp only [hw]
 refine au (cE hR (bound_plain_last_sim _) fun r0 => ?_)
 refine au (cE hR (bound_plain_slowest_sim _) fun r2 => ?_)
 refine au (cE hR (bound_plain_slowest_sim _) fun r3 => ?_)
 refine au ?_
 refine Sim.ite Iff.rfl (fun _ => Sim.no) (fun hc => ?_)
 exact au (.ret ⟨_, rfl, rfl⟩)
noncomputable def bound_sound_parts (s0 : Gbound_sound) : Option Bool :=
 some (decide ((wr (2 * s0.f_wide)) < s0.f_plain.Conf.Slot))
theorem bound_sound_parts_sim (s0 : Gbound_sound) : Sim (bound_sound_parts s0) (Gv fun r q => q = (.bool r, [])) (LM.call n_bound_sound_parts [Gbound_sound.av s0] []) := by
 unfold bound_sound_parts
 refine sim_evR M XE rfl rfl fun S hS hw hw8 R hR => ?_
 simp only [hw]
 exact au (.ret ⟨_, rfl, rfl⟩)
noncomputable def bound_sound_ends (s0 : Gbound_sound) : Option Bool :=
 (bound_plain_last s0.f_plain).bind fun r0 =>
 (bound_plain_slowest s0.f_plain).bind fun r2 =>
 some (decide ((wr ((wr (r0 + (wr (s0.f_plain.Conf.D * s0.f_plain.Conf.Rate)))) + s0.f_wide)) ≤ (wr ((wr (s0.f_plain.Conf.Period - 1)) * r2))))
theorem bound_sound_ends_sim (s0 : Gbound_sound) : Sim (bound_sound_ends s0) (Gv fun r q => q = (.bool r, [])) (LM.call n_bound_sound_ends [Gbound_sound.av s0] []) := by
 unfold bound_sound_ends
 refine sim_evR M XE rfl rfl fun S hS hw hw8 R hR => ?_
 simp only [hw]
 refine au (cE hR (bound_plain_last_sim _) fun r0 => ?_)
 refine au (cE hR (bound_plain_slowest_sim _) fun r2 => ?_)
 exact au (.ret ⟨_, rfl, rfl⟩)
noncomputable def bound_plain_fastest (p0 : Gbound_plain) : Option Int :=
 some (wr (p0.Conf.Rate + p0.Conf.Drift))
theorem bound_plain_fastest_sim (p0 : Gbound_plain) : Sim (bound_plain_fastest p0) (Gv fun r q => q = (iav r, [])) (LM.call n_bound_plain_fastest [Gbound_plain.av p0] []) := by
 unfold bound_plain_fastest
 refine sim_evR M XE rfl rfl fun S hS hw hw8 R hR => ?_
 simp only [hw]
 exact au (.ret ⟨_, rfl, rfl⟩)
noncomputable def bound_sound_turns (s0 : Gbound_sound) : Option Bool :=
 (bound_plain_fastest s0.f_plain).bind fun r0 =>
 some (decide ((wr (s0.f_plain.Conf.Period * r0)) < 32768))
theorem bound_sound_turns_sim (s0 : Gbound_sound) : Sim (bound_sound_turns s0) (Gv fun r q => q = (.bool r, [])) (LM.call n_bound_sound_turns [Gbound_sound.av s0] []) := by
 unfold bound_sound_turns
 refine sim_evR M XE rfl rfl fun S hS hw hw8 R hR => ?_
 simp only [hw]
 refine au (cE hR (bound_plain_fastest_sim _) fun r0 => ?_)
 exact au (.ret ⟨_, rfl, rfl⟩)
noncomputable def bound_Right (c0 : GConf) : Option Int :=
 (bound_of c0).bind fun r0 =>
 if (!r0.2) = true then
  (conf_Plain c0).bind fun r2 =>
  some r2
 else
  (bound_plain_guard r0.1).bind fun r3 =>
  (bound_sound_parts (Gbound_sound.mk r0.1 r3)).bind fun r4 =>
  if (!r4) = true then
   some 8
  else
   (bound_sound_ends (Gbound_sound.mk r0.1 r3)).bind fun r5 =>
   if (!r5) = true then
    some 8
   else
    (bound_sound_turns (Gbound_sound.mk r0.1 r3)).bind fun r6 =>
    if (!r6) = true then
     some 8
    else
     some 0
theorem bound_Right_sim (c0 : GConf) : Sim (bound_Right c0) (Gv fun r q => q = (iav r, [])) (LM.call n_bound_Right [GConf.av c0] []) := by
 unfold bound_Right
 refine sim_evR M XE rfl rfl fun S hS hw hw8 R hR => ?_
 refine au (cE hR (bound_of_sim _) fun r0 => ?_)
 refine au (.iteB (fun hc => ?_) fun hc => ?_)
 ·refine au (cE hR (conf_Plain_sim _) fun r2 => ?_)
  exact au (.ret ⟨_, rfl, rfl⟩)
 ·refine au (cE hR (bound_plain_guard_sim _) fun r3 => ?_)
  refine au (cE hR (bound_sound_parts_sim _) fun r4 => ?_)
  refine au (.iteB (fun hc2 => ?_) fun hc2 => ?_)
  ·exact au (.ret ⟨_, rfl, rfl⟩)
  ·refine au (cE hR (bound_sound_ends_sim _) fun r5 => ?_)
   refine au (.iteB (fun hc3 => ?_) fun hc3 => ?_)
   ·exact au (.ret ⟨_, rfl, rfl⟩)
   ·refine au (cE hR (bound_sound_turns_sim _) fun r6 => ?_)
    refine au (.iteB (fun hc4 => ?_) fun hc4 => ?_)
    ·exact au (.ret ⟨_, rfl, rfl⟩)
    ·exact au (.ret ⟨_, rfl, rfl⟩)
noncomputable def num_Clamp (n0 : Int) (low : Int) (high : Int) : Option Int :=
 if n0 < low then
  some low
 else
  if high < low then
   some low
  else
   if high < n0 then
    some high
   else
    some n0
theorem num_Clamp_sim (n0 : Int) (low : Int) (high : Int) : Sim (num_Clamp n0 low high) (Gv fun r q => q = (iav r, [])) (LM.call n_num_Clamp [iav n0, iav low, iav high] []) := by
 unfold num_Clamp
 refine sim_evR M XE rfl rfl fun S hS hw hw8 R hR => ?_
 refine au (.ite Iff.rfl (fun hc => ?_) fun hc => ?_)
 ·exact au (.ret ⟨_, rfl, rfl⟩)
 ·refine au (.ite Iff.rfl (fun hc2 => ?_) fun hc2 => ?_)
  ·exact au (.ret ⟨_, rfl, rfl⟩)
  ·refine au (.ite Iff.rfl (fun hc3 => ?_) fun hc3 => ?_)
   ·exact au (.ret ⟨_, rfl, rfl⟩)
   ·exact au (.ret ⟨_, rfl, rfl⟩)
noncomputable def script_nodes (c0 : GConf) : Option Int :=
 (num_Clamp c0.N 0 13).bind fun r0 =>
 some r0
theorem script_nodes_sim (c0 : GConf) : Sim (script_nodes c0) (Gv fun r q => q = (iav r, [])) (LM.call n_script_nodes [GConf.av c0] []) := by
 unfold script_nodes
 refine sim_evR M XE rfl rfl fun S hS hw hw8 R hR => ?_
 refine au (cE hR (num_Clamp_sim _ _ _) fun r0 => ?_)
 exact au (.ret ⟨_, rfl, rfl⟩)
noncomputable def script_is (c0 : GConf) (n0 : Int) : Option Bool :=
 if 0 ≤ n0 then
  (script_nodes c0).bind fun r0 =>
  some (decide (n0 < r0))
 else
  some false
theorem script_is_sim (c0 : GConf) (n0 : Int) : Sim (script_is c0 n0) (Gv fun r q => q = (.bool r, [])) (LM.call n_script_is [GConf.av c0, iav n0] []) := by
 unfold script_is
 refine sim_evR M XE rfl rfl fun S hS hw hw8 R hR => ?_
 refine au (.ite Iff.rfl (fun hc => ?_) fun hc => ?_)
 ·refine au (cE hR (script_nodes_sim _) fun r0 => ?_)
  exact au (.ret ⟨_, rfl, rfl⟩)
 ·exact au (.ret ⟨_, rfl, rfl⟩)
noncomputable def slices_Index_int_int_0_step (s2 : List Int) (v2 : Int) (x0 : Int) (x2 : Int) : Option ((Int) ⊕ ((Int) ⊕ (Unit))) :=
 if x2 < x0 then
  (idx? s2 x2).bind fun z0 =>
  if v2 = z0 then
   some (.inr (.inl x2))
  else
   some (.inl (wr (x2 + 1)))
 else
  some (.inr (.inr ()))
noncomputable def slices_Index_int_int_0 (s2 : List Int) (v2 : Int) (x0 : Int) (x2 : Int) : Option ((Int) ⊕ (Unit)) :=
 loopO (fun s : Int => slices_Index_int_int_0_step s2 v2 x0 s) x2
@[reducible] def slices_Index_int_int_0_st (s2 : List Int) (v2 : Int) (x0 : Int) (x2 : Int) : PF.St := ⟨[(0, lav iav s2), (1, iav v2), (7, iav x0), (8, iav x2)], []⟩
def slices_Index_int_int_0_rel (s2 : List Int) (v2 : Int) (x0 : Int) (r : ((Int) ⊕ (Unit))) (q : ES) : Prop := (fun r (q : ES) => Sum.elim (fun r => (fun r (q : ES) => q = (Ex.ret, ⟨[(4, iav r)], []⟩)) r q) (fun r => (fun r (q : ES) => q = ((.exit 0), ⟨[(4, .undef)], []⟩)) r q) r) r q
def slices_Index_int_int_0_inv (s2 : List Int) (v2 : Int) (x0 : Int) (v : Int) (e : PF.St) : Prop := e = slices_Index_int_int_0_st s2 v2 x0 v
theorem slices_Index_int_int_0_sim (s2 : List Int) (v2 : Int) (x0 : Int) (x2 : Int) (s : PF.St) (hk : keep [0, 1, 7, 8] [] s = some (slices_Index_int_int_0_st s2 v2 x0 x2)) : Sim (slices_Index_int_int_0 s2 v2 x0 x2) (Gv (slices_Index_int_int_0_rel s2 v2 x0)) (LM.loop ([0, 1, 7, 8], [], [4], B_slices_Index_int_int_0) s) := by
 refine sim_loop M XE (slices_Index_int_int_0_inv s2 v2 x0) (slices_Index_int_int_0_rel s2 v2 x0) ?_ _ _ _ hk rfl
 clear hk
 rintro S hS hw hw8 R hR x2 env hp he
 change (⟨env, hp⟩ : PF.St) = slices_Index_int_int_0_st s2 v2 x0 x2 at he
 cases he
 show Sim (slices_Index_int_int_0_step s2 v2 x0 x2) _ _
 unfold slices_Index_int_int_0_step
 simp only [hw]
 refine au (.ite Iff.rfl (fun hc => ?_) fun hc => ?_)
 ·refine au ?_
  refine Sim.ix (by simp) (fun z0 hz0 => ?_)
  refine au ?_
  refine Sim.go (idx_map _ hz0) ?_
  refine au (.ite Iff.rfl (fun hc2 => ?_) fun hc2 => ?_)
  ·exact au (.ret ⟨_, rfl, rfl⟩)
  ·refine au ?_
   exact Sim.ret ⟨_, _, rfl, rfl, rfl⟩
 ·exact au (.ret ⟨_, rfl, rfl⟩)
noncomputable def slices_Index_int_int (s0 : List Int) (v0 : Int) : Option Int :=
 (slices_Index_int_int_0 s0 v0 (List.length s0 : Int) 0).bind fun r0 =>
 Sum.elim
  (fun r2 =>
    some r2)
  (fun r3 =>
    some (-1))
  r0
theorem slices_Index_int_int_sim (s0 : List Int) (v0 : Int) : Sim (slices_Index_int_int s0 v0) (Gv fun r q => q = (iav r, [])) (LM.call n_slices_Index_int_int [lav iav s0, iav v0] []) := by
 unfold slices_Index_int_int
 refine sim_evR M XE rfl rfl fun S hS hw hw8 R hR => ?_
 refine au ?_
 refine Sim.ki hS (m := (List.length s0 : Int)) (by simp) ?_
 refine au ?_
 refine Sim.callL hR (slices_Index_int_int_0_sim s0 v0 (List.length s0 : Int) 0 _ rfl) ?_
 rintro r0 q hr
 rcases r0 with r2 | r3
 ·cases hr
  exact au (.ret ⟨_, rfl, rfl⟩)
 ·cases hr
  exact au (.ret ⟨_, rfl, rfl⟩)
noncomputable def slices_Contains_int_int (s0 : List Int) (v0 : Int) : Option Bool :=
 (slices_Index_int_int s0 v0).bind fun r0 =>
 some (decide (0 ≤ r0))
theorem slices_Contains_int_int_sim (s0 : List Int) (v0 : Int) : Sim (slices_Contains_int_int s0 v0) (Gv fun r q => q = (.bool r, [])) (LM.call n_slices_Contains_int_int [lav iav s0, iav v0] []) := by
 unfold slices_Contains_int_int
 refine sim_evR M XE rfl rfl fun S hS hw hw8 R hR => ?_
 refine au (cE hR (slices_Index_int_int_sim _ _) fun r0 => ?_)
 exact au (.ret ⟨_, rfl, rfl⟩)
noncomputable def script_faulty_0_step (s2 : GScript) (x0 : List Int) (x2 : Int) (x3 : Int) : Option ((Int) ⊕ ((Bool) ⊕ (Unit))) :=
 if x3 < x2 then
  (idx? x0 x3).bind fun z0 =>
  (script_is s2.Conf z0).bind fun r0 =>
  if (!r0) = true then
   some (.inr (.inl false))
  else
   if 0 ≤ x3 ∧ x3 ≤ ((List.length s2.Faulty) : Nat) then
    (slices_Contains_int_int (List.take (Int.toNat x3) s2.Faulty) z0).bind fun r2 =>
    if r2 = true then
     some (.inr (.inl false))
    else
     some (.inl (wr (x3 + 1)))
   else none
 else
  some (.inr (.inr ()))
noncomputable def script_faulty_0 (s2 : GScript) (x0 : List Int) (x2 : Int) (x3 : Int) : Option ((Bool) ⊕ (Unit)) :=
 loopO (fun s : Int => script_faulty_0_step s2 x0 x2 s) x3
@[reducible] def script_faulty_0_st (s2 : GScript) (x0 : List Int) (x2 : Int) (x3 : Int) : PF.St := ⟨[(1, .ept (GScript.cells s2) 0), (6, lav iav x0), (7, iav x2), (8, iav x3)], []⟩
def script_faulty_0_rel (s2 : GScript) (x0 : List Int) (x2 : Int) (r : ((Bool) ⊕ (Unit))) (q : ES) : Prop := (fun r (q : ES) => Sum.elim (fun r => (fun r (q : ES) => q = (Ex.ret, ⟨[(2, .bool r)], []⟩)) r q) (fun r => (fun r (q : ES) => q = ((.exit 0), ⟨[(2, .undef)], []⟩)) r q) r) r q
def script_faulty_0_inv (s2 : GScript) (x0 : List Int) (x2 : Int) (v : Int) (e : PF.St) : Prop := e = script_faulty_0_st s2 x0 x2 v
theorem script_faulty_0_sim (s2 : GScript) (x0 : List Int) (x2 : Int) (x3 : Int) (s : PF.St) (hk : keep [1, 6, 7, 8] [] s = some (script_faulty_0_st s2 x0 x2 x3)) : Sim (script_faulty_0 s2 x0 x2 x3) (Gv (script_faulty_0_rel s2 x0 x2)) (LM.loop ([1, 6, 7, 8], [], [2], B_script_faulty_0) s) := by
 refine sim_loop M XE (script_faulty_0_inv s2 x0 x2) (script_faulty_0_rel s2 x0 x2) ?_ _ _ _ hk rfl
 clear hk
 rintro S hS hw hw8 R hR x3 env hp he
 change (⟨env, hp⟩ : PF.St) = script_faulty_0_st s2 x0 x2 x3 at he
 cases he
 show Sim (script_faulty_0_step s2 x0 x2 x3) _ _
 unfold script_faulty_0_step
 simp only [hw]
 refine au (.ite Iff.rfl (fun hc => ?_) fun hc => ?_)
 ·refine au ?_
  refine Sim.ix (by simp) (fun z0 hz0 => ?_)
  refine au ?_
  refine Sim.go (idx_map _ hz0) ?_
  refine au (cE hR (script_is_sim _ _) fun r0 => ?_)
  refine au (.iteB (fun hc2 => ?_) fun hc2 => ?_)
  ·exact au (.ret ⟨_, rfl, rfl⟩)
  ·refine au ?_
   first | (refine Sim.goB (headE_map (by intro _; rfl) _) ?_) | skip
   refine au ?_
   refine Sim.kn hS (m := (List.length s2.Faulty)) (by simp) ?_
   refine au ?_
   first | refine Sim.ite Iff.rfl (fun _ => ?_) (fun _ => Sim.no) | refine Sim.guard (fun _ => ?_)
   refine au ?_
   refine Sim.kl hS (ys := List.map iav (List.take (Int.toNat x3) s2.Faulty)) (by simp only [PF.cut, List.map_drop, List.map_take]) ?_
   refine au (cE hR (slices_Contains_int_int_sim _ _) fun r2 => ?_)
   refine au (.iteB (fun hc3 => ?_) fun hc3 => ?_)
   ·exact au (.ret ⟨_, rfl, rfl⟩)
   ·refine au ?_
    exact Sim.ret ⟨_, _, rfl, rfl, rfl⟩
 ·exact au (.ret ⟨_, rfl, rfl⟩)
noncomputable def script_faulty (s0 : GScript) : Option Bool :=
 (script_faulty_0 s0 s0.Faulty (List.length s0.Faulty : Int) 0).bind fun r3 =>
 Sum.elim
  (fun r4 =>
    some r4)
  (fun r5 =>
    some true)
  r3
theorem script_faulty_sim (s0 : GScript) : Sim (script_faulty s0) (Gv fun r q => q = (.bool r, [])) (LM.call n_script_faulty [GScript.av s0] []) := by
 unfold script_faulty
 refine sim_evR M XE rfl rfl fun S hS hw hw8 R hR => ?_
 refine au ?_
 refine Sim.ki hS (m := (List.length s0.Faulty : Int)) (by simp) ?_
 refine au ?_
 refine Sim.callL hR (script_faulty_0_sim s0 s0.Faulty (List.length s0.Faulty : Int) 0 _ rfl) ?_
 rintro r3 q hr
 rcases r3 with r4 | r5
 ·cases hr
  exact au (.ret ⟨_, rfl, rfl⟩)
 ·cases hr
  exact au (.ret ⟨_, rfl, rfl⟩)
noncomputable def script_Right_1 (i0 : List UInt8) : Option Bool :=
 some (decide ((List.length i0 : Int) ≤ 8000))
theorem script_Right_1_sim (i0 : List UInt8) : Sim (script_Right_1 i0) (Gv fun r q => q = (.bool r, [])) (LM.call n_script_Right_1 [.str i0] []) := by
 unfold script_Right_1
 refine sim_evR M XE rfl rfl fun S hS hw hw8 R hR => ?_
 exact au (.ret ⟨_, rfl, rfl⟩)
noncomputable def script_tick_1 (s0 : GSend) : Option Bool :=
 if 0 ≤ s0.Delay then
  some (decide (s0.Delay ≤ 65535))
 else
  some false
theorem script_tick_1_sim (s0 : GSend) : Sim (script_tick_1 s0) (Gv fun r q => q = (.bool r, [])) (LM.call n_script_tick_1 [GSend.av s0] []) := by
 unfold script_tick_1
 refine sim_evR M XE rfl rfl fun S hS hw hw8 R hR => ?_
 refine au (.ite Iff.rfl (fun hc => ?_) fun hc => ?_)
 ·exact au (.ret ⟨_, rfl, rfl⟩)
 ·exact au (.ret ⟨_, rfl, rfl⟩)
noncomputable def script_nu_1 (n0 : Int) : Option Bool :=
 if 0 ≤ n0 then
  some (decide (n0 ≤ 65535))
 else
  some false
theorem script_nu_1_sim (n0 : Int) : Sim (script_nu_1 n0) (Gv fun r q => q = (.bool r, [])) (LM.call n_script_nu_1 [iav n0] []) := by
 unfold script_nu_1
 refine sim_evR M XE rfl rfl fun S hS hw hw8 R hR => ?_
 refine au (.ite Iff.rfl (fun hc => ?_) fun hc => ?_)
 ·exact au (.ret ⟨_, rfl, rfl⟩)
 ·exact au (.ret ⟨_, rfl, rfl⟩)
noncomputable def se_int_0_step (x0 : List Int) (x2 : Int) (x3 : Int) : Option ((Int) ⊕ ((Bool) ⊕ (Unit))) :=
 if x3 < x2 then
  (idx? x0 x3).bind fun z0 =>
  (script_nu_1 z0).bind fun r0 =>
  if (!r0) = true then
   some (.inr (.inl false))
  else
   some (.inl (wr (x3 + 1)))
 else
  some (.inr (.inr ()))
noncomputable def se_int_0 (x0 : List Int) (x2 : Int) (x3 : Int) : Option ((Bool) ⊕ (Unit)) :=
 loopO (fun s : Int => se_int_0_step x0 x2 s) x3
@[reducible] def se_int_0_st (x0 : List Int) (x2 : Int) (x3 : Int) : PF.St := ⟨[(1, .fn n_script_nu_1 []), (7, lav iav x0), (8, iav x2), (9, iav x3)], []⟩
def se_int_0_rel (x0 : List Int) (x2 : Int) (r : ((Bool) ⊕ (Unit))) (q : ES) : Prop := (fun r (q : ES) => Sum.elim (fun r => (fun r (q : ES) => q = (Ex.ret, ⟨[(4, .bool r)], []⟩)) r q) (fun r => (fun r (q : ES) => q = ((.exit 0), ⟨[(4, .undef)], []⟩)) r q) r) r q
def se_int_0_inv (x0 : List Int) (x2 : Int) (v : Int) (e : PF.St) : Prop := e = se_int_0_st x0 x2 v
theorem se_int_0_sim (x0 : List Int) (x2 : Int) (x3 : Int) (s : PF.St) (hk : keep [1, 7, 8, 9] [] s = some (se_int_0_st x0 x2 x3)) : Sim (se_int_0 x0 x2 x3) (Gv (se_int_0_rel x0 x2)) (LM.loop ([1, 7, 8, 9], [], [4], B_se_int_0) s) := by
 refine sim_loop M XE (se_int_0_inv x0 x2) (se_int_0_rel x0 x2) ?_ _ _ _ hk rfl
 clear hk
 rintro S hS hw hw8 R hR x3 env hp he
 change (⟨env, hp⟩ : PF.St) = se_int_0_st x0 x2 x3 at he
 cases he
 show Sim (se_int_0_step x0 x2 x3) _ _
 unfold se_int_0_step
 simp only [hw]
 refine au (.ite Iff.rfl (fun hc => ?_) fun hc => ?_)
 ·refine au ?_
  refine Sim.ix (by simp) (fun z0 hz0 => ?_)
  refine au ?_
  refine Sim.go (idx_map _ hz0) ?_
  refine au (cE hR (script_nu_1_sim _) fun r0 => ?_)
  refine au (.iteB (fun hc2 => ?_) fun hc2 => ?_)
  ·exact au (.ret ⟨_, rfl, rfl⟩)
  ·refine au ?_
   exact Sim.ret ⟨_, _, rfl, rfl, rfl⟩
 ·exact au (.ret ⟨_, rfl, rfl⟩)
noncomputable def se_int (l0 : List Int) : Option Bool :=
 (se_int_0 l0 (List.length l0 : Int) 0).bind fun r2 =>
 Sum.elim
  (fun r3 =>
    some r3)
  (fun r4 =>
    some true)
  r2
theorem se_int_sim (l0 : List Int) : Sim (se_int l0) (Gv fun r q => q = (.bool r, [])) (LM.call n_se_int [lav iav l0, .fn n_script_nu_1 []] []) := by
 unfold se_int
 refine sim_evR M XE rfl rfl fun S hS hw hw8 R hR => ?_
 refine au ?_
 refine Sim.ki hS (m := (List.length l0 : Int)) (by simp) ?_
 refine au ?_
 refine Sim.callL hR (se_int_0_sim l0 (List.length l0 : Int) 0 _ rfl) ?_
 rintro r2 q hr
 rcases r2 with r3 | r4
 ·cases hr
  exact au (.ret ⟨_, rfl, rfl⟩)
 ·cases hr
  exact au (.ret ⟨_, rfl, rfl⟩)
noncomputable def script_numbers (l0 : List Int) (most : Int) : Option Bool :=
 if (List.length l0 : Int) ≤ most then
  (se_int l0).bind fun r0 =>
  some r0
 else
  some false
theorem script_nu_sim (l0 : List Int) (most : Int) : Sim (script_numbers l0 most) (Gv fun r q => q = (.bool r, [])) (LM.call n_script_numbers [lav iav l0, iav most] []) := by
 unfold script_numbers
 refine sim_evR M XE rfl rfl fun S hS hw hw8 R hR => ?_
 refine au ?_
 refine Sim.ki hS (m := (List.length l0 : Int)) (by simp) ?_
 refine au (.ite Iff.rfl (fun hc => ?_) fun hc => ?_)
 ·refine au (cE hR (se_int_sim _) fun r0 => ?_)
  exact au (.ret ⟨_, rfl, rfl⟩)
 ·exact au (.ret ⟨_, rfl, rfl⟩)
noncomputable def script_full (t0 : GTick) : Option Bool :=
 some (decide (40 < (mmL true (List.length t0.Sends : Int) [(List.length t0.Bursts : Int), (List.length t0.Strays : Int), (List.length t0.Writes : Int)])))
theorem script_full_sim (t0 : GTick) : Sim (script_full t0) (Gv fun r q => q = (.bool r, [])) (LM.call n_script_full [GTick.av t0] []) := by
 unfold script_full
 refine sim_evR M XE rfl rfl fun S hS hw hw8 R hR => ?_
 refine au ?_
 refine Sim.ki hS (m := (List.length t0.Sends : Int)) (by simp) ?_
 refine au ?_
 refine Sim.ki hS (m := (List.length t0.Bursts : Int)) (by simp) ?_
 refine au ?_
 refine Sim.ki hS (m := (List.length t0.Strays : Int)) (by simp) ?_
 refine au ?_
 refine Sim.ki hS (m := (List.length t0.Writes : Int)) (by simp) ?_
 exact au (.ret ⟨_, rfl, rfl⟩)
noncomputable def script_named_1 (s0 : GSend) (o0 : GConf) : Option (Bool × GConf) :=
 (script_is o0 s0.From).bind fun r0 =>
 if r0 = true then
  (script_is o0 s0.To).bind fun r2 =>
  some (r2, o0)
 else
  some (false, o0)
theorem script_named_1_sim (s0 : GSend) (o0 : GConf) : Sim (script_named_1 s0 o0) (Gv fun r q => q = (.bool r.1, [⟨true, GConf.cells r.2⟩])) (LM.call n_script_named_1 [GSend.av s0, .ptr 0 0] [⟨true, GConf.cells o0⟩]) := by
 unfold script_named_1
 refine sim_evR M XE rfl rfl fun S hS hw hw8 R hR => ?_
 refine au (cE hR (script_is_sim _ _) fun r0 => ?_)
 refine au (.iteB (fun hc => ?_) fun hc => ?_)
 ·refine au (cE hR (script_is_sim _ _) fun r2 => ?_)
  exact au (.ret ⟨_, rfl, rfl⟩)
 ·exact au (.ret ⟨_, rfl, rfl⟩)
noncomputable def se_api_Send_0_step (x0 : List GSend) (x2 : Int) (x3 : Int) (o2 : GConf) : Option ((Int × GConf) ⊕ ((Bool × GConf) ⊕ (GConf))) :=
 if x3 < x2 then
  (idx? x0 x3).bind fun z0 =>
  (script_named_1 z0 o2).bind fun r0 =>
  if (!r0.1) = true then
   some (.inr (.inl (false, r0.2)))
  else
   some (.inl ((wr (x3 + 1)), r0.2))
 else
  some (.inr (.inr o2))
noncomputable def se_api_Send_0 (x0 : List GSend) (x2 : Int) (x3 : Int) (o2 : GConf) : Option ((Bool × GConf) ⊕ (GConf)) :=
 loopO (fun s : Int × GConf => se_api_Send_0_step x0 x2 s.1 s.2) (x3, o2)
@[reducible] def se_api_Send_0_st (x0 : List GSend) (x2 : Int) (x3 : Int) (o2 : GConf) : PF.St := ⟨[(1, .fn n_script_named_1 [.ptr 0 0]), (7, lav GSend.av x0), (8, iav x2), (9, iav x3)], [(0, ⟨true, GConf.cells o2⟩)]⟩
def se_api_Send_0_rel (x0 : List GSend) (x2 : Int) (r : ((Bool × GConf) ⊕ (GConf))) (q : ES) : Prop := (fun r (q : ES) => Sum.elim (fun r => (fun r (q : ES) => q = (Ex.ret, ⟨[(4, .bool r.1)], [(0, ⟨true, GConf.cells r.2⟩)]⟩)) r q) (fun r => (fun r (q : ES) => q = ((.exit 0), ⟨[(4, .undef)], [(0, ⟨true, GConf.cells r⟩)]⟩)) r q) r) r q
def se_api_Send_0_inv (x0 : List GSend) (x2 : Int) (v : Int × GConf) (e : PF.St) : Prop := e = se_api_Send_0_st x0 x2 v.1 v.2
theorem se_api_Send_0_sim (x0 : List GSend) (x2 : Int) (x3 : Int) (o2 : GConf) (s : PF.St) (hk : keep [1, 7, 8, 9] [] s = some (se_api_Send_0_st x0 x2 x3 o2)) : Sim (se_api_Send_0 x0 x2 x3 o2) (Gv (se_api_Send_0_rel x0 x2)) (LM.loop ([1, 7, 8, 9], [], [4], B_se_api_Send_0) s) := by
 refine sim_loop M XE (se_api_Send_0_inv x0 x2) (se_api_Send_0_rel x0 x2) ?_ _ _ _ hk rfl
 clear hk
 rintro S hS hw hw8 R hR ⟨x3, o2⟩ env hp he
 change (⟨env, hp⟩ : PF.St) = se_api_Send_0_st x0 x2 x3 o2 at he
 cases he
 show Sim (se_api_Send_0_step x0 x2 x3 o2) _ _
 unfold se_api_Send_0_step
 simp only [hw]
 refine au (.ite Iff.rfl (fun hc => ?_) fun hc => ?_)
 ·refine au ?_
  refine Sim.ix (by simp) (fun z0 hz0 => ?_)
  refine au ?_
  refine Sim.go (idx_map _ hz0) ?_
  refine au (cE hR (script_named_1_sim _ _) fun r0 => ?_)
  refine au (.iteB (fun hc2 => ?_) fun hc2 => ?_)
  ·exact au (.ret ⟨_, rfl, rfl⟩)
  ·refine au ?_
   exact Sim.ret ⟨_, _, rfl, rfl, rfl⟩
 ·exact au (.ret ⟨_, rfl, rfl⟩)
noncomputable def se_api_Send (l0 : List GSend) (o0 : GConf) : Option (Bool × GConf) :=
 (se_api_Send_0 l0 (List.length l0 : Int) 0 o0).bind fun r2 =>
 Sum.elim
  (fun r3 =>
    some (r3.1, r3.2))
  (fun r4 =>
    some (true, r4))
  r2
theorem se_api_Send_sim (l0 : List GSend) (o0 : GConf) : Sim (se_api_Send l0 o0) (Gv fun r q => q = (.bool r.1, [⟨true, GConf.cells r.2⟩])) (LM.call n_se_api_Send [lav GSend.av l0, .fn n_script_named_1 [.ptr 0 0]] [⟨true, GConf.cells o0⟩]) := by
 unfold se_api_Send
 refine sim_evR M XE rfl rfl fun S hS hw hw8 R hR => ?_
 refine au ?_
 refine Sim.ki hS (m := (List.length l0 : Int)) (by simp) ?_
 refine au ?_
 refine Sim.callL hR (se_api_Send_0_sim l0 (List.length l0 : Int) 0 o0 _ rfl) ?_
 rintro r2 q hr
 rcases r2 with r3 | r4
 ·cases hr
  exact au (.ret ⟨_, rfl, rfl⟩)
 ·cases hr
  exact au (.ret ⟨_, rfl, rfl⟩)
noncomputable def script_named_2 (b0 : GBurst) (o0 : GConf) : Option (Bool × GConf) :=
 (script_is o0 b0.Node).bind fun r0 =>
 some (r0, o0)
theorem script_named_2_sim (b0 : GBurst) (o0 : GConf) : Sim (script_named_2 b0 o0) (Gv fun r q => q = (.bool r.1, [⟨true, GConf.cells r.2⟩])) (LM.call n_script_named_2 [GBurst.av b0, .ptr 0 0] [⟨true, GConf.cells o0⟩]) := by
 unfold script_named_2
 refine sim_evR M XE rfl rfl fun S hS hw hw8 R hR => ?_
 refine au (cE hR (script_is_sim _ _) fun r0 => ?_)
 exact au (.ret ⟨_, rfl, rfl⟩)
noncomputable def se_api_Burst_0_step (x0 : List GBurst) (x2 : Int) (x3 : Int) (o2 : GConf) : Option ((Int × GConf) ⊕ ((Bool × GConf) ⊕ (GConf))) :=
 if x3 < x2 then
  (idx? x0 x3).bind fun z0 =>
  (script_named_2 z0 o2).bind fun r0 =>
  if (!r0.1) = true then
   some (.inr (.inl (false, r0.2)))
  else
   some (.inl ((wr (x3 + 1)), r0.2))
 else
  some (.inr (.inr o2))
noncomputable def se_api_Burst_0 (x0 : List GBurst) (x2 : Int) (x3 : Int) (o2 : GConf) : Option ((Bool × GConf) ⊕ (GConf)) :=
 loopO (fun s : Int × GConf => se_api_Burst_0_step x0 x2 s.1 s.2) (x3, o2)
@[reducible] def se_api_Burst_0_st (x0 : List GBurst) (x2 : Int) (x3 : Int) (o2 : GConf) : PF.St := ⟨[(1, .fn n_script_named_2 [.ptr 0 0]), (7, lav GBurst.av x0), (8, iav x2), (9, iav x3)], [(0, ⟨true, GConf.cells o2⟩)]⟩
def se_api_Burst_0_rel (x0 : List GBurst) (x2 : Int) (r : ((Bool × GConf) ⊕ (GConf))) (q : ES) : Prop := (fun r (q : ES) => Sum.elim (fun r => (fun r (q : ES) => q = (Ex.ret, ⟨[(4, .bool r.1)], [(0, ⟨true, GConf.cells r.2⟩)]⟩)) r q) (fun r => (fun r (q : ES) => q = ((.exit 0), ⟨[(4, .undef)], [(0, ⟨true, GConf.cells r⟩)]⟩)) r q) r) r q
def se_api_Burst_0_inv (x0 : List GBurst) (x2 : Int) (v : Int × GConf) (e : PF.St) : Prop := e = se_api_Burst_0_st x0 x2 v.1 v.2
theorem se_api_Burst_0_sim (x0 : List GBurst) (x2 : Int) (x3 : Int) (o2 : GConf) (s : PF.St) (hk : keep [1, 7, 8, 9] [] s = some (se_api_Burst_0_st x0 x2 x3 o2)) : Sim (se_api_Burst_0 x0 x2 x3 o2) (Gv (se_api_Burst_0_rel x0 x2)) (LM.loop ([1, 7, 8, 9], [], [4], B_se_api_Burst_0) s) := by
 refine sim_loop M XE (se_api_Burst_0_inv x0 x2) (se_api_Burst_0_rel x0 x2) ?_ _ _ _ hk rfl
 clear hk
 rintro S hS hw hw8 R hR ⟨x3, o2⟩ env hp he
 change (⟨env, hp⟩ : PF.St) = se_api_Burst_0_st x0 x2 x3 o2 at he
 cases he
 show Sim (se_api_Burst_0_step x0 x2 x3 o2) _ _
 unfold se_api_Burst_0_step
 simp only [hw]
 refine au (.ite Iff.rfl (fun hc => ?_) fun hc => ?_)
 ·refine au ?_
  refine Sim.ix (by simp) (fun z0 hz0 => ?_)
  refine au ?_
  refine Sim.go (idx_map _ hz0) ?_
  refine au (cE hR (script_named_2_sim _ _) fun r0 => ?_)
  refine au (.iteB (fun hc2 => ?_) fun hc2 => ?_)
  ·exact au (.ret ⟨_, rfl, rfl⟩)
  ·refine au ?_
   exact Sim.ret ⟨_, _, rfl, rfl, rfl⟩
 ·exact au (.ret ⟨_, rfl, rfl⟩)
noncomputable def se_api_Burst (l0 : List GBurst) (o0 : GConf) : Option (Bool × GConf) :=
 (se_api_Burst_0 l0 (List.length l0 : Int) 0 o0).bind fun r2 =>
 Sum.elim
  (fun r3 =>
    some (r3.1, r3.2))
  (fun r4 =>
    some (true, r4))
  r2
theorem se_api_Burst_sim (l0 : List GBurst) (o0 : GConf) : Sim (se_api_Burst l0 o0) (Gv fun r q => q = (.bool r.1, [⟨true, GConf.cells r.2⟩])) (LM.call n_se_api_Burst [lav GBurst.av l0, .fn n_script_named_2 [.ptr 0 0]] [⟨true, GConf.cells o0⟩]) := by
 unfold se_api_Burst
 refine sim_evR M XE rfl rfl fun S hS hw hw8 R hR => ?_
 refine au ?_
 refine Sim.ki hS (m := (List.length l0 : Int)) (by simp) ?_
 refine au ?_
 refine Sim.callL hR (se_api_Burst_0_sim l0 (List.length l0 : Int) 0 o0 _ rfl) ?_
 rintro r2 q hr
 rcases r2 with r3 | r4
 ·cases hr
  exact au (.ret ⟨_, rfl, rfl⟩)
 ·cases hr
  exact au (.ret ⟨_, rfl, rfl⟩)
noncomputable def script_named_3 (w0 : GWrite) (o0 : GConf) : Option (Bool × GConf) :=
 (script_is o0 w0.Node).bind fun r0 =>
 some (r0, o0)
theorem script_named_3_sim (w0 : GWrite) (o0 : GConf) : Sim (script_named_3 w0 o0) (Gv fun r q => q = (.bool r.1, [⟨true, GConf.cells r.2⟩])) (LM.call n_script_named_3 [GWrite.av w0, .ptr 0 0] [⟨true, GConf.cells o0⟩]) := by
 unfold script_named_3
 refine sim_evR M XE rfl rfl fun S hS hw hw8 R hR => ?_
 refine au (cE hR (script_is_sim _ _) fun r0 => ?_)
 exact au (.ret ⟨_, rfl, rfl⟩)
noncomputable def se_api_Write_0_step (x0 : List GWrite) (x2 : Int) (x3 : Int) (o2 : GConf) : Option ((Int × GConf) ⊕ ((Bool × GConf) ⊕ (GConf))) :=
 if x3 < x2 then
  (idx? x0 x3).bind fun z0 =>
  (script_named_3 z0 o2).bind fun r0 =>
  if (!r0.1) = true then
   some (.inr (.inl (false, r0.2)))
  else
   some (.inl ((wr (x3 + 1)), r0.2))
 else
  some (.inr (.inr o2))
noncomputable def se_api_Write_0 (x0 : List GWrite) (x2 : Int) (x3 : Int) (o2 : GConf) : Option ((Bool × GConf) ⊕ (GConf)) :=
 loopO (fun s : Int × GConf => se_api_Write_0_step x0 x2 s.1 s.2) (x3, o2)
@[reducible] def se_api_Write_0_st (x0 : List GWrite) (x2 : Int) (x3 : Int) (o2 : GConf) : PF.St := ⟨[(1, .fn n_script_named_3 [.ptr 0 0]), (7, lav GWrite.av x0), (8, iav x2), (9, iav x3)], [(0, ⟨true, GConf.cells o2⟩)]⟩
def se_api_Write_0_rel (x0 : List GWrite) (x2 : Int) (r : ((Bool × GConf) ⊕ (GConf))) (q : ES) : Prop := (fun r (q : ES) => Sum.elim (fun r => (fun r (q : ES) => q = (Ex.ret, ⟨[(4, .bool r.1)], [(0, ⟨true, GConf.cells r.2⟩)]⟩)) r q) (fun r => (fun r (q : ES) => q = ((.exit 0), ⟨[(4, .undef)], [(0, ⟨true, GConf.cells r⟩)]⟩)) r q) r) r q
def se_api_Write_0_inv (x0 : List GWrite) (x2 : Int) (v : Int × GConf) (e : PF.St) : Prop := e = se_api_Write_0_st x0 x2 v.1 v.2
theorem se_api_Write_0_sim (x0 : List GWrite) (x2 : Int) (x3 : Int) (o2 : GConf) (s : PF.St) (hk : keep [1, 7, 8, 9] [] s = some (se_api_Write_0_st x0 x2 x3 o2)) : Sim (se_api_Write_0 x0 x2 x3 o2) (Gv (se_api_Write_0_rel x0 x2)) (LM.loop ([1, 7, 8, 9], [], [4], B_se_api_Write_0) s) := by
 refine sim_loop M XE (se_api_Write_0_inv x0 x2) (se_api_Write_0_rel x0 x2) ?_ _ _ _ hk rfl
 clear hk
 rintro S hS hw hw8 R hR ⟨x3, o2⟩ env hp he
 change (⟨env, hp⟩ : PF.St) = se_api_Write_0_st x0 x2 x3 o2 at he
 cases he
 show Sim (se_api_Write_0_step x0 x2 x3 o2) _ _
 unfold se_api_Write_0_step
 simp only [hw]
 refine au (.ite Iff.rfl (fun hc => ?_) fun hc => ?_)
 ·refine au ?_
  refine Sim.ix (by simp) (fun z0 hz0 => ?_)
  refine au ?_
  refine Sim.go (idx_map _ hz0) ?_
  refine au (cE hR (script_named_3_sim _ _) fun r0 => ?_)
  refine au (.iteB (fun hc2 => ?_) fun hc2 => ?_)
  ·exact au (.ret ⟨_, rfl, rfl⟩)
  ·refine au ?_
   exact Sim.ret ⟨_, _, rfl, rfl, rfl⟩
 ·exact au (.ret ⟨_, rfl, rfl⟩)
noncomputable def se_api_Write (l0 : List GWrite) (o0 : GConf) : Option (Bool × GConf) :=
 (se_api_Write_0 l0 (List.length l0 : Int) 0 o0).bind fun r2 =>
 Sum.elim
  (fun r3 =>
    some (r3.1, r3.2))
  (fun r4 =>
    some (true, r4))
  r2
theorem se_api_Write_sim (l0 : List GWrite) (o0 : GConf) : Sim (se_api_Write l0 o0) (Gv fun r q => q = (.bool r.1, [⟨true, GConf.cells r.2⟩])) (LM.call n_se_api_Write [lav GWrite.av l0, .fn n_script_named_3 [.ptr 0 0]] [⟨true, GConf.cells o0⟩]) := by
 unfold se_api_Write
 refine sim_evR M XE rfl rfl fun S hS hw hw8 R hR => ?_
 refine au ?_
 refine Sim.ki hS (m := (List.length l0 : Int)) (by simp) ?_
 refine au ?_
 refine Sim.callL hR (se_api_Write_0_sim l0 (List.length l0 : Int) 0 o0 _ rfl) ?_
 rintro r2 q hr
 rcases r2 with r3 | r4
 ·cases hr
  exact au (.ret ⟨_, rfl, rfl⟩)
 ·cases hr
  exact au (.ret ⟨_, rfl, rfl⟩)
noncomputable def script_named (c0 : GConf) (t0 : GTick) : Option Bool :=
 (se_api_Send t0.Sends c0).bind fun r0 =>
 if r0.1 = true then
  (se_api_Send t0.Strays r0.2).bind fun r2 =>
  if r2.1 = true then
   (se_api_Burst t0.Bursts r2.2).bind fun r3 =>
   if r3.1 = true then
    (se_api_Write t0.Writes r3.2).bind fun r4 =>
    some r4.1
   else
    some false
  else
   some false
 else
  some false
theorem script_named_sim (c0 : GConf) (t0 : GTick) : Sim (script_named c0 t0) (Gv fun r q => q = (.bool r, [])) (LM.call n_script_named [GConf.av c0, GTick.av t0] []) := by
 unfold script_named
 refine sim_evR M XE rfl rfl fun S hS hw hw8 R hR => ?_
 refine au (cE hR (se_api_Send_sim _ _) fun r0 => ?_)
 refine au (.iteB (fun hc => ?_) fun hc => ?_)
 ·refine au (cE hR (se_api_Send_sim _ _) fun r2 => ?_)
  refine au (.iteB (fun hc2 => ?_) fun hc2 => ?_)
  ·refine au (cE hR (se_api_Burst_sim _ _) fun r3 => ?_)
   refine au (.iteB (fun hc3 => ?_) fun hc3 => ?_)
   ·refine au (cE hR (se_api_Write_sim _ _) fun r4 => ?_)
    exact au (.ret ⟨_, rfl, rfl⟩)
   ·exact au (.ret ⟨_, rfl, rfl⟩)
  ·exact au (.ret ⟨_, rfl, rfl⟩)
 ·exact au (.ret ⟨_, rfl, rfl⟩)
noncomputable def script_short_1 (s0 : GSend) : Option Bool :=
 some (decide ((List.length s0.Bytes : Int) ≤ 40))
theorem script_short_1_sim (s0 : GSend) : Sim (script_short_1 s0) (Gv fun r q => q = (.bool r, [])) (LM.call n_script_short_1 [GSend.av s0] []) := by
 unfold script_short_1
 refine sim_evR M XE rfl rfl fun S hS hw hw8 R hR => ?_
 exact au (.ret ⟨_, rfl, rfl⟩)
noncomputable def script_short_2 (b0 : GBurst) : Option Bool :=
 some (decide ((List.length b0.Image : Int) ≤ 8000))
theorem script_short_2_sim (b0 : GBurst) : Sim (script_short_2 b0) (Gv fun r q => q = (.bool r, [])) (LM.call n_script_short_2 [GBurst.av b0] []) := by
 unfold script_short_2
 refine sim_evR M XE rfl rfl fun S hS hw hw8 R hR => ?_
 exact au (.ret ⟨_, rfl, rfl⟩)
noncomputable def se_api_Send_v1_0_step (x0 : List GSend) (x2 : Int) (x3 : Int) : Option ((Int) ⊕ ((Bool) ⊕ (Unit))) :=
 if x3 < x2 then
  (idx? x0 x3).bind fun z0 =>
  (script_short_1 z0).bind fun r0 =>
  if (!r0) = true then
   some (.inr (.inl false))
  else
   some (.inl (wr (x3 + 1)))
 else
  some (.inr (.inr ()))
noncomputable def se_api_Send_v1_0 (x0 : List GSend) (x2 : Int) (x3 : Int) : Option ((Bool) ⊕ (Unit)) :=
 loopO (fun s : Int => se_api_Send_v1_0_step x0 x2 s) x3
@[reducible] def se_api_Send_v1_0_st (x0 : List GSend) (x2 : Int) (x3 : Int) : PF.St := ⟨[(1, .fn n_script_short_1 []), (7, lav GSend.av x0), (8, iav x2), (9, iav x3)], []⟩
def se_api_Send_v1_0_rel (x0 : List GSend) (x2 : Int) (r : ((Bool) ⊕ (Unit))) (q : ES) : Prop := (fun r (q : ES) => Sum.elim (fun r => (fun r (q : ES) => q = (Ex.ret, ⟨[(4, .bool r)], []⟩)) r q) (fun r => (fun r (q : ES) => q = ((.exit 0), ⟨[(4, .undef)], []⟩)) r q) r) r q
def se_api_Send_v1_0_inv (x0 : List GSend) (x2 : Int) (v : Int) (e : PF.St) : Prop := e = se_api_Send_v1_0_st x0 x2 v
theorem se_api_Send_v1_0_sim (x0 : List GSend) (x2 : Int) (x3 : Int) (s : PF.St) (hk : keep [1, 7, 8, 9] [] s = some (se_api_Send_v1_0_st x0 x2 x3)) : Sim (se_api_Send_v1_0 x0 x2 x3) (Gv (se_api_Send_v1_0_rel x0 x2)) (LM.loop ([1, 7, 8, 9], [], [4], B_se_api_Send_0) s) := by
 refine sim_loop M XE (se_api_Send_v1_0_inv x0 x2) (se_api_Send_v1_0_rel x0 x2) ?_ _ _ _ hk rfl
 clear hk
 rintro S hS hw hw8 R hR x3 env hp he
 change (⟨env, hp⟩ : PF.St) = se_api_Send_v1_0_st x0 x2 x3 at he
 cases he
 show Sim (se_api_Send_v1_0_step x0 x2 x3) _ _
 unfold se_api_Send_v1_0_step
 simp only [hw]
 refine au (.ite Iff.rfl (fun hc => ?_) fun hc => ?_)
 ·refine au ?_
  refine Sim.ix (by simp) (fun z0 hz0 => ?_)
  refine au ?_
  refine Sim.go (idx_map _ hz0) ?_
  refine au (cE hR (script_short_1_sim _) fun r0 => ?_)
  refine au (.iteB (fun hc2 => ?_) fun hc2 => ?_)
  ·exact au (.ret ⟨_, rfl, rfl⟩)
  ·refine au ?_
   exact Sim.ret ⟨_, _, rfl, rfl, rfl⟩
 ·exact au (.ret ⟨_, rfl, rfl⟩)
noncomputable def se_api_Send_v1 (l0 : List GSend) : Option Bool :=
 (se_api_Send_v1_0 l0 (List.length l0 : Int) 0).bind fun r2 =>
 Sum.elim
  (fun r3 =>
    some r3)
  (fun r4 =>
    some true)
  r2
theorem se_api_Send_v1_sim (l0 : List GSend) : Sim (se_api_Send_v1 l0) (Gv fun r q => q = (.bool r, [])) (LM.call n_se_api_Send [lav GSend.av l0, .fn n_script_short_1 []] []) := by
 unfold se_api_Send_v1
 refine sim_evR M XE rfl rfl fun S hS hw hw8 R hR => ?_
 refine au ?_
 refine Sim.ki hS (m := (List.length l0 : Int)) (by simp) ?_
 refine au ?_
 refine Sim.callL hR (se_api_Send_v1_0_sim l0 (List.length l0 : Int) 0 _ rfl) ?_
 rintro r2 q hr
 rcases r2 with r3 | r4
 ·cases hr
  exact au (.ret ⟨_, rfl, rfl⟩)
 ·cases hr
  exact au (.ret ⟨_, rfl, rfl⟩)
noncomputable def se_api_Burst_v1_0_step (x0 : List GBurst) (x2 : Int) (x3 : Int) : Option ((Int) ⊕ ((Bool) ⊕ (Unit))) :=
 if x3 < x2 then
  (idx? x0 x3).bind fun z0 =>
  (script_short_2 z0).bind fun r0 =>
  if (!r0) = true then
   some (.inr (.inl false))
  else
   some (.inl (wr (x3 + 1)))
 else
  some (.inr (.inr ()))
noncomputable def se_api_Burst_v1_0 (x0 : List GBurst) (x2 : Int) (x3 : Int) : Option ((Bool) ⊕ (Unit)) :=
 loopO (fun s : Int => se_api_Burst_v1_0_step x0 x2 s) x3
@[reducible] def se_api_Burst_v1_0_st (x0 : List GBurst) (x2 : Int) (x3 : Int) : PF.St := ⟨[(1, .fn n_script_short_2 []), (7, lav GBurst.av x0), (8, iav x2), (9, iav x3)], []⟩
def se_api_Burst_v1_0_rel (x0 : List GBurst) (x2 : Int) (r : ((Bool) ⊕ (Unit))) (q : ES) : Prop := (fun r (q : ES) => Sum.elim (fun r => (fun r (q : ES) => q = (Ex.ret, ⟨[(4, .bool r)], []⟩)) r q) (fun r => (fun r (q : ES) => q = ((.exit 0), ⟨[(4, .undef)], []⟩)) r q) r) r q
def se_api_Burst_v1_0_inv (x0 : List GBurst) (x2 : Int) (v : Int) (e : PF.St) : Prop := e = se_api_Burst_v1_0_st x0 x2 v
theorem se_api_Burst_v1_0_sim (x0 : List GBurst) (x2 : Int) (x3 : Int) (s : PF.St) (hk : keep [1, 7, 8, 9] [] s = some (se_api_Burst_v1_0_st x0 x2 x3)) : Sim (se_api_Burst_v1_0 x0 x2 x3) (Gv (se_api_Burst_v1_0_rel x0 x2)) (LM.loop ([1, 7, 8, 9], [], [4], B_se_api_Burst_0) s) := by
 refine sim_loop M XE (se_api_Burst_v1_0_inv x0 x2) (se_api_Burst_v1_0_rel x0 x2) ?_ _ _ _ hk rfl
 clear hk
 rintro S hS hw hw8 R hR x3 env hp he
 change (⟨env, hp⟩ : PF.St) = se_api_Burst_v1_0_st x0 x2 x3 at he
 cases he
 show Sim (se_api_Burst_v1_0_step x0 x2 x3) _ _
 unfold se_api_Burst_v1_0_step
 simp only [hw]
 refine au (.ite Iff.rfl (fun hc => ?_) fun hc => ?_)
 ·refine au ?_
  refine Sim.ix (by simp) (fun z0 hz0 => ?_)
  refine au ?_
  refine Sim.go (idx_map _ hz0) ?_
  refine au (cE hR (script_short_2_sim _) fun r0 => ?_)
  refine au (.iteB (fun hc2 => ?_) fun hc2 => ?_)
  ·exact au (.ret ⟨_, rfl, rfl⟩)
  ·refine au ?_
   exact Sim.ret ⟨_, _, rfl, rfl, rfl⟩
 ·exact au (.ret ⟨_, rfl, rfl⟩)
noncomputable def se_api_Burst_v1 (l0 : List GBurst) : Option Bool :=
 (se_api_Burst_v1_0 l0 (List.length l0 : Int) 0).bind fun r2 =>
 Sum.elim
  (fun r3 =>
    some r3)
  (fun r4 =>
    some true)
  r2
theorem se_api_Burst_v1_sim (l0 : List GBurst) : Sim (se_api_Burst_v1 l0) (Gv fun r q => q = (.bool r, [])) (LM.call n_se_api_Burst [lav GBurst.av l0, .fn n_script_short_2 []] []) := by
 unfold se_api_Burst_v1
 refine sim_evR M XE rfl rfl fun S hS hw hw8 R hR => ?_
 refine au ?_
 refine Sim.ki hS (m := (List.length l0 : Int)) (by simp) ?_
 refine au ?_
 refine Sim.callL hR (se_api_Burst_v1_0_sim l0 (List.length l0 : Int) 0 _ rfl) ?_
 rintro r2 q hr
 rcases r2 with r3 | r4
 ·cases hr
  exact au (.ret ⟨_, rfl, rfl⟩)
 ·cases hr
  exact au (.ret ⟨_, rfl, rfl⟩)
noncomputable def script_short (t0 : GTick) : Option Bool :=
 (se_api_Send_v1 t0.Sends).bind fun r0 =>
 if r0 = true then
  (se_api_Send_v1 t0.Strays).bind fun r2 =>
  if r2 = true then
   (se_api_Burst_v1 t0.Bursts).bind fun r3 =>
   some r3
  else
   some false
 else
  some false
theorem script_short_sim (t0 : GTick) : Sim (script_short t0) (Gv fun r q => q = (.bool r, [])) (LM.call n_script_short [GTick.av t0] []) := by
 unfold script_short
 refine sim_evR M XE rfl rfl fun S hS hw hw8 R hR => ?_
 refine au (cE hR (se_api_Send_v1_sim _) fun r0 => ?_)
 refine au (.iteB (fun hc => ?_) fun hc => ?_)
 ·refine au (cE hR (se_api_Send_v1_sim _) fun r2 => ?_)
  refine au (.iteB (fun hc2 => ?_) fun hc2 => ?_)
  ·refine au (cE hR (se_api_Burst_v1_sim _) fun r3 => ?_)
   exact au (.ret ⟨_, rfl, rfl⟩)
  ·exact au (.ret ⟨_, rfl, rfl⟩)
 ·exact au (.ret ⟨_, rfl, rfl⟩)
noncomputable def script_tick_2 (w0 : GWrite) : Option Bool :=
 some (decide ((List.length w0.Text : Int) ≤ 16))
theorem script_tick_2_sim (w0 : GWrite) : Sim (script_tick_2 w0) (Gv fun r q => q = (.bool r, [])) (LM.call n_script_tick_2 [GWrite.av w0] []) := by
 unfold script_tick_2
 refine sim_evR M XE rfl rfl fun S hS hw hw8 R hR => ?_
 exact au (.ret ⟨_, rfl, rfl⟩)
noncomputable def se_api_Send_v2_0_step (x0 : List GSend) (x2 : Int) (x3 : Int) : Option ((Int) ⊕ ((Bool) ⊕ (Unit))) :=
 if x3 < x2 then
  (idx? x0 x3).bind fun z0 =>
  (script_tick_1 z0).bind fun r0 =>
  if (!r0) = true then
   some (.inr (.inl false))
  else
   some (.inl (wr (x3 + 1)))
 else
  some (.inr (.inr ()))
noncomputable def se_api_Send_v2_0 (x0 : List GSend) (x2 : Int) (x3 : Int) : Option ((Bool) ⊕ (Unit)) :=
 loopO (fun s : Int => se_api_Send_v2_0_step x0 x2 s) x3
@[reducible] def se_api_Send_v2_0_st (x0 : List GSend) (x2 : Int) (x3 : Int) : PF.St := ⟨[(1, .fn n_script_tick_1 []), (7, lav GSend.av x0), (8, iav x2), (9, iav x3)], []⟩
def se_api_Send_v2_0_rel (x0 : List GSend) (x2 : Int) (r : ((Bool) ⊕ (Unit))) (q : ES) : Prop := (fun r (q : ES) => Sum.elim (fun r => (fun r (q : ES) => q = (Ex.ret, ⟨[(4, .bool r)], []⟩)) r q) (fun r => (fun r (q : ES) => q = ((.exit 0), ⟨[(4, .undef)], []⟩)) r q) r) r q
def se_api_Send_v2_0_inv (x0 : List GSend) (x2 : Int) (v : Int) (e : PF.St) : Prop := e = se_api_Send_v2_0_st x0 x2 v
theorem se_api_Send_v2_0_sim (x0 : List GSend) (x2 : Int) (x3 : Int) (s : PF.St) (hk : keep [1, 7, 8, 9] [] s = some (se_api_Send_v2_0_st x0 x2 x3)) : Sim (se_api_Send_v2_0 x0 x2 x3) (Gv (se_api_Send_v2_0_rel x0 x2)) (LM.loop ([1, 7, 8, 9], [], [4], B_se_api_Send_0) s) := by
 refine sim_loop M XE (se_api_Send_v2_0_inv x0 x2) (se_api_Send_v2_0_rel x0 x2) ?_ _ _ _ hk rfl
 clear hk
 rintro S hS hw hw8 R hR x3 env hp he
 change (⟨env, hp⟩ : PF.St) = se_api_Send_v2_0_st x0 x2 x3 at he
 cases he
 show Sim (se_api_Send_v2_0_step x0 x2 x3) _ _
 unfold se_api_Send_v2_0_step
 simp only [hw]
 refine au (.ite Iff.rfl (fun hc => ?_) fun hc => ?_)
 ·refine au ?_
  refine Sim.ix (by simp) (fun z0 hz0 => ?_)
  refine au ?_
  refine Sim.go (idx_map _ hz0) ?_
  refine au (cE hR (script_tick_1_sim _) fun r0 => ?_)
  refine au (.iteB (fun hc2 => ?_) fun hc2 => ?_)
  ·exact au (.ret ⟨_, rfl, rfl⟩)
  ·refine au ?_
   exact Sim.ret ⟨_, _, rfl, rfl, rfl⟩
 ·exact au (.ret ⟨_, rfl, rfl⟩)
noncomputable def se_api_Send_v2 (l0 : List GSend) : Option Bool :=
 (se_api_Send_v2_0 l0 (List.length l0 : Int) 0).bind fun r2 =>
 Sum.elim
  (fun r3 =>
    some r3)
  (fun r4 =>
    some true)
  r2
theorem se_api_Send_v2_sim (l0 : List GSend) : Sim (se_api_Send_v2 l0) (Gv fun r q => q = (.bool r, [])) (LM.call n_se_api_Send [lav GSend.av l0, .fn n_script_tick_1 []] []) := by
 unfold se_api_Send_v2
 refine sim_evR M XE rfl rfl fun S hS hw hw8 R hR => ?_
 refine au ?_
 refine Sim.ki hS (m := (List.length l0 : Int)) (by simp) ?_
 refine au ?_
 refine Sim.callL hR (se_api_Send_v2_0_sim l0 (List.length l0 : Int) 0 _ rfl) ?_
 rintro r2 q hr
 rcases r2 with r3 | r4
 ·cases hr
  exact au (.ret ⟨_, rfl, rfl⟩)
 ·cases hr
  exact au (.ret ⟨_, rfl, rfl⟩)
noncomputable def se_api_Write_v1_0_step (x0 : List GWrite) (x2 : Int) (x3 : Int) : Option ((Int) ⊕ ((Bool) ⊕ (Unit))) :=
 if x3 < x2 then
  (idx? x0 x3).bind fun z0 =>
  (script_tick_2 z0).bind fun r0 =>
  if (!r0) = true then
   some (.inr (.inl false))
  else
   some (.inl (wr (x3 + 1)))
 else
  some (.inr (.inr ()))
noncomputable def se_api_Write_v1_0 (x0 : List GWrite) (x2 : Int) (x3 : Int) : Option ((Bool) ⊕ (Unit)) :=
 loopO (fun s : Int => se_api_Write_v1_0_step x0 x2 s) x3
@[reducible] def se_api_Write_v1_0_st (x0 : List GWrite) (x2 : Int) (x3 : Int) : PF.St := ⟨[(1, .fn n_script_tick_2 []), (7, lav GWrite.av x0), (8, iav x2), (9, iav x3)], []⟩
def se_api_Write_v1_0_rel (x0 : List GWrite) (x2 : Int) (r : ((Bool) ⊕ (Unit))) (q : ES) : Prop := (fun r (q : ES) => Sum.elim (fun r => (fun r (q : ES) => q = (Ex.ret, ⟨[(4, .bool r)], []⟩)) r q) (fun r => (fun r (q : ES) => q = ((.exit 0), ⟨[(4, .undef)], []⟩)) r q) r) r q
def se_api_Write_v1_0_inv (x0 : List GWrite) (x2 : Int) (v : Int) (e : PF.St) : Prop := e = se_api_Write_v1_0_st x0 x2 v
theorem se_api_Write_v1_0_sim (x0 : List GWrite) (x2 : Int) (x3 : Int) (s : PF.St) (hk : keep [1, 7, 8, 9] [] s = some (se_api_Write_v1_0_st x0 x2 x3)) : Sim (se_api_Write_v1_0 x0 x2 x3) (Gv (se_api_Write_v1_0_rel x0 x2)) (LM.loop ([1, 7, 8, 9], [], [4], B_se_api_Write_0) s) := by
 refine sim_loop M XE (se_api_Write_v1_0_inv x0 x2) (se_api_Write_v1_0_rel x0 x2) ?_ _ _ _ hk rfl
 clear hk
 rintro S hS hw hw8 R hR x3 env hp he
 change (⟨env, hp⟩ : PF.St) = se_api_Write_v1_0_st x0 x2 x3 at he
 cases he
 show Sim (se_api_Write_v1_0_step x0 x2 x3) _ _
 unfold se_api_Write_v1_0_step
 simp only [hw]
 refine au (.ite Iff.rfl (fun hc => ?_) fun hc => ?_)
 ·refine au ?_
  refine Sim.ix (by simp) (fun z0 hz0 => ?_)
  refine au ?_
  refine Sim.go (idx_map _ hz0) ?_
  refine au (cE hR (script_tick_2_sim _) fun r0 => ?_)
  refine au (.iteB (fun hc2 => ?_) fun hc2 => ?_)
  ·exact au (.ret ⟨_, rfl, rfl⟩)
  ·refine au ?_
   exact Sim.ret ⟨_, _, rfl, rfl, rfl⟩
 ·exact au (.ret ⟨_, rfl, rfl⟩)
noncomputable def se_api_Write_v1 (l0 : List GWrite) : Option Bool :=
 (se_api_Write_v1_0 l0 (List.length l0 : Int) 0).bind fun r2 =>
 Sum.elim
  (fun r3 =>
    some r3)
  (fun r4 =>
    some true)
  r2
theorem se_api_Write_v1_sim (l0 : List GWrite) : Sim (se_api_Write_v1 l0) (Gv fun r q => q = (.bool r, [])) (LM.call n_se_api_Write [lav GWrite.av l0, .fn n_script_tick_2 []] []) := by
 unfold se_api_Write_v1
 refine sim_evR M XE rfl rfl fun S hS hw hw8 R hR => ?_
 refine au ?_
 refine Sim.ki hS (m := (List.length l0 : Int)) (by simp) ?_
 refine au ?_
 refine Sim.callL hR (se_api_Write_v1_0_sim l0 (List.length l0 : Int) 0 _ rfl) ?_
 rintro r2 q hr
 rcases r2 with r3 | r4
 ·cases hr
  exact au (.ret ⟨_, rfl, rfl⟩)
 ·cases hr
  exact au (.ret ⟨_, rfl, rfl⟩)
noncomputable def script_tick (c0 : GConf) (t0 : GTick) : Option Int :=
 (script_numbers t0.Units c0.N).bind fun r0 =>
 if (!r0) = true then
  some 2
 else
  (script_numbers t0.Delays (wr (c0.N * c0.N))).bind fun r2 =>
  if (!r2) = true then
   some 2
  else
   (se_api_Send_v2 t0.Sends).bind fun r3 =>
   if (!r3) = true then
    some 2
   else
    (se_api_Send_v2 t0.Strays).bind fun r4 =>
    if (!r4) = true then
     some 2
    else
     (script_full t0).bind fun r5 =>
     if r5 = true then
      some 9
     else
      (script_named c0 t0).bind fun r6 =>
      if (!r6) = true then
       some 7
      else
       (script_short t0).bind fun r7 =>
       if (!r7) = true then
        some 6
       else
        (se_api_Write_v1 t0.Writes).bind fun r8 =>
        if (!r8) = true then
         some 15
        else
         some 0
theorem script_tick_sim (c0 : GConf) (t0 : GTick) : Sim (script_tick c0 t0) (Gv fun r q => q = (iav r, [])) (LM.call n_script_tick [GConf.av c0, GTick.av t0] []) := by
 unfold script_tick
 refine sim_evR M XE rfl rfl fun S hS hw hw8 R hR => ?_
 simp only [hw]
 refine au (cE hR (script_nu_sim _ _) fun r0 => ?_)
 refine au (.iteB (fun hc => ?_) fun hc => ?_)
 ·exact au (.ret ⟨_, rfl, rfl⟩)
 ·refine au (cE hR (script_nu_sim _ _) fun r2 => ?_)
  refine au (.iteB (fun hc2 => ?_) fun hc2 => ?_)
  ·exact au (.ret ⟨_, rfl, rfl⟩)
  ·refine au (cE hR (se_api_Send_v2_sim _) fun r3 => ?_)
   refine au (.iteB (fun hc3 => ?_) fun hc3 => ?_)
   ·exact au (.ret ⟨_, rfl, rfl⟩)
   ·refine au (cE hR (se_api_Send_v2_sim _) fun r4 => ?_)
    refine au (.iteB (fun hc4 => ?_) fun hc4 => ?_)
    ·exact au (.ret ⟨_, rfl, rfl⟩)
    ·refine au (cE hR (script_full_sim _) fun r5 => ?_)
     refine au (.iteB (fun hc5 => ?_) fun hc5 => ?_)
     ·exact au (.ret ⟨_, rfl, rfl⟩)
     ·refine au (cE hR (script_named_sim _ _) fun r6 => ?_)
      refine au (.iteB (fun hc6 => ?_) fun hc6 => ?_)
      ·exact au (.ret ⟨_, rfl, rfl⟩)
      ·refine au (cE hR (script_short_sim _) fun r7 => ?_)
       refine au (.iteB (fun hc7 => ?_) fun hc7 => ?_)
       ·exact au (.ret ⟨_, rfl, rfl⟩)
       ·refine au (cE hR (se_api_Write_v1_sim _) fun r8 => ?_)
        refine au (.iteB (fun hc8 => ?_) fun hc8 => ?_)
        ·exact au (.ret ⟨_, rfl, rfl⟩)
        ·exact au (.ret ⟨_, rfl, rfl⟩)
noncomputable def se_string_0_step (x0 : List (List UInt8)) (x2 : Int) (x3 : Int) : Option ((Int) ⊕ ((Bool) ⊕ (Unit))) :=
 if x3 < x2 then
  (idx? x0 x3).bind fun z0 =>
  (script_Right_1 z0).bind fun r0 =>
  if (!r0) = true then
   some (.inr (.inl false))
  else
   some (.inl (wr (x3 + 1)))
 else
  some (.inr (.inr ()))
noncomputable def se_string_0 (x0 : List (List UInt8)) (x2 : Int) (x3 : Int) : Option ((Bool) ⊕ (Unit)) :=
 loopO (fun s : Int => se_string_0_step x0 x2 s) x3
@[reducible] def se_string_0_st (x0 : List (List UInt8)) (x2 : Int) (x3 : Int) : PF.St := ⟨[(1, .fn n_script_Right_1 []), (7, lav sav x0), (8, iav x2), (9, iav x3)], []⟩
def se_string_0_rel (x0 : List (List UInt8)) (x2 : Int) (r : ((Bool) ⊕ (Unit))) (q : ES) : Prop := (fun r (q : ES) => Sum.elim (fun r => (fun r (q : ES) => q = (Ex.ret, ⟨[(4, .bool r)], []⟩)) r q) (fun r => (fun r (q : ES) => q = ((.exit 0), ⟨[(4, .undef)], []⟩)) r q) r) r q
def se_string_0_inv (x0 : List (List UInt8)) (x2 : Int) (v : Int) (e : PF.St) : Prop := e = se_string_0_st x0 x2 v
theorem se_string_0_sim (x0 : List (List UInt8)) (x2 : Int) (x3 : Int) (s : PF.St) (hk : keep [1, 7, 8, 9] [] s = some (se_string_0_st x0 x2 x3)) : Sim (se_string_0 x0 x2 x3) (Gv (se_string_0_rel x0 x2)) (LM.loop ([1, 7, 8, 9], [], [4], B_se_string_0) s) := by
 refine sim_loop M XE (se_string_0_inv x0 x2) (se_string_0_rel x0 x2) ?_ _ _ _ hk rfl
 clear hk
 rintro S hS hw hw8 R hR x3 env hp he
 change (⟨env, hp⟩ : PF.St) = se_string_0_st x0 x2 x3 at he
 cases he
 show Sim (se_string_0_step x0 x2 x3) _ _
 unfold se_string_0_step
 simp only [hw]
 refine au (.ite Iff.rfl (fun hc => ?_) fun hc => ?_)
 ·refine au ?_
  refine Sim.ix (by simp) (fun z0 hz0 => ?_)
  refine au ?_
  refine Sim.go (idx_map _ hz0) ?_
  refine au (cE hR (script_Right_1_sim _) fun r0 => ?_)
  refine au (.iteB (fun hc2 => ?_) fun hc2 => ?_)
  ·exact au (.ret ⟨_, rfl, rfl⟩)
  ·refine au ?_
   exact Sim.ret ⟨_, _, rfl, rfl, rfl⟩
 ·exact au (.ret ⟨_, rfl, rfl⟩)
noncomputable def se_string (l0 : List (List UInt8)) : Option Bool :=
 (se_string_0 l0 (List.length l0 : Int) 0).bind fun r2 =>
 Sum.elim
  (fun r3 =>
    some r3)
  (fun r4 =>
    some true)
  r2
theorem se_string_sim (l0 : List (List UInt8)) : Sim (se_string l0) (Gv fun r q => q = (.bool r, [])) (LM.call n_se_string [lav sav l0, .fn n_script_Right_1 []] []) := by
 unfold se_string
 refine sim_evR M XE rfl rfl fun S hS hw hw8 R hR => ?_
 refine au ?_
 refine Sim.ki hS (m := (List.length l0 : Int)) (by simp) ?_
 refine au ?_
 refine Sim.callL hR (se_string_0_sim l0 (List.length l0 : Int) 0 _ rfl) ?_
 rintro r2 q hr
 rcases r2 with r3 | r4
 ·cases hr
  exact au (.ret ⟨_, rfl, rfl⟩)
 ·cases hr
  exact au (.ret ⟨_, rfl, rfl⟩)
noncomputable def script_Right_0_step (s2 : GScript) (x0 : List GTick) (x2 : Int) (x3 : Int) : Option ((Int) ⊕ ((Int) ⊕ (Unit))) :=
 if x3 < x2 then
  (idx? x0 x3).bind fun z0 =>
  (script_tick s2.Conf z0).bind fun r4 =>
  if r4 ≠ 0 then
   some (.inr (.inl r4))
  else
   some (.inl (wr (x3 + 1)))
 else
  some (.inr (.inr ()))
noncomputable def script_Right_0 (s2 : GScript) (x0 : List GTick) (x2 : Int) (x3 : Int) : Option ((Int) ⊕ (Unit)) :=
 loopO (fun s : Int => script_Right_0_step s2 x0 x2 s) x3
@[reducible] def script_Right_0_st (s2 : GScript) (x0 : List GTick) (x2 : Int) (x3 : Int) : PF.St := ⟨[(1, .ept (GScript.cells s2) 0), (36, lav GTick.av x0), (37, iav x2), (38, iav x3)], []⟩
def script_Right_0_rel (s2 : GScript) (x0 : List GTick) (x2 : Int) (r : ((Int) ⊕ (Unit))) (q : ES) : Prop := (fun r (q : ES) => Sum.elim (fun r => (fun r (q : ES) => q = (Ex.ret, ⟨[(2, iav r)], []⟩)) r q) (fun r => (fun r (q : ES) => q = ((.exit 0), ⟨[(2, .undef)], []⟩)) r q) r) r q
def script_Right_0_inv (s2 : GScript) (x0 : List GTick) (x2 : Int) (v : Int) (e : PF.St) : Prop := e = script_Right_0_st s2 x0 x2 v
theorem script_Right_0_sim (s2 : GScript) (x0 : List GTick) (x2 : Int) (x3 : Int) (s : PF.St) (hk : keep [1, 36, 37, 38] [] s = some (script_Right_0_st s2 x0 x2 x3)) : Sim (script_Right_0 s2 x0 x2 x3) (Gv (script_Right_0_rel s2 x0 x2)) (LM.loop ([1, 36, 37, 38], [], [2], B_script_Right_0) s) := by
 refine sim_loop M XE (script_Right_0_inv s2 x0 x2) (script_Right_0_rel s2 x0 x2) ?_ _ _ _ hk rfl
 clear hk
 rintro S hS hw hw8 R hR x3 env hp he
 change (⟨env, hp⟩ : PF.St) = script_Right_0_st s2 x0 x2 x3 at he
 cases he
 show Sim (script_Right_0_step s2 x0 x2 x3) _ _
 unfold script_Right_0_step
 simp only [hw]
 refine au (.ite Iff.rfl (fun hc6 => ?_) fun hc6 => ?_)
 ·refine au ?_
  refine Sim.ix (by simp) (fun z0 hz0 => ?_)
  refine au ?_
  refine Sim.go (idx_map _ hz0) ?_
  refine au (cE hR (script_tick_sim _ _) fun r4 => ?_)
  refine au (.ite Iff.rfl (fun hc7 => ?_) fun hc7 => ?_)
  ·exact au (.ret ⟨_, rfl, rfl⟩)
  ·refine au ?_
   exact Sim.ret ⟨_, _, rfl, rfl, rfl⟩
 ·exact au (.ret ⟨_, rfl, rfl⟩)
noncomputable def script_Right (s0 : GScript) : Option Int :=
 (bound_Right s0.Conf).bind fun r0 =>
 if r0 ≠ 0 then
  some r0
 else
  (script_faulty s0).bind fun r2 =>
  if (!r2) = true then
   some 7
  else
   if s0.Conf.N < (List.length s0.Images : Int) then
    some 6
   else
    if 2000 < (List.length s0.Ticks : Int) then
     some 6
    else
     (se_string s0.Images).bind fun r3 =>
     if (!r3) = true then
      some 6
     else
      (script_Right_0 s0 s0.Ticks (List.length s0.Ticks : Int) 0).bind fun r5 =>
      Sum.elim
       (fun r6 =>
         some r6)
       (fun r7 =>
         some 0)
       r5
theorem script_Right_sim (s0 : GScript) : Sim (script_Right s0) (Gv fun r q => q = (iav r, [])) (LM.call n_script_Right [GScript.av s0] []) := by
 unfold script_Right
 refine sim_evR M XE rfl rfl fun S hS hw hw8 R hR => ?_
 refine au (cE hR (bound_Right_sim _) fun r0 => ?_)
 refine au (.ite Iff.rfl (fun hc => ?_) fun hc => ?_)
 ·exact au (.ret ⟨_, rfl, rfl⟩)
 ·refine au (cE hR (script_faulty_sim _) fun r2 => ?_)
  refine au (.iteB (fun hc2 => ?_) fun hc2 => ?_)
  ·exact au (.ret ⟨_, rfl, rfl⟩)
  ·refine au ?_
   refine Sim.ki hS (m := (List.length s0.Images : Int)) (by simp) ?_
   refine au (.ite Iff.rfl (fun hc3 => ?_) fun hc3 => ?_)
   ·exact au (.ret ⟨_, rfl, rfl⟩)
   ·refine au ?_
    refine Sim.ki hS (m := (List.length s0.Ticks : Int)) (by simp) ?_
    refine au (.ite Iff.rfl (fun hc4 => ?_) fun hc4 => ?_)
    ·exact au (.ret ⟨_, rfl, rfl⟩)
    ·refine au (cE hR (se_string_sim _) fun r3 => ?_)
     refine au (.iteB (fun hc5 => ?_) fun hc5 => ?_)
     ·exact au (.ret ⟨_, rfl, rfl⟩)
     ·refine au ?_
      refine Sim.ki hS (m := (List.length s0.Ticks : Int)) (by simp) ?_
      refine au ?_
      refine Sim.callL hR (script_Right_0_sim s0 s0.Ticks (List.length s0.Ticks : Int) 0 _ rfl) ?_
      rintro r5 q hr
      rcases r5 with r6 | r7
      ·cases hr
       exact au (.ret ⟨_, rfl, rfl⟩)
      ·cases hr
       exact au (.ret ⟨_, rfl, rfl⟩)
noncomputable def lw_put (all : List Int) (o0 : Wtr) : Option Wtr :=
 if List.length o0.f_out + List.length all ≤ lenMax then
  some (Wtr.mk (o0.f_out ++ all))
 else none
theorem lw_put_sim (all : List Int) (o0 : Wtr) (g0 : Gr) (hg0 : Mg 1 g0) (g2 : Gr) (hg2 : Mg 1 g2) : Sim (lw_put all o0) (Gv fun r q => ∃ g0, q = (.tup [], [⟨true, [.lst g0 (List.map u8av r.f_out)]⟩]) ∧ Mg 1 g0) (LM.call n_lw_put [.ptr 0 0, .lst g0 (List.map u8av all)] [⟨true, [.lst g2 (List.map u8av o0.f_out)]⟩]) := by
 unfold lw_put
 refine sim_evR M XE rfl rfl fun S hS hw hw8 R hR => ?_
 refine au ?_
 refine Sim.kl hS rfl ?_
 refine au ?_
 first | (refine Sim.goB (may_map (by intro _; rfl) hg2 _) ?_) | skip
 refine au ?_
 first | (refine Sim.goB (okE_map (by intro _; exact ⟨rfl, rfl, rfl⟩) _) ?_) | skip
 refine au ?_
 first | refine Sim.ite (by simp) (fun _ => ?_) (fun _ => Sim.no) | refine Sim.guard (fun _ => ?_)
 refine au ?_
 refine Sim.kl hS (ys := List.map u8av (o0.f_out ++ all)) (by simp) ?_
 refine au ?_
 exact Sim.ret ⟨_, rfl, ⟨_, rfl, Mg.own⟩⟩
noncomputable def lw_nu_0_step (x0 : List Int) (x2 : Int) (x3 : Int) (o2 : Wtr) : Option ((Int × Wtr) ⊕ Wtr) :=
 if x3 < x2 then
  (idx? x0 x3).bind fun z0 =>
  (lw_put [32] o2).bind fun r0 =>
  (strconv_Itoa z0).bind fun r2 =>
  if List.length r0.f_out + List.length (intsOf r2) ≤ lenMax then
   some (.inl ((wr (x3 + 1)), (Wtr.mk (r0.f_out ++ (intsOf r2)))))
  else none
 else
  some (.inr o2)
noncomputable def lw_nu_0 (x0 : List Int) (x2 : Int) (x3 : Int) (o2 : Wtr) : Option Wtr :=
 loopO (fun s : Int × Wtr => lw_nu_0_step x0 x2 s.1 s.2) (x3, o2)
@[reducible] def lw_nu_0_st (x0 : List Int) (x2 : Int) (x3 : Int) (o2 : Wtr) (g3 : Gr) (g4 : Gr) : PF.St := ⟨[(0, .ptr 0 0), (17, .lst g3 (List.map iav x0)), (18, iav x2), (19, iav x3)], [(0, ⟨true, [.lst g4 (List.map u8av o2.f_out)]⟩)]⟩
def lw_nu_0_rel (x0 : List Int) (x2 : Int) (r : Wtr) (q : ES) : Prop := (fun r (q : ES) => ∃ g0', q = ((.exit 0), ⟨[], [(0, ⟨true, [.lst g0' (List.map u8av r.f_out)]⟩)]⟩) ∧ Mg 1 g0') r q
def lw_nu_0_inv (x0 : List Int) (x2 : Int) (v : Int × Wtr) (e : PF.St) : Prop := ∃ g3, ∃ g4, e = lw_nu_0_st x0 x2 v.1 v.2 g3 g4 ∧ Mg 1 g4
theorem lw_nu_0_sim (x0 : List Int) (x2 : Int) (x3 : Int) (o2 : Wtr) (g3 : Gr) (g4 : Gr) (hg4 : Mg 1 g4) (s : PF.St) (hk : keep [0, 17, 18, 19] [] s = some (lw_nu_0_st x0 x2 x3 o2 g3 g4)) : Sim (lw_nu_0 x0 x2 x3 o2) (Gv (lw_nu_0_rel x0 x2)) (LM.loop ([0, 17, 18, 19], [], [], B_lw_nu_0) s) := by
 refine sim_loop M XE (lw_nu_0_inv x0 x2) (lw_nu_0_rel x0 x2) ?_ _ _ _ hk ⟨g3, g4, rfl, hg4⟩
 clear hk hg4
 rintro S hS hw hw8 R hR ⟨x3, o2⟩ env hp ⟨g3, g4, he, hg4⟩
 change (⟨env, hp⟩ : PF.St) = lw_nu_0_st x0 x2 x3 o2 g3 g4 at he
 cases he
 show Sim (lw_nu_0_step x0 x2 x3 o2) _ _
 unfold lw_nu_0_step
 simp only [hw]
 refine au (.ite Iff.rfl (fun hc => ?_) fun hc => ?_)
 ·refine au ?_
  refine Sim.ix (by simp) (fun z0 hz0 => ?_)
  refine au ?_
  refine Sim.go (idx_map _ hz0) ?_
  refine au ?_
  refine Sim.kl hS (ys := List.map u8av [32]) rfl ?_
  refine au ?_
  refine Sim.callR hR (lw_put_sim _ _ .full Mg.full g4 hg4) ?_
  rintro r0 q ⟨g5, rfl, hg5⟩
  refine au ?_
  refine Sim.kl hS rfl ?_
  refine au (cE hR (strconv_Itoa_sim _) fun r2 => ?_)
  refine au ?_
  rw [byte_map r2]
  refine au ?_
  first | (refine Sim.goB (may_map (by intro _; rfl) hg5 _) ?_) | skip
  refine au ?_
  first | (refine Sim.goB (okE_map (by intro _; exact ⟨rfl, rfl, rfl⟩) _) ?_) | skip
  refine au ?_
  first | refine Sim.ite (by simp) (fun _ => ?_) (fun _ => Sim.no) | refine Sim.guard (fun _ => ?_)
  refine au ?_
  refine Sim.kl hS (ys := List.map u8av (r0.f_out ++ (intsOf r2))) (by simp) ?_
  refine au ?_
  exact Sim.ret ⟨_, _, rfl, rfl, ⟨_, _, rfl, Mg.own⟩⟩
 ·refine au ?_
  exact Sim.ret ⟨_, rfl, ⟨_, rfl, hg4⟩⟩
noncomputable def lw_numbers (head : List UInt8) (l0 : List Int) (o0 : Wtr) : Option Wtr :=
 if List.length o0.f_out + List.length (intsOf head) ≤ lenMax then
  (lw_nu_0 l0 (List.length l0 : Int) 0 (Wtr.mk (o0.f_out ++ (intsOf head)))).bind fun r3 =>
  some r3
 else none
theorem lw_nu_sim (head : List UInt8) (l0 : List Int) (o0 : Wtr) (g0 : Gr) (g2 : Gr) (hg2 : Mg 1 g2) : Sim (lw_numbers head l0 o0) (Gv fun r q => ∃ g0, q = (.tup [], [⟨true, [.lst g0 (List.map u8av r.f_out)]⟩]) ∧ Mg 1 g0) (LM.call n_lw_numbers [.ptr 0 0, .str head, .lst g0 (List.map iav l0)] [⟨true, [.lst g2 (List.map u8av o0.f_out)]⟩]) := by
 unfold lw_numbers
 refine sim_evR M XE rfl rfl fun S hS hw hw8 R hR => ?_
 refine au ?_
 refine Sim.kl hS rfl ?_
 refine au ?_
 rw [byte_map head]
 refine au ?_
 first | (refine Sim.goB (may_map (by intro _; rfl) hg2 _) ?_) | skip
 refine au ?_
 first | (refine Sim.goB (okE_map (by intro _; exact ⟨rfl, rfl, rfl⟩) _) ?_) | skip
 refine au ?_
 first | refine Sim.ite (by simp) (fun _ => ?_) (fun _ => Sim.no) | refine Sim.guard (fun _ => ?_)
 refine au ?_
 refine Sim.kl hS (ys := List.map u8av (o0.f_out ++ (intsOf head))) (by simp) ?_
 refine au ?_
 refine Sim.ki hS (m := (List.length l0 : Int)) (by simp) ?_
 refine au ?_
 refine Sim.callL hR (lw_nu_0_sim l0 (List.length l0 : Int) 0 (Wtr.mk (o0.f_out ++ (intsOf head))) (Gr.cp g0) (.own 1) Mg.own _ rfl) ?_
 rintro r3 q ⟨g6, rfl, hg6⟩
 refine au ?_
 exact Sim.ret ⟨_, rfl, ⟨_, rfl, hg6⟩⟩
noncomputable def lw_some (head : List UInt8) (l0 : List Int) (o0 : Wtr) : Option Wtr :=
 if (List.length l0 : Int) = 0 then
  some o0
 else
  (lw_numbers head l0 o0).bind fun r0 =>
  (lw_put [10] r0).bind fun r2 =>
  some r2
theorem lw_some_sim (head : List UInt8) (l0 : List Int) (o0 : Wtr) (g0 : Gr) (hg0 : Mg 1 g0) (g2 : Gr) (hg2 : Mg 1 g2) : Sim (lw_some head l0 o0) (Gv fun r q => ∃ g0, q = (.tup [], [⟨true, [.lst g0 (List.map u8av r.f_out)]⟩]) ∧ Mg 1 g0) (LM.call n_lw_some [.ptr 0 0, .str head, .lst g0 (List.map iav l0)] [⟨true, [.lst g2 (List.map u8av o0.f_out)]⟩]) := by
 unfold lw_some
 refine sim_evR M XE rfl rfl fun S hS hw hw8 R hR => ?_
 refine au ?_
 refine Sim.ki hS (m := (List.length l0 : Int)) (by simp) ?_
 refine au (.ite Iff.rfl (fun hc => ?_) fun hc => ?_)
 ·refine au ?_
  exact Sim.ret ⟨_, rfl, ⟨_, rfl, hg2⟩⟩
 ·refine au ?_
  refine Sim.callR hR (lw_nu_sim _ _ _ (Gr.cp (Gr.cp g0)) g2 hg2) ?_
  rintro r0 q ⟨g3, rfl, hg3⟩
  refine au ?_
  refine Sim.kl hS (ys := List.map u8av [10]) rfl ?_
  refine au ?_
  refine Sim.callR hR (lw_put_sim _ _ .full Mg.full g3 hg3) ?_
  rintro r2 q ⟨g4, rfl, hg4⟩
  refine au ?_
  exact Sim.ret ⟨_, rfl, ⟨_, rfl, hg4⟩⟩
noncomputable def lw_nu_v1_0_step (x0 : List Int) (x2 : Int) (x3 : Int) (o2 : Wtr) : Option ((Int × Wtr) ⊕ Wtr) :=
 if x3 < x2 then
  (idx? x0 x3).bind fun z0 =>
  (lw_put [32] o2).bind fun r0 =>
  (strconv_Itoa z0).bind fun r2 =>
  if List.length r0.f_out + List.length (intsOf r2) ≤ lenMax then
   some (.inl ((wr (x3 + 1)), (Wtr.mk (r0.f_out ++ (intsOf r2)))))
  else none
 else
  some (.inr o2)
noncomputable def lw_nu_v1_0 (x0 : List Int) (x2 : Int) (x3 : Int) (o2 : Wtr) : Option Wtr :=
 loopO (fun s : Int × Wtr => lw_nu_v1_0_step x0 x2 s.1 s.2) (x3, o2)
@[reducible] def lw_nu_v1_0_st (x0 : List Int) (x2 : Int) (x3 : Int) (o2 : Wtr) (g2 : Gr) : PF.St := ⟨[(0, .ptr 0 0), (17, lav iav x0), (18, iav x2), (19, iav x3)], [(0, ⟨true, [.lst g2 (List.map u8av o2.f_out)]⟩)]⟩
def lw_nu_v1_0_rel (x0 : List Int) (x2 : Int) (r : Wtr) (q : ES) : Prop := (fun r (q : ES) => ∃ g0', q = ((.exit 0), ⟨[], [(0, ⟨true, [.lst g0' (List.map u8av r.f_out)]⟩)]⟩) ∧ Mg 1 g0') r q
def lw_nu_v1_0_inv (x0 : List Int) (x2 : Int) (v : Int × Wtr) (e : PF.St) : Prop := ∃ g2, e = lw_nu_v1_0_st x0 x2 v.1 v.2 g2 ∧ Mg 1 g2
theorem lw_nu_v1_0_sim (x0 : List Int) (x2 : Int) (x3 : Int) (o2 : Wtr) (g2 : Gr) (hg2 : Mg 1 g2) (s : PF.St) (hk : keep [0, 17, 18, 19] [] s = some (lw_nu_v1_0_st x0 x2 x3 o2 g2)) : Sim (lw_nu_v1_0 x0 x2 x3 o2) (Gv (lw_nu_v1_0_rel x0 x2)) (LM.loop ([0, 17, 18, 19], [], [], B_lw_nu_0) s) := by
 refine sim_loop M XE (lw_nu_v1_0_inv x0 x2) (lw_nu_v1_0_rel x0 x2) ?_ _ _ _ hk ⟨g2, rfl, hg2⟩
 clear hk hg2
 rintro S hS hw hw8 R hR ⟨x3, o2⟩ env hp ⟨g2, he, hg2⟩
 change (⟨env, hp⟩ : PF.St) = lw_nu_v1_0_st x0 x2 x3 o2 g2 at he
 cases he
 show Sim (lw_nu_v1_0_step x0 x2 x3 o2) _ _
 unfold lw_nu_v1_0_step
 simp only [hw]
 refine au (.ite Iff.rfl (fun hc => ?_) fun hc => ?_)
 ·refine au ?_
  refine Sim.ix (by simp) (fun z0 hz0 => ?_)
  refine au ?_
  refine Sim.go (idx_map _ hz0) ?_
  refine au ?_
  refine Sim.kl hS (ys := List.map u8av [32]) rfl ?_
  refine au ?_
  refine Sim.callR hR (lw_put_sim _ _ .full Mg.full g2 hg2) ?_
  rintro r0 q ⟨g3, rfl, hg3⟩
  refine au ?_
  refine Sim.kl hS rfl ?_
  refine au (cE hR (strconv_Itoa_sim _) fun r2 => ?_)
  refine au ?_
  rw [byte_map r2]
  refine au ?_
  first | (refine Sim.goB (may_map (by intro _; rfl) hg3 _) ?_) | skip
  refine au ?_
  first | (refine Sim.goB (okE_map (by intro _; exact ⟨rfl, rfl, rfl⟩) _) ?_) | skip
  refine au ?_
  first | refine Sim.ite (by simp) (fun _ => ?_) (fun _ => Sim.no) | refine Sim.guard (fun _ => ?_)
  refine au ?_
  refine Sim.kl hS (ys := List.map u8av (r0.f_out ++ (intsOf r2))) (by simp) ?_
  refine au ?_
  exact Sim.ret ⟨_, _, rfl, rfl, ⟨_, rfl, Mg.own⟩⟩
 ·refine au ?_
  exact Sim.ret ⟨_, rfl, ⟨_, rfl, hg2⟩⟩
noncomputable def lw_nu_v1 (head : List UInt8) (l0 : List Int) (o0 : Wtr) : Option Wtr :=
 if List.length o0.f_out + List.length (intsOf head) ≤ lenMax then
  (lw_nu_v1_0 l0 (List.length l0 : Int) 0 (Wtr.mk (o0.f_out ++ (intsOf head)))).bind fun r3 =>
  some r3
 else none
theorem lw_nu_v1_sim (head : List UInt8) (l0 : List Int) (o0 : Wtr) (g0 : Gr) (hg0 : Mg 1 g0) : Sim (lw_nu_v1 head l0 o0) (Gv fun r q => ∃ g0, q = (.tup [], [⟨true, [.lst g0 (List.map u8av r.f_out)]⟩]) ∧ Mg 1 g0) (LM.call n_lw_numbers [.ptr 0 0, .str head, lav iav l0] [⟨true, [.lst g0 (List.map u8av o0.f_out)]⟩]) := by
 unfold lw_nu_v1
 refine sim_evR M XE rfl rfl fun S hS hw hw8 R hR => ?_
 refine au ?_
 refine Sim.kl hS rfl ?_
 refine au ?_
 rw [byte_map head]
 refine au ?_
 first | (refine Sim.goB (may_map (by intro _; rfl) hg0 _) ?_) | skip
 refine au ?_
 first | (refine Sim.goB (okE_map (by intro _; exact ⟨rfl, rfl, rfl⟩) _) ?_) | skip
 refine au ?_
 first | refine Sim.ite (by simp) (fun _ => ?_) (fun _ => Sim.no) | refine Sim.guard (fun _ => ?_)
 refine au ?_
 refine Sim.kl hS (ys := List.map u8av (o0.f_out ++ (intsOf head))) (by simp) ?_
 refine au ?_
 refine Sim.ki hS (m := (List.length l0 : Int)) (by simp) ?_
 refine au ?_
 refine Sim.callL hR (lw_nu_v1_0_sim l0 (List.length l0 : Int) 0 (Wtr.mk (o0.f_out ++ (intsOf head))) (.own 1) Mg.own _ rfl) ?_
 rintro r3 q ⟨g4, rfl, hg4⟩
 refine au ?_
 exact Sim.ret ⟨_, rfl, ⟨_, rfl, hg4⟩⟩
noncomputable def lw_some_v1 (head : List UInt8) (l0 : List Int) (o0 : Wtr) : Option Wtr :=
 if (List.length l0 : Int) = 0 then
  some o0
 else
  (lw_nu_v1 head l0 o0).bind fun r0 =>
  (lw_put [10] r0).bind fun r2 =>
  some r2
theorem lw_some_v1_sim (head : List UInt8) (l0 : List Int) (o0 : Wtr) (g0 : Gr) (hg0 : Mg 1 g0) : Sim (lw_some_v1 head l0 o0) (Gv fun r q => ∃ g0, q = (.tup [], [⟨true, [.lst g0 (List.map u8av r.f_out)]⟩]) ∧ Mg 1 g0) (LM.call n_lw_some [.ptr 0 0, .str head, lav iav l0] [⟨true, [.lst g0 (List.map u8av o0.f_out)]⟩]) := by
 unfold lw_some_v1
 refine sim_evR M XE rfl rfl fun S hS hw hw8 R hR => ?_
 refine au ?_
 refine Sim.ki hS (m := (List.length l0 : Int)) (by simp) ?_
 refine au (.ite Iff.rfl (fun hc => ?_) fun hc => ?_)
 ·refine au ?_
  exact Sim.ret ⟨_, rfl, ⟨_, rfl, hg0⟩⟩
 ·refine au ?_
  refine Sim.callR hR (lw_nu_v1_sim _ _ _ g0 hg0) ?_
  rintro r0 q ⟨g2, rfl, hg2⟩
  refine au ?_
  refine Sim.kl hS (ys := List.map u8av [10]) rfl ?_
  refine au ?_
  refine Sim.callR hR (lw_put_sim _ _ .full Mg.full g2 hg2) ?_
  rintro r2 q ⟨g3, rfl, hg3⟩
  refine au ?_
  exact Sim.ret ⟨_, rfl, ⟨_, rfl, hg3⟩⟩
noncomputable def lw_word_0_step (s2 : List UInt8) (x0 : Int) (x2 : Int) (o2 : Wtr) : Option ((Int × Wtr) ⊕ Wtr) :=
 if x2 < x0 then
  (idx? s2 x2).bind fun b0 =>
  (idx? ([48, 49, 50, 51, 52, 53, 54, 55, 56, 57, 97, 98, 99, 100, 101, 102] : List UInt8) (shrI .u8 (UInt8.toNat b0 : Int) 4)).bind fun b2 =>
  (idx? s2 x2).bind fun b3 =>
  (idx? ([48, 49, 50, 51, 52, 53, 54, 55, 56, 57, 97, 98, 99, 100, 101, 102] : List UInt8) (andI .u8 (UInt8.toNat b3 : Int) 15)).bind fun b4 =>
  (lw_put [(UInt8.toNat b2 : Int), (UInt8.toNat b4 : Int)] o2).bind fun r2 =>
  some (.inl ((wr (x2 + 1)), r2))
 else
  some (.inr o2)
noncomputable def lw_word_0 (s2 : List UInt8) (x0 : Int) (x2 : Int) (o2 : Wtr) : Option Wtr :=
 loopO (fun s : Int × Wtr => lw_word_0_step s2 x0 s.1 s.2) (x2, o2)
@[reducible] def lw_word_0_st (s2 : List UInt8) (x0 : Int) (x2 : Int) (o2 : Wtr) (g3 : Gr) : PF.St := ⟨[(0, .ptr 0 0), (1, .str s2), (11, iav x0), (12, iav x2)], [(0, ⟨true, [.lst g3 (List.map u8av o2.f_out)]⟩)]⟩
def lw_word_0_rel (s2 : List UInt8) (x0 : Int) (r : Wtr) (q : ES) : Prop := (fun r (q : ES) => ∃ g0', q = ((.exit 0), ⟨[], [(0, ⟨true, [.lst g0' (List.map u8av r.f_out)]⟩)]⟩) ∧ Mg 1 g0') r q
def lw_word_0_inv (s2 : List UInt8) (x0 : Int) (v : Int × Wtr) (e : PF.St) : Prop := ∃ g3, e = lw_word_0_st s2 x0 v.1 v.2 g3 ∧ Mg 1 g3
theorem lw_word_0_sim (s2 : List UInt8) (x0 : Int) (x2 : Int) (o2 : Wtr) (g3 : Gr) (hg3 : Mg 1 g3) (s : PF.St) (hk : keep [0, 1, 11, 12] [] s = some (lw_word_0_st s2 x0 x2 o2 g3)) : Sim (lw_word_0 s2 x0 x2 o2) (Gv (lw_word_0_rel s2 x0)) (LM.loop ([0, 1, 11, 12], [], [], B_lw_word_0) s) := by
 refine sim_loop M XE (lw_word_0_inv s2 x0) (lw_word_0_rel s2 x0) ?_ _ _ _ hk ⟨g3, rfl, hg3⟩
 clear hk hg3
 rintro S hS hw hw8 R hR ⟨x2, o2⟩ env hp ⟨g3, he, hg3⟩
 change (⟨env, hp⟩ : PF.St) = lw_word_0_st s2 x0 x2 o2 g3 at he
 cases he
 show Sim (lw_word_0_step s2 x0 x2 o2) _ _
 unfold lw_word_0_step
 simp only [hw]
 refine au (.ite Iff.rfl (fun hc2 => ?_) fun hc2 => ?_)
 ·refine au ?_
  refine Sim.ix rfl (fun b0 hb0 => ?_)
  refine au ?_
  refine Sim.go hb0 ?_
  refine au ?_
  refine Sim.ix rfl (fun b2 hb2 => ?_)
  refine au ?_
  refine Sim.go hb2 ?_
  refine au ?_
  refine Sim.ix rfl (fun b3 hb3 => ?_)
  refine au ?_
  refine Sim.go hb3 ?_
  refine au ?_
  refine Sim.ix rfl (fun b4 hb4 => ?_)
  refine au ?_
  refine Sim.go hb4 ?_
  refine au ?_
  refine Sim.kl hS (ys := List.map u8av [(UInt8.toNat b2 : Int), (UInt8.toNat b4 : Int)]) rfl ?_
  refine au ?_
  refine Sim.callR hR (lw_put_sim _ _ .full Mg.full g3 hg3) ?_
  rintro r2 q ⟨g4, rfl, hg4⟩
  refine au ?_
  exact Sim.ret ⟨_, _, rfl, rfl, ⟨_, rfl, hg4⟩⟩
 ·refine au ?_
  exact Sim.ret ⟨_, rfl, ⟨_, rfl, hg3⟩⟩
noncomputable def lw_word_0a_step (s3 : List UInt8) (x3 : Int) (x4 : Int) (o3 : Wtr) : Option ((Int × Wtr) ⊕ Wtr) :=
 if x4 < x3 then
  (idx? s3 x4).bind fun b5 =>
  (idx? ([48, 49, 50, 51, 52, 53, 54, 55, 56, 57, 97, 98, 99, 100, 101, 102] : List UInt8) (shrI .u8 (UInt8.toNat b5 : Int) 4)).bind fun b6 =>
  (idx? s3 x4).bind fun b7 =>
  (idx? ([48, 49, 50, 51, 52, 53, 54, 55, 56, 57, 97, 98, 99, 100, 101, 102] : List UInt8) (andI .u8 (UInt8.toNat b7 : Int) 15)).bind fun b8 =>
  (lw_put [(UInt8.toNat b6 : Int), (UInt8.toNat b8 : Int)] o3).bind fun r4 =>
  some (.inl ((wr (x4 + 1)), r4))
 else
  some (.inr o3)
noncomputable def lw_word_0a (s3 : List UInt8) (x3 : Int) (x4 : Int) (o3 : Wtr) : Option Wtr :=
 loopO (fun s : Int × Wtr => lw_word_0a_step s3 x3 s.1 s.2) (x4, o3)
@[reducible] def lw_word_0a_st (s3 : List UInt8) (x3 : Int) (x4 : Int) (o3 : Wtr) (g6 : Gr) : PF.St := ⟨[(0, .ptr 0 0), (1, .str s3), (11, iav x3), (12, iav x4)], [(0, ⟨true, [.lst g6 (List.map u8av o3.f_out)]⟩)]⟩
def lw_word_0a_rel (s3 : List UInt8) (x3 : Int) (r : Wtr) (q : ES) : Prop := (fun r (q : ES) => ∃ g0', q = ((.exit 0), ⟨[], [(0, ⟨true, [.lst g0' (List.map u8av r.f_out)]⟩)]⟩) ∧ Mg 1 g0') r q
def lw_word_0a_inv (s3 : List UInt8) (x3 : Int) (v : Int × Wtr) (e : PF.St) : Prop := ∃ g6, e = lw_word_0a_st s3 x3 v.1 v.2 g6 ∧ Mg 1 g6
theorem lw_word_0a_sim (s3 : List UInt8) (x3 : Int) (x4 : Int) (o3 : Wtr) (g6 : Gr) (hg6 : Mg 1 g6) (s : PF.St) (hk : keep [0, 1, 11, 12] [] s = some (lw_word_0a_st s3 x3 x4 o3 g6)) : Sim (lw_word_0a s3 x3 x4 o3) (Gv (lw_word_0a_rel s3 x3)) (LM.loop ([0, 1, 11, 12], [], [], B_lw_word_0) s) := by
 refine sim_loop M XE (lw_word_0a_inv s3 x3) (lw_word_0a_rel s3 x3) ?_ _ _ _ hk ⟨g6, rfl, hg6⟩
 clear hk hg6
 rintro S hS hw hw8 R hR ⟨x4, o3⟩ env hp ⟨g6, he, hg6⟩
 change (⟨env, hp⟩ : PF.St) = lw_word_0a_st s3 x3 x4 o3 g6 at he
 cases he
 show Sim (lw_word_0a_step s3 x3 x4 o3) _ _
 unfold lw_word_0a_step
 simp only [hw]
 refine au (.ite Iff.rfl (fun hc3 => ?_) fun hc3 => ?_)
 ·refine au ?_
  refine Sim.ix rfl (fun b5 hb5 => ?_)
  refine au ?_
  refine Sim.go hb5 ?_
  refine au ?_
  refine Sim.ix rfl (fun b6 hb6 => ?_)
  refine au ?_
  refine Sim.go hb6 ?_
  refine au ?_
  refine Sim.ix rfl (fun b7 hb7 => ?_)
  refine au ?_
  refine Sim.go hb7 ?_
  refine au ?_
  refine Sim.ix rfl (fun b8 hb8 => ?_)
  refine au ?_
  refine Sim.go hb8 ?_
  refine au ?_
  refine Sim.kl hS (ys := List.map u8av [(UInt8.toNat b6 : Int), (UInt8.toNat b8 : Int)]) rfl ?_
  refine au ?_
  refine Sim.callR hR (lw_put_sim _ _ .full Mg.full g6 hg6) ?_
  rintro r4 q ⟨g7, rfl, hg7⟩
  refine au ?_
  exact Sim.ret ⟨_, _, rfl, rfl, ⟨_, rfl, hg7⟩⟩
 ·refine au ?_
  exact Sim.ret ⟨_, rfl, ⟨_, rfl, hg6⟩⟩
noncomputable def lw_word (s0 : List UInt8) (o0 : Wtr) : Option Wtr :=
 if s0 = ([] : List UInt8) then
  (lw_put [45] o0).bind fun r0 =>
  (lw_word_0 s0 (List.length s0 : Int) 0 r0).bind fun r3 =>
  some r3
 else
  (lw_word_0a s0 (List.length s0 : Int) 0 o0).bind fun r5 =>
  some r5
theorem lw_word_sim (s0 : List UInt8) (o0 : Wtr) (g0 : Gr) (hg0 : Mg 1 g0) : Sim (lw_word s0 o0) (Gv fun r q => ∃ g0, q = (.tup [], [⟨true, [.lst g0 (List.map u8av r.f_out)]⟩]) ∧ Mg 1 g0) (LM.call n_lw_word [.ptr 0 0, .str s0] [⟨true, [.lst g0 (List.map u8av o0.f_out)]⟩]) := by
 unfold lw_word
 refine sim_evR M XE rfl rfl fun S hS hw hw8 R hR => ?_
 refine au (.ite Iff.rfl (fun hc => ?_) fun hc => ?_)
 ·refine au ?_
  refine Sim.kl hS (ys := List.map u8av [45]) rfl ?_
  refine au ?_
  refine Sim.callR hR (lw_put_sim _ _ .full Mg.full g0 hg0) ?_
  rintro r0 q ⟨g2, rfl, hg2⟩
  refine au ?_
  refine Sim.callL hR (lw_word_0_sim s0 (List.length s0 : Int) 0 r0 g2 hg2 _ rfl) ?_
  rintro r3 q ⟨g5, rfl, hg5⟩
  refine au ?_
  exact Sim.ret ⟨_, rfl, ⟨_, rfl, hg5⟩⟩
 ·refine au ?_
  refine Sim.callL hR (lw_word_0a_sim s0 (List.length s0 : Int) 0 o0 g0 hg0 _ rfl) ?_
  rintro r5 q ⟨g8, rfl, hg8⟩
  refine au ?_
  exact Sim.ret ⟨_, rfl, ⟨_, rfl, hg8⟩⟩
noncomputable def lw_event (head : List UInt8) (bytes : List UInt8) (l0 : List Int) (o0 : Wtr) : Option Wtr :=
 (lw_numbers head l0 o0).bind fun r0 =>
 (lw_put [32] r0).bind fun r2 =>
 (lw_word bytes r2).bind fun r3 =>
 (lw_put [10] r3).bind fun r4 =>
 some r4
theorem lw_event_sim (head : List UInt8) (bytes : List UInt8) (l0 : List Int) (o0 : Wtr) (g0 : Gr) (hg0 : Mg 1 g0) (g2 : Gr) (hg2 : Mg 1 g2) : Sim (lw_event head bytes l0 o0) (Gv fun r q => ∃ g0, q = (.tup [], [⟨true, [.lst g0 (List.map u8av r.f_out)]⟩]) ∧ Mg 1 g0) (LM.call n_lw_event [.ptr 0 0, .str head, .str bytes, .lst g0 (List.map iav l0)] [⟨true, [.lst g2 (List.map u8av o0.f_out)]⟩]) := by
 unfold lw_event
 refine sim_evR M XE rfl rfl fun S hS hw hw8 R hR => ?_
 refine au ?_
 refine Sim.callR hR (lw_nu_sim _ _ _ (Gr.cp (Gr.cp g0)) g2 hg2) ?_
 rintro r0 q ⟨g3, rfl, hg3⟩
 refine au ?_
 refine Sim.kl hS (ys := List.map u8av [32]) rfl ?_
 refine au ?_
 refine Sim.callR hR (lw_put_sim _ _ .full Mg.full g3 hg3) ?_
 rintro r2 q ⟨g4, rfl, hg4⟩
 refine au ?_
 refine Sim.callR hR (lw_word_sim _ _ g4 hg4) ?_
 rintro r3 q ⟨g5, rfl, hg5⟩
 refine au ?_
 refine Sim.kl hS (ys := List.map u8av [10]) rfl ?_
 refine au ?_
 refine Sim.callR hR (lw_put_sim _ _ .full Mg.full g5 hg5) ?_
 rintro r4 q ⟨g6, rfl, hg6⟩
 refine au ?_
 exact Sim.ret ⟨_, rfl, ⟨_, rfl, hg6⟩⟩
noncomputable def lw_nu_v2_0_step (x0 : List Int) (x2 : Int) (x3 : Int) (o2 : Wtr) : Option ((Int × Wtr) ⊕ Wtr) :=
 if x3 < x2 then
  (idx? x0 x3).bind fun z0 =>
  (lw_put [32] o2).bind fun r0 =>
  (strconv_Itoa z0).bind fun r2 =>
  if List.length r0.f_out + List.length (intsOf r2) ≤ lenMax then
   some (.inl ((wr (x3 + 1)), (Wtr.mk (r0.f_out ++ (intsOf r2)))))
  else none
 else
  some (.inr o2)
noncomputable def lw_nu_v2_0 (x0 : List Int) (x2 : Int) (x3 : Int) (o2 : Wtr) : Option Wtr :=
 loopO (fun s : Int × Wtr => lw_nu_v2_0_step x0 x2 s.1 s.2) (x3, o2)
@[reducible] def lw_nu_v2_0_st (x0 : List Int) (x2 : Int) (x3 : Int) (o2 : Wtr) (g3 : Gr) (g4 : Gr) : PF.St := ⟨[(0, .ptr 0 0), (17, .lst g3 (List.map iav x0)), (18, iav x2), (19, iav x3)], [(0, ⟨true, [.lst g4 (List.map u8av o2.f_out)]⟩)]⟩
def lw_nu_v2_0_rel (x0 : List Int) (x2 : Int) (r : Wtr) (q : ES) : Prop := (fun r (q : ES) => ∃ g0', q = ((.exit 0), ⟨[], [(0, ⟨true, [.lst g0' (List.map u8av r.f_out)]⟩)]⟩) ∧ Mg 1 g0') r q
def lw_nu_v2_0_inv (x0 : List Int) (x2 : Int) (v : Int × Wtr) (e : PF.St) : Prop := ∃ g3, ∃ g4, e = lw_nu_v2_0_st x0 x2 v.1 v.2 g3 g4 ∧ Mg 1 g4
theorem lw_nu_v2_0_sim (x0 : List Int) (x2 : Int) (x3 : Int) (o2 : Wtr) (g3 : Gr) (g4 : Gr) (hg4 : Mg 1 g4) (s : PF.St) (hk : keep [0, 17, 18, 19] [] s = some (lw_nu_v2_0_st x0 x2 x3 o2 g3 g4)) : Sim (lw_nu_v2_0 x0 x2 x3 o2) (Gv (lw_nu_v2_0_rel x0 x2)) (LM.loop ([0, 17, 18, 19], [], [], B_lw_nu_0) s) := by
 refine sim_loop M XE (lw_nu_v2_0_inv x0 x2) (lw_nu_v2_0_rel x0 x2) ?_ _ _ _ hk ⟨g3, g4, rfl, hg4⟩
 clear hk hg4
 rintro S hS hw hw8 R hR ⟨x3, o2⟩ env hp ⟨g3, g4, he, hg4⟩
 change (⟨env, hp⟩ : PF.St) = lw_nu_v2_0_st x0 x2 x3 o2 g3 g4 at he
 cases he
 show Sim (lw_nu_v2_0_step x0 x2 x3 o2) _ _
 unfold lw_nu_v2_0_step
 simp only [hw]
 refine au (.ite Iff.rfl (fun hc => ?_) fun hc => ?_)
 ·refine au ?_
  refine Sim.ix (by simp) (fun z0 hz0 => ?_)
  refine au ?_
  refine Sim.go (idx_map _ hz0) ?_
  refine au ?_
  refine Sim.kl hS (ys := List.map u8av [32]) rfl ?_
  refine au ?_
  refine Sim.callR hR (lw_put_sim _ _ .full Mg.full g4 hg4) ?_
  rintro r0 q ⟨g5, rfl, hg5⟩
  refine au ?_
  refine Sim.kl hS rfl ?_
  refine au (cE hR (strconv_Itoa_sim _) fun r2 => ?_)
  refine au ?_
  rw [byte_map r2]
  refine au ?_
  first | (refine Sim.goB (may_map (by intro _; rfl) hg5 _) ?_) | skip
  refine au ?_
  first | (refine Sim.goB (okE_map (by intro _; exact ⟨rfl, rfl, rfl⟩) _) ?_) | skip
  refine au ?_
  first | refine Sim.ite (by simp) (fun _ => ?_) (fun _ => Sim.no) | refine Sim.guard (fun _ => ?_)
  refine au ?_
  refine Sim.kl hS (ys := List.map u8av (r0.f_out ++ (intsOf r2))) (by simp) ?_
  refine au ?_
  exact Sim.ret ⟨_, _, rfl, rfl, ⟨_, _, rfl, Mg.own⟩⟩
 ·refine au ?_
  exact Sim.ret ⟨_, rfl, ⟨_, rfl, hg4⟩⟩
noncomputable def lw_nu_v2 (head : List UInt8) (l0 : List Int) (o0 : Wtr) : Option Wtr :=
 if List.length o0.f_out + List.length (intsOf head) ≤ lenMax then
  (lw_nu_v2_0 l0 (List.length l0 : Int) 0 (Wtr.mk (o0.f_out ++ (intsOf head)))).bind fun r3 =>
  some r3
 else none
theorem lw_nu_v2_sim (head : List UInt8) (l0 : List Int) (o0 : Wtr) (g0 : Gr) (hg0 : Mg 1 g0) (g2 : Gr) (hg2 : Mg 1 g2) : Sim (lw_nu_v2 head l0 o0) (Gv fun r q => ∃ g0, q = (.tup [], [⟨true, [.lst g0 (List.map u8av r.f_out)]⟩]) ∧ Mg 1 g0) (LM.call n_lw_numbers [.ptr 0 0, .str head, .lst g0 (List.map iav l0)] [⟨true, [.lst g2 (List.map u8av o0.f_out)]⟩]) := by
 unfold lw_nu_v2
 refine sim_evR M XE rfl rfl fun S hS hw hw8 R hR => ?_
 refine au ?_
 refine Sim.kl hS rfl ?_
 refine au ?_
 rw [byte_map head]
 refine au ?_
 first | (refine Sim.goB (may_map (by intro _; rfl) hg2 _) ?_) | skip
 refine au ?_
 first | (refine Sim.goB (okE_map (by intro _; exact ⟨rfl, rfl, rfl⟩) _) ?_) | skip
 refine au ?_
 first | refine Sim.ite (by simp) (fun _ => ?_) (fun _ => Sim.no) | refine Sim.guard (fun _ => ?_)
 refine au ?_
 refine Sim.kl hS (ys := List.map u8av (o0.f_out ++ (intsOf head))) (by simp) ?_
 refine au ?_
 refine Sim.ki hS (m := (List.length l0 : Int)) (by simp) ?_
 refine au ?_
 refine Sim.callL hR (lw_nu_v2_0_sim l0 (List.length l0 : Int) 0 (Wtr.mk (o0.f_out ++ (intsOf head))) (Gr.cp g0) (.own 1) Mg.own _ rfl) ?_
 rintro r3 q ⟨g6, rfl, hg6⟩
 refine au ?_
 exact Sim.ret ⟨_, rfl, ⟨_, rfl, hg6⟩⟩
noncomputable def lw_tick_0_step (t0 : GTick) (x0 : List GSend) (x2 : Int) (x3 : Int) (o2 : Wtr) : Option ((Int × Wtr) ⊕ Wtr) :=
 if x3 < x2 then
  (idx? x0 x3).bind fun z0 =>
  (lw_event ([115, 101, 110, 100] : List UInt8) z0.Bytes [z0.From, z0.To, z0.Delay] o2).bind fun r5 =>
  some (.inl ((wr (x3 + 1)), r5))
 else
  some (.inr o2)
noncomputable def lw_tick_0 (t0 : GTick) (x0 : List GSend) (x2 : Int) (x3 : Int) (o2 : Wtr) : Option Wtr :=
 loopO (fun s : Int × Wtr => lw_tick_0_step t0 x0 x2 s.1 s.2) (x3, o2)
@[reducible] def lw_tick_0_st (t0 : GTick) (x0 : List GSend) (x2 : Int) (x3 : Int) (o2 : Wtr) (g6 : Gr) : PF.St := ⟨[(0, .ptr 0 0), (3, .ept (GTick.cells t0) 0), (26, lav GSend.av x0), (27, iav x2), (28, iav x3)], [(0, ⟨true, [.lst g6 (List.map u8av o2.f_out)]⟩)]⟩
def lw_tick_0_rel (t0 : GTick) (x0 : List GSend) (x2 : Int) (r : Wtr) (q : ES) : Prop := (fun r (q : ES) => ∃ g0', q = ((.exit 0), ⟨[(0, .ptr 0 0), (3, .ept (GTick.cells t0) 0)], [(0, ⟨true, [.lst g0' (List.map u8av r.f_out)]⟩)]⟩) ∧ Mg 1 g0') r q
def lw_tick_0_inv (t0 : GTick) (x0 : List GSend) (x2 : Int) (v : Int × Wtr) (e : PF.St) : Prop := ∃ g6, e = lw_tick_0_st t0 x0 x2 v.1 v.2 g6 ∧ Mg 1 g6
theorem lw_tick_0_sim (t0 : GTick) (x0 : List GSend) (x2 : Int) (x3 : Int) (o2 : Wtr) (g6 : Gr) (hg6 : Mg 1 g6) (s : PF.St) (hk : keep [0, 3, 26, 27, 28] [] s = some (lw_tick_0_st t0 x0 x2 x3 o2 g6)) : Sim (lw_tick_0 t0 x0 x2 x3 o2) (Gv (lw_tick_0_rel t0 x0 x2)) (LM.loop ([0, 3, 26, 27, 28], [], [0, 3], B_lw_tick_0) s) := by
 refine sim_loop M XE (lw_tick_0_inv t0 x0 x2) (lw_tick_0_rel t0 x0 x2) ?_ _ _ _ hk ⟨g6, rfl, hg6⟩
 clear hk hg6
 rintro S hS hw hw8 R hR ⟨x3, o2⟩ env hp ⟨g6, he, hg6⟩
 change (⟨env, hp⟩ : PF.St) = lw_tick_0_st t0 x0 x2 x3 o2 g6 at he
 cases he
 show Sim (lw_tick_0_step t0 x0 x2 x3 o2) _ _
 unfold lw_tick_0_step
 simp only [hw]
 refine au (.ite Iff.rfl (fun hc => ?_) fun hc => ?_)
 ·refine au ?_
  refine Sim.ix (by simp) (fun z0 hz0 => ?_)
  refine au ?_
  refine Sim.go (idx_map _ hz0) ?_
  refine au ?_
  refine Sim.kl hS (ys := List.map iav [z0.From, z0.To, z0.Delay]) rfl ?_
  refine au ?_
  refine Sim.callR hR (lw_event_sim _ _ _ _ .full Mg.full g6 hg6) ?_
  rintro r5 q ⟨g7, rfl, hg7⟩
  refine au ?_
  exact Sim.ret ⟨_, _, rfl, rfl, ⟨_, rfl, hg7⟩⟩
 ·refine au ?_
  exact Sim.ret ⟨_, rfl, ⟨_, rfl, hg6⟩⟩
noncomputable def lw_tick_1_step (t2 : GTick) (x4 : List GBurst) (x5 : Int) (x6 : Int) (o3 : Wtr) : Option ((Int × Wtr) ⊕ Wtr) :=
 if x6 < x5 then
  (idx? x4 x6).bind fun z2 =>
  (lw_event ([98, 117, 114, 115, 116] : List UInt8) z2.Image [z2.Node] o3).bind fun r7 =>
  some (.inl ((wr (x6 + 1)), r7))
 else
  some (.inr o3)
noncomputable def lw_tick_1 (t2 : GTick) (x4 : List GBurst) (x5 : Int) (x6 : Int) (o3 : Wtr) : Option Wtr :=
 loopO (fun s : Int × Wtr => lw_tick_1_step t2 x4 x5 s.1 s.2) (x6, o3)
@[reducible] def lw_tick_1_st (t2 : GTick) (x4 : List GBurst) (x5 : Int) (x6 : Int) (o3 : Wtr) (g9 : Gr) : PF.St := ⟨[(0, .ptr 0 0), (3, .ept (GTick.cells t2) 0), (45, lav GBurst.av x4), (46, iav x5), (47, iav x6)], [(0, ⟨true, [.lst g9 (List.map u8av o3.f_out)]⟩)]⟩
def lw_tick_1_rel (t2 : GTick) (x4 : List GBurst) (x5 : Int) (r : Wtr) (q : ES) : Prop := (fun r (q : ES) => ∃ g0', q = ((.exit 2), ⟨[(0, .ptr 0 0), (3, .ept (GTick.cells t2) 0)], [(0, ⟨true, [.lst g0' (List.map u8av r.f_out)]⟩)]⟩) ∧ Mg 1 g0') r q
def lw_tick_1_inv (t2 : GTick) (x4 : List GBurst) (x5 : Int) (v : Int × Wtr) (e : PF.St) : Prop := ∃ g9, e = lw_tick_1_st t2 x4 x5 v.1 v.2 g9 ∧ Mg 1 g9
theorem lw_tick_1_sim (t2 : GTick) (x4 : List GBurst) (x5 : Int) (x6 : Int) (o3 : Wtr) (g9 : Gr) (hg9 : Mg 1 g9) (s : PF.St) (hk : keep [0, 3, 45, 46, 47] [] s = some (lw_tick_1_st t2 x4 x5 x6 o3 g9)) : Sim (lw_tick_1 t2 x4 x5 x6 o3) (Gv (lw_tick_1_rel t2 x4 x5)) (LM.loop ([0, 3, 45, 46, 47], [], [0, 3], B_lw_tick_1) s) := by
 refine sim_loop M XE (lw_tick_1_inv t2 x4 x5) (lw_tick_1_rel t2 x4 x5) ?_ _ _ _ hk ⟨g9, rfl, hg9⟩
 clear hk hg9
 rintro S hS hw hw8 R hR ⟨x6, o3⟩ env hp ⟨g9, he, hg9⟩
 change (⟨env, hp⟩ : PF.St) = lw_tick_1_st t2 x4 x5 x6 o3 g9 at he
 cases he
 show Sim (lw_tick_1_step t2 x4 x5 x6 o3) _ _
 unfold lw_tick_1_step
 simp only [hw]
 refine au (.ite Iff.rfl (fun hc2 => ?_) fun hc2 => ?_)
 ·refine au ?_
  refine Sim.ix (by simp) (fun z2 hz2 => ?_)
  refine au ?_
  refine Sim.go (idx_map _ hz2) ?_
  refine au ?_
  refine Sim.kl hS (ys := List.map iav [z2.Node]) rfl ?_
  refine au ?_
  refine Sim.callR hR (lw_event_sim _ _ _ _ .full Mg.full g9 hg9) ?_
  rintro r7 q ⟨g10, rfl, hg10⟩
  refine au ?_
  exact Sim.ret ⟨_, _, rfl, rfl, ⟨_, rfl, hg10⟩⟩
 ·refine au ?_
  exact Sim.ret ⟨_, rfl, ⟨_, rfl, hg9⟩⟩
noncomputable def lw_tick_2_step (t3 : GTick) (x7 : List GSend) (x8 : Int) (x9 : Int) (o4 : Wtr) : Option ((Int × Wtr) ⊕ Wtr) :=
 if x9 < x8 then
  (idx? x7 x9).bind fun z3 =>
  (lw_event ([115, 116, 114, 97, 121] : List UInt8) z3.Bytes [z3.From, z3.To, z3.Delay] o4).bind fun r9 =>
  some (.inl ((wr (x9 + 1)), r9))
 else
  some (.inr o4)
noncomputable def lw_tick_2 (t3 : GTick) (x7 : List GSend) (x8 : Int) (x9 : Int) (o4 : Wtr) : Option Wtr :=
 loopO (fun s : Int × Wtr => lw_tick_2_step t3 x7 x8 s.1 s.2) (x9, o4)
@[reducible] def lw_tick_2_st (t3 : GTick) (x7 : List GSend) (x8 : Int) (x9 : Int) (o4 : Wtr) (g12 : Gr) : PF.St := ⟨[(0, .ptr 0 0), (3, .ept (GTick.cells t3) 0), (60, lav GSend.av x7), (61, iav x8), (62, iav x9)], [(0, ⟨true, [.lst g12 (List.map u8av o4.f_out)]⟩)]⟩
def lw_tick_2_rel (t3 : GTick) (x7 : List GSend) (x8 : Int) (r : Wtr) (q : ES) : Prop := (fun r (q : ES) => ∃ g0', q = ((.exit 4), ⟨[(0, .ptr 0 0), (3, .ept (GTick.cells t3) 0)], [(0, ⟨true, [.lst g0' (List.map u8av r.f_out)]⟩)]⟩) ∧ Mg 1 g0') r q
def lw_tick_2_inv (t3 : GTick) (x7 : List GSend) (x8 : Int) (v : Int × Wtr) (e : PF.St) : Prop := ∃ g12, e = lw_tick_2_st t3 x7 x8 v.1 v.2 g12 ∧ Mg 1 g12
theorem lw_tick_2_sim (t3 : GTick) (x7 : List GSend) (x8 : Int) (x9 : Int) (o4 : Wtr) (g12 : Gr) (hg12 : Mg 1 g12) (s : PF.St) (hk : keep [0, 3, 60, 61, 62] [] s = some (lw_tick_2_st t3 x7 x8 x9 o4 g12)) : Sim (lw_tick_2 t3 x7 x8 x9 o4) (Gv (lw_tick_2_rel t3 x7 x8)) (LM.loop ([0, 3, 60, 61, 62], [], [0, 3], B_lw_tick_2) s) := by
 refine sim_loop M XE (lw_tick_2_inv t3 x7 x8) (lw_tick_2_rel t3 x7 x8) ?_ _ _ _ hk ⟨g12, rfl, hg12⟩
 clear hk hg12
 rintro S hS hw hw8 R hR ⟨x9, o4⟩ env hp ⟨g12, he, hg12⟩
 change (⟨env, hp⟩ : PF.St) = lw_tick_2_st t3 x7 x8 x9 o4 g12 at he
 cases he
 show Sim (lw_tick_2_step t3 x7 x8 x9 o4) _ _
 unfold lw_tick_2_step
 simp only [hw]
 refine au (.ite Iff.rfl (fun hc3 => ?_) fun hc3 => ?_)
 ·refine au ?_
  refine Sim.ix (by simp) (fun z3 hz3 => ?_)
  refine au ?_
  refine Sim.go (idx_map _ hz3) ?_
  refine au ?_
  refine Sim.kl hS (ys := List.map iav [z3.From, z3.To, z3.Delay]) rfl ?_
  refine au ?_
  refine Sim.callR hR (lw_event_sim _ _ _ _ .full Mg.full g12 hg12) ?_
  rintro r9 q ⟨g13, rfl, hg13⟩
  refine au ?_
  exact Sim.ret ⟨_, _, rfl, rfl, ⟨_, rfl, hg13⟩⟩
 ·refine au ?_
  exact Sim.ret ⟨_, rfl, ⟨_, rfl, hg12⟩⟩
noncomputable def lw_tick_3_step (x10 : List GWrite) (x11 : Int) (x12 : Int) (o5 : Wtr) : Option ((Int × Wtr) ⊕ Wtr) :=
 if x12 < x11 then
  (idx? x10 x12).bind fun z4 =>
  (lw_event ([119, 114, 105, 116, 101] : List UInt8) z4.Text [z4.Node] o5).bind fun r11 =>
  some (.inl ((wr (x12 + 1)), r11))
 else
  some (.inr o5)
noncomputable def lw_tick_3 (x10 : List GWrite) (x11 : Int) (x12 : Int) (o5 : Wtr) : Option Wtr :=
 loopO (fun s : Int × Wtr => lw_tick_3_step x10 x11 s.1 s.2) (x12, o5)
@[reducible] def lw_tick_3_st (x10 : List GWrite) (x11 : Int) (x12 : Int) (o5 : Wtr) (g15 : Gr) : PF.St := ⟨[(0, .ptr 0 0), (79, lav GWrite.av x10), (80, iav x11), (81, iav x12)], [(0, ⟨true, [.lst g15 (List.map u8av o5.f_out)]⟩)]⟩
def lw_tick_3_rel (x10 : List GWrite) (x11 : Int) (r : Wtr) (q : ES) : Prop := (fun r (q : ES) => ∃ g0', q = ((.exit 6), ⟨[], [(0, ⟨true, [.lst g0' (List.map u8av r.f_out)]⟩)]⟩) ∧ Mg 1 g0') r q
def lw_tick_3_inv (x10 : List GWrite) (x11 : Int) (v : Int × Wtr) (e : PF.St) : Prop := ∃ g15, e = lw_tick_3_st x10 x11 v.1 v.2 g15 ∧ Mg 1 g15
theorem lw_tick_3_sim (x10 : List GWrite) (x11 : Int) (x12 : Int) (o5 : Wtr) (g15 : Gr) (hg15 : Mg 1 g15) (s : PF.St) (hk : keep [0, 79, 80, 81] [] s = some (lw_tick_3_st x10 x11 x12 o5 g15)) : Sim (lw_tick_3 x10 x11 x12 o5) (Gv (lw_tick_3_rel x10 x11)) (LM.loop ([0, 79, 80, 81], [], [], B_lw_tick_3) s) := by
 refine sim_loop M XE (lw_tick_3_inv x10 x11) (lw_tick_3_rel x10 x11) ?_ _ _ _ hk ⟨g15, rfl, hg15⟩
 clear hk hg15
 rintro S hS hw hw8 R hR ⟨x12, o5⟩ env hp ⟨g15, he, hg15⟩
 change (⟨env, hp⟩ : PF.St) = lw_tick_3_st x10 x11 x12 o5 g15 at he
 cases he
 show Sim (lw_tick_3_step x10 x11 x12 o5) _ _
 unfold lw_tick_3_step
 simp only [hw]
 refine au (.ite Iff.rfl (fun hc4 => ?_) fun hc4 => ?_)
 ·refine au ?_
  refine Sim.ix (by simp) (fun z4 hz4 => ?_)
  refine au ?_
  refine Sim.go (idx_map _ hz4) ?_
  refine au ?_
  refine Sim.kl hS (ys := List.map iav [z4.Node]) rfl ?_
  refine au ?_
  refine Sim.callR hR (lw_event_sim _ _ _ _ .full Mg.full g15 hg15) ?_
  rintro r11 q ⟨g16, rfl, hg16⟩
  refine au ?_
  exact Sim.ret ⟨_, _, rfl, rfl, ⟨_, rfl, hg16⟩⟩
 ·refine au ?_
  exact Sim.ret ⟨_, rfl, ⟨_, rfl, hg15⟩⟩
noncomputable def lw_tick (i0 : GTick) (o0 : Wtr) : Option Wtr :=
 (lw_nu_v2 ([116, 105, 99, 107] : List UInt8) ([] : List Int) o0).bind fun r0 =>
 (lw_put [10] r0).bind fun r2 =>
 (lw_some_v1 ([117, 110, 105, 116, 115] : List UInt8) i0.Units r2).bind fun r3 =>
 (lw_some_v1 ([100, 101, 108, 97, 121, 115] : List UInt8) i0.Delays r3).bind fun r4 =>
 (lw_tick_0 i0 i0.Sends (List.length i0.Sends : Int) 0 r4).bind fun r6 =>
 (lw_tick_1 i0 i0.Bursts (List.length i0.Bursts : Int) 0 r6).bind fun r8 =>
 (lw_tick_2 i0 i0.Strays (List.length i0.Strays : Int) 0 r8).bind fun r10 =>
 (lw_tick_3 i0.Writes (List.length i0.Writes : Int) 0 r10).bind fun r12 =>
 some r12
theorem lw_tick_sim (i0 : GTick) (o0 : Wtr) (g0 : Gr) (hg0 : Mg 1 g0) : Sim (lw_tick i0 o0) (Gv fun r q => ∃ g0, q = (.tup [], [⟨true, [.lst g0 (List.map u8av r.f_out)]⟩]) ∧ Mg 1 g0) (LM.call n_lw_tick [.ptr 0 0, GTick.av i0] [⟨true, [.lst g0 (List.map u8av o0.f_out)]⟩]) := by
 unfold lw_tick
 refine sim_evR M XE rfl rfl fun S hS hw hw8 R hR => ?_
 refine au ?_
 refine Sim.callR hR (lw_nu_v2_sim _ _ _ .full Mg.full g0 hg0) ?_
 rintro r0 q ⟨g2, rfl, hg2⟩
 refine au ?_
 refine Sim.kl hS (ys := List.map u8av [10]) rfl ?_
 refine au ?_
 refine Sim.callR hR (lw_put_sim _ _ .full Mg.full g2 hg2) ?_
 rintro r2 q ⟨g3, rfl, hg3⟩
 refine au ?_
 refine Sim.callR hR (lw_some_v1_sim _ _ _ g3 hg3) ?_
 rintro r3 q ⟨g4, rfl, hg4⟩
 refine au ?_
 refine Sim.callR hR (lw_some_v1_sim _ _ _ g4 hg4) ?_
 rintro r4 q ⟨g5, rfl, hg5⟩
 refine au ?_
 refine Sim.ki hS (m := (List.length i0.Sends : Int)) (by simp) ?_
 refine au ?_
 refine Sim.callL hR (lw_tick_0_sim i0 i0.Sends (List.length i0.Sends : Int) 0 r4 g5 hg5 _ rfl) ?_
 rintro r6 q ⟨g8, rfl, hg8⟩
 refine au ?_
 refine Sim.ki hS (m := (List.length i0.Bursts : Int)) (by simp) ?_
 refine au ?_
 refine Sim.callL hR (lw_tick_1_sim i0 i0.Bursts (List.length i0.Bursts : Int) 0 r6 g8 hg8 _ rfl) ?_
 rintro r8 q ⟨g11, rfl, hg11⟩
 refine au ?_
 refine Sim.ki hS (m := (List.length i0.Strays : Int)) (by simp) ?_
 refine au ?_
 refine Sim.callL hR (lw_tick_2_sim i0 i0.Strays (List.length i0.Strays : Int) 0 r8 g11 hg11 _ rfl) ?_
 rintro r10 q ⟨g14, rfl, hg14⟩
 refine au ?_
 refine Sim.ki hS (m := (List.length i0.Writes : Int)) (by simp) ?_
 refine au ?_
 refine Sim.callL hR (lw_tick_3_sim i0.Writes (List.length i0.Writes : Int) 0 r10 g14 hg14 _ rfl) ?_
 rintro r12 q ⟨g17, rfl, hg17⟩
 refine au ?_
 exact Sim.ret ⟨_, rfl, ⟨_, rfl, hg17⟩⟩
noncomputable def lines_Write_0_step (i0 : GScript) (x0 : List (List UInt8)) (x2 : Int) (o0 : GConf) (x3 : Int) (t0 : Wtr) : Option ((Int × Wtr) ⊕ Wtr) :=
 if x3 < x2 then
  (idx? x0 x3).bind fun z0 =>
  (lw_event ([105, 109, 97, 103, 101] : List UInt8) z0 ([] : List Int) t0).bind fun r5 =>
  some (.inl ((wr (x3 + 1)), r5))
 else
  some (.inr t0)
noncomputable def lines_Write_0 (i0 : GScript) (x0 : List (List UInt8)) (x2 : Int) (o0 : GConf) (x3 : Int) (t0 : Wtr) : Option Wtr :=
 loopO (fun s : Int × Wtr => lines_Write_0_step i0 x0 x2 o0 s.1 s.2) (x3, t0)
@[reducible] def lines_Write_0_st (i0 : GScript) (x0 : List (List UInt8)) (x2 : Int) (o0 : GConf) (x3 : Int) (t0 : Wtr) (g4 : Gr) : PF.St := ⟨[(1, .ept (GScript.cells i0) 0), (5, .ptr 105 0), (47, lav sav x0), (48, iav x2), (49, iav x3)], [(106, ⟨true, GConf.cells o0⟩), (105, ⟨true, [.lst g4 (List.map u8av t0.f_out)]⟩)]⟩
def lines_Write_0_rel (i0 : GScript) (x0 : List (List UInt8)) (x2 : Int) (o0 : GConf) (r : Wtr) (q : ES) : Prop := (fun r (q : ES) => ∃ g0', q = ((.exit 0), ⟨[(1, .ept (GScript.cells i0) 0), (5, .ptr 105 0)], [(106, ⟨true, GConf.cells o0⟩), (105, ⟨true, [.lst g0' (List.map u8av r.f_out)]⟩)]⟩) ∧ Mg 1 g0') r q
def lines_Write_0_inv (i0 : GScript) (x0 : List (List UInt8)) (x2 : Int) (o0 : GConf) (v : Int × Wtr) (e : PF.St) : Prop := ∃ g4, e = lines_Write_0_st i0 x0 x2 o0 v.1 v.2 g4 ∧ Mg 1 g4
theorem lines_Write_0_sim (i0 : GScript) (x0 : List (List UInt8)) (x2 : Int) (o0 : GConf) (x3 : Int) (t0 : Wtr) (g4 : Gr) (hg4 : Mg 1 g4) (s : PF.St) (hk : keep [1, 5, 47, 48, 49] [105, 106] s = some (lines_Write_0_st i0 x0 x2 o0 x3 t0 g4)) : Sim (lines_Write_0 i0 x0 x2 o0 x3 t0) (Gv (lines_Write_0_rel i0 x0 x2 o0)) (LM.loop ([1, 5, 47, 48, 49], [105, 106], [1, 5], B_lines_Write_0) s) := by
 refine sim_loop M XE (lines_Write_0_inv i0 x0 x2 o0) (lines_Write_0_rel i0 x0 x2 o0) ?_ _ _ _ hk ⟨g4, rfl, hg4⟩
 clear hk hg4
 rintro S hS hw hw8 R hR ⟨x3, t0⟩ env hp ⟨g4, he, hg4⟩
 change (⟨env, hp⟩ : PF.St) = lines_Write_0_st i0 x0 x2 o0 x3 t0 g4 at he
 cases he
 show Sim (lines_Write_0_step i0 x0 x2 o0 x3 t0) _ _
 unfold lines_Write_0_step
 simp only [hw]
 refine au (.ite Iff.rfl (fun hc2 => ?_) fun hc2 => ?_)
 ·refine au ?_
  refine Sim.ix (by simp) (fun z0 hz0 => ?_)
  refine au ?_
  refine Sim.go (idx_map _ hz0) ?_
  refine au ?_
  refine Sim.callR hR (lw_event_sim _ _ _ _ .full Mg.full g4 hg4) ?_
  rintro r5 q ⟨g5, rfl, hg5⟩
  refine au ?_
  exact Sim.ret ⟨_, _, rfl, rfl, ⟨_, rfl, hg5⟩⟩
 ·refine au ?_
  exact Sim.ret ⟨_, rfl, ⟨_, rfl, hg4⟩⟩
noncomputable def lines_Write_1_step (x4 : List GTick) (x5 : Int) (o2 : GConf) (x6 : Int) (t2 : Wtr) : Option ((Int × Wtr) ⊕ Wtr) :=
 if x6 < x5 then
  (idx? x4 x6).bind fun z2 =>
  (lw_tick z2 t2).bind fun r7 =>
  some (.inl ((wr (x6 + 1)), r7))
 else
  some (.inr t2)
noncomputable def lines_Write_1 (x4 : List GTick) (x5 : Int) (o2 : GConf) (x6 : Int) (t2 : Wtr) : Option Wtr :=
 loopO (fun s : Int × Wtr => lines_Write_1_step x4 x5 o2 s.1 s.2) (x6, t2)
@[reducible] def lines_Write_1_st (x4 : List GTick) (x5 : Int) (o2 : GConf) (x6 : Int) (t2 : Wtr) (g7 : Gr) : PF.St := ⟨[(5, .ptr 105 0), (57, lav GTick.av x4), (58, iav x5), (59, iav x6)], [(106, ⟨true, GConf.cells o2⟩), (105, ⟨true, [.lst g7 (List.map u8av t2.f_out)]⟩)]⟩
def lines_Write_1_rel (x4 : List GTick) (x5 : Int) (o2 : GConf) (r : Wtr) (q : ES) : Prop := (fun r (q : ES) => ∃ g0', q = ((.exit 2), ⟨[(5, .ptr 105 0)], [(106, ⟨true, GConf.cells o2⟩), (105, ⟨true, [.lst g0' (List.map u8av r.f_out)]⟩)]⟩) ∧ Mg 1 g0') r q
def lines_Write_1_inv (x4 : List GTick) (x5 : Int) (o2 : GConf) (v : Int × Wtr) (e : PF.St) : Prop := ∃ g7, e = lines_Write_1_st x4 x5 o2 v.1 v.2 g7 ∧ Mg 1 g7
theorem lines_Write_1_sim (x4 : List GTick) (x5 : Int) (o2 : GConf) (x6 : Int) (t2 : Wtr) (g7 : Gr) (hg7 : Mg 1 g7) (s : PF.St) (hk : keep [5, 57, 58, 59] [105, 106] s = some (lines_Write_1_st x4 x5 o2 x6 t2 g7)) : Sim (lines_Write_1 x4 x5 o2 x6 t2) (Gv (lines_Write_1_rel x4 x5 o2)) (LM.loop ([5, 57, 58, 59], [105, 106], [5], B_lines_Write_1) s) := by
 refine sim_loop M XE (lines_Write_1_inv x4 x5 o2) (lines_Write_1_rel x4 x5 o2) ?_ _ _ _ hk ⟨g7, rfl, hg7⟩
 clear hk hg7
 rintro S hS hw hw8 R hR ⟨x6, t2⟩ env hp ⟨g7, he, hg7⟩
 change (⟨env, hp⟩ : PF.St) = lines_Write_1_st x4 x5 o2 x6 t2 g7 at he
 cases he
 show Sim (lines_Write_1_step x4 x5 o2 x6 t2) _ _
 unfold lines_Write_1_step
 simp only [hw]
 refine au (.ite Iff.rfl (fun hc3 => ?_) fun hc3 => ?_)
 ·refine au ?_
  refine Sim.ix (by simp) (fun z2 hz2 => ?_)
  refine au ?_
  refine Sim.go (idx_map _ hz2) ?_
  refine au ?_
  refine Sim.callR hR (lw_tick_sim _ _ g7 hg7) ?_
  rintro r7 q ⟨g8, rfl, hg8⟩
  refine au ?_
  exact Sim.ret ⟨_, _, rfl, rfl, ⟨_, rfl, hg8⟩⟩
 ·refine au ?_
  exact Sim.ret ⟨_, rfl, ⟨_, rfl, hg7⟩⟩
noncomputable def lines_Write (L0 : GScript) : Option ((List UInt8) × Int) :=
 (script_Right L0).bind fun r0 =>
 if r0 ≠ 0 then
  some (([] : List UInt8), r0)
 else
  (lw_some ([99, 111, 110, 102] : List UInt8) [L0.Conf.N, L0.Conf.F, L0.Conf.D, L0.Conf.Period, L0.Conf.Rate, L0.Conf.Drift, L0.Conf.Offset, L0.Conf.Slot, L0.Conf.Mod, L0.Conf.Fresh] (Wtr.mk ([] : List Int))).bind fun r2 =>
  (lw_some_v1 ([116, 97, 98, 108, 101] : List UInt8) L0.Conf.Table r2).bind fun r3 =>
  (lw_some_v1 ([102, 97, 117, 108, 116, 121] : List UInt8) L0.Faulty r3).bind fun r4 =>
  (lines_Write_0 L0 L0.Images (List.length L0.Images : Int) L0.Conf 0 r4).bind fun r6 =>
  (lines_Write_1 L0.Ticks (List.length L0.Ticks : Int) L0.Conf 0 r6).bind fun r8 =>
  (lw_nu_v2 ([101, 110, 100] : List UInt8) ([] : List Int) r8).bind fun r9 =>
  (lw_put [10] r9).bind fun r10 =>
  some ((bytesOf r10.f_out), 0)
theorem lines_Write_sim (L0 : GScript) : Sim (lines_Write L0) (Gv fun r q => q = (.tup [.str r.1, iav r.2], [])) (LM.call n_lines_Write [GScript.av L0] []) := by
 unfold lines_Write
 refine sim_evR M XE rfl rfl fun S hS hw hw8 R hR => ?_
 refine au (cE hR (script_Right_sim _) fun r0 => ?_)
 refine au (.ite Iff.rfl (fun hc => ?_) fun hc => ?_)
 ·exact au (.ret ⟨_, rfl, rfl⟩)
 ·refine au ?_
  refine Sim.kl hS (ys := List.map iav [L0.Conf.N, L0.Conf.F, L0.Conf.D, L0.Conf.Period, L0.Conf.Rate, L0.Conf.Drift, L0.Conf.Offset, L0.Conf.Slot, L0.Conf.Mod, L0.Conf.Fresh]) rfl ?_
  refine au ?_
  refine Sim.callR hR (lw_some_sim _ _ _ .full Mg.full .full Mg.full) ?_
  rintro r2 q ⟨g0, rfl, hg0⟩
  refine au ?_
  refine Sim.callR hR (lw_some_v1_sim _ _ _ g0 hg0) ?_
  rintro r3 q ⟨g2, rfl, hg2⟩
  refine au ?_
  refine Sim.callR hR (lw_some_v1_sim _ _ _ g2 hg2) ?_
  rintro r4 q ⟨g3, rfl, hg3⟩
  refine au ?_
  refine Sim.ki hS (m := (List.length L0.Images : Int)) (by simp) ?_
  refine au ?_
  refine Sim.callL hR (lines_Write_0_sim L0 L0.Images (List.length L0.Images : Int) L0.Conf 0 r4 g3 hg3 _ rfl) ?_
  rintro r6 q ⟨g6, rfl, hg6⟩
  refine au ?_
  refine Sim.ki hS (m := (List.length L0.Ticks : Int)) (by simp) ?_
  refine au ?_
  refine Sim.callL hR (lines_Write_1_sim L0.Ticks (List.length L0.Ticks : Int) L0.Conf 0 r6 g6 hg6 _ rfl) ?_
  rintro r8 q ⟨g9, rfl, hg9⟩
  refine au ?_
  refine Sim.callR hR (lw_nu_v2_sim _ _ _ .full Mg.full g9 hg9) ?_
  rintro r9 q ⟨g10, rfl, hg10⟩
  refine au ?_
  refine Sim.kl hS (ys := List.map u8av [10]) rfl ?_
  refine au ?_
  refine Sim.callR hR (lw_put_sim _ _ .full Mg.full g10 hg10) ?_
  rintro r10 q ⟨g11, rfl, hg11⟩
  refine au ?_
  refine Sim.go (bytes_mapM _) ?_
  exact au (.ret ⟨_, rfl, rfl⟩)
noncomputable def lines_number_0_step (s2 : List UInt8) (x0 : Int) (n0 : Int) (x2 : Int) : Option ((Int × Int) ⊕ ((Int × Bool × Int) ⊕ (Int))) :=
 if x2 < x0 then
  (idx? s2 x2).bind fun b2 =>
  if (wr ((wr (UInt8.toNat b2 : Int)) - 48)) < 0 then
   some (.inr (.inl (0, false, n0)))
  else
   if 9 < (wr ((wr (UInt8.toNat b2 : Int)) - 48)) then
    some (.inr (.inl (0, false, n0)))
   else
    some (.inl ((wr ((wr (10 * n0)) + (wr ((wr (UInt8.toNat b2 : Int)) - 48)))), (wr (x2 + 1))))
 else
  some (.inr (.inr n0))
noncomputable def lines_number_0 (s2 : List UInt8) (x0 : Int) (n0 : Int) (x2 : Int) : Option ((Int × Bool × Int) ⊕ (Int)) :=
 loopO (fun s : Int × Int => lines_number_0_step s2 x0 s.1 s.2) (n0, x2)
@[reducible] def lines_number_0_st (s2 : List UInt8) (x0 : Int) (n0 : Int) (x2 : Int) : PF.St := ⟨[(0, .str s2), (4, iav n0), (21, iav x0), (22, iav x2)], []⟩
def lines_number_0_rel (s2 : List UInt8) (x0 : Int) (r : ((Int × Bool × Int) ⊕ (Int))) (q : ES) : Prop := (fun r (q : ES) => Sum.elim (fun r => (fun r (q : ES) => q = (Ex.ret, ⟨[(0, .str s2), (2, iav r.1), (3, .bool r.2.1), (4, iav r.2.2)], []⟩)) r q) (fun r => (fun r (q : ES) => q = ((.exit 0), ⟨[(0, .str s2), (2, .undef), (3, .undef), (4, iav r)], []⟩)) r q) r) r q
def lines_number_0_inv (s2 : List UInt8) (x0 : Int) (v : Int × Int) (e : PF.St) : Prop := e = lines_number_0_st s2 x0 v.1 v.2
theorem lines_number_0_sim (s2 : List UInt8) (x0 : Int) (n0 : Int) (x2 : Int) (s : PF.St) (hk : keep [0, 4, 21, 22] [] s = some (lines_number_0_st s2 x0 n0 x2)) : Sim (lines_number_0 s2 x0 n0 x2) (Gv (lines_number_0_rel s2 x0)) (LM.loop ([0, 4, 21, 22], [], [0, 2, 3, 4], B_lines_number_0) s) := by
 refine sim_loop M XE (lines_number_0_inv s2 x0) (lines_number_0_rel s2 x0) ?_ _ _ _ hk rfl
 clear hk
 rintro S hS hw hw8 R hR ⟨n0, x2⟩ env hp he
 change (⟨env, hp⟩ : PF.St) = lines_number_0_st s2 x0 n0 x2 at he
 cases he
 show Sim (lines_number_0_step s2 x0 n0 x2) _ _
 unfold lines_number_0_step
 simp only [hw]
 refine au (.ite Iff.rfl (fun hc4 => ?_) fun hc4 => ?_)
 ·refine au ?_
  refine Sim.ix rfl (fun b2 hb2 => ?_)
  refine au ?_
  refine Sim.go hb2 ?_
  refine au (.ite Iff.rfl (fun hc5 => ?_) fun hc5 => ?_)
  ·exact au (.ret ⟨_, rfl, rfl⟩)
  ·refine au (.ite Iff.rfl (fun hc6 => ?_) fun hc6 => ?_)
   ·exact au (.ret ⟨_, rfl, rfl⟩)
   ·refine au ?_
    exact Sim.ret ⟨_, _, rfl, rfl, rfl⟩
 ·exact au (.ret ⟨_, rfl, rfl⟩)
noncomputable def lines_number_0a_step (s3 : List UInt8) (x3 : Int) (n2 : Int) (x4 : Int) : Option ((Int × Int) ⊕ ((Int × Bool × Int) ⊕ (Int))) :=
 if x4 < x3 then
  (idx? s3 x4).bind fun b3 =>
  if (wr ((wr (UInt8.toNat b3 : Int)) - 48)) < 0 then
   some (.inr (.inl (0, false, n2)))
  else
   if 9 < (wr ((wr (UInt8.toNat b3 : Int)) - 48)) then
    some (.inr (.inl (0, false, n2)))
   else
    some (.inl ((wr ((wr (10 * n2)) + (wr ((wr (UInt8.toNat b3 : Int)) - 48)))), (wr (x4 + 1))))
 else
  some (.inr (.inr n2))
noncomputable def lines_number_0a (s3 : List UInt8) (x3 : Int) (n2 : Int) (x4 : Int) : Option ((Int × Bool × Int) ⊕ (Int)) :=
 loopO (fun s : Int × Int => lines_number_0a_step s3 x3 s.1 s.2) (n2, x4)
@[reducible] def lines_number_0a_st (s3 : List UInt8) (x3 : Int) (n2 : Int) (x4 : Int) : PF.St := ⟨[(0, .str s3), (4, iav n2), (21, iav x3), (22, iav x4)], []⟩
def lines_number_0a_rel (s3 : List UInt8) (x3 : Int) (r : ((Int × Bool × Int) ⊕ (Int))) (q : ES) : Prop := (fun r (q : ES) => Sum.elim (fun r => (fun r (q : ES) => q = (Ex.ret, ⟨[(0, .str s3), (2, iav r.1), (3, .bool r.2.1), (4, iav r.2.2)], []⟩)) r q) (fun r => (fun r (q : ES) => q = ((.exit 0), ⟨[(0, .str s3), (2, .undef), (3, .undef), (4, iav r)], []⟩)) r q) r) r q
def lines_number_0a_inv (s3 : List UInt8) (x3 : Int) (v : Int × Int) (e : PF.St) : Prop := e = lines_number_0a_st s3 x3 v.1 v.2
theorem lines_number_0a_sim (s3 : List UInt8) (x3 : Int) (n2 : Int) (x4 : Int) (s : PF.St) (hk : keep [0, 4, 21, 22] [] s = some (lines_number_0a_st s3 x3 n2 x4)) : Sim (lines_number_0a s3 x3 n2 x4) (Gv (lines_number_0a_rel s3 x3)) (LM.loop ([0, 4, 21, 22], [], [0, 2, 3, 4], B_lines_number_0) s) := by
 refine sim_loop M XE (lines_number_0a_inv s3 x3) (lines_number_0a_rel s3 x3) ?_ _ _ _ hk rfl
 clear hk
 rintro S hS hw hw8 R hR ⟨n2, x4⟩ env hp he
 change (⟨env, hp⟩ : PF.St) = lines_number_0a_st s3 x3 n2 x4 at he
 cases he
 show Sim (lines_number_0a_step s3 x3 n2 x4) _ _
 unfold lines_number_0a_step
 simp only [hw]
 refine au (.ite Iff.rfl (fun hc7 => ?_) fun hc7 => ?_)
 ·refine au ?_
  refine Sim.ix rfl (fun b3 hb3 => ?_)
  refine au ?_
  refine Sim.go hb3 ?_
  refine au (.ite Iff.rfl (fun hc8 => ?_) fun hc8 => ?_)
  ·exact au (.ret ⟨_, rfl, rfl⟩)
  ·refine au (.ite Iff.rfl (fun hc9 => ?_) fun hc9 => ?_)
   ·exact au (.ret ⟨_, rfl, rfl⟩)
   ·refine au ?_
    exact Sim.ret ⟨_, _, rfl, rfl, rfl⟩
 ·exact au (.ret ⟨_, rfl, rfl⟩)
noncomputable def lines_number (s0 : List UInt8) : Option (Int × Bool) :=
 if 6 < (List.length s0 : Int) then
  some (0, false)
 else
  if 1 < (List.length s0 : Int) then
   (idx? s0 0).bind fun b0 =>
   if (UInt8.toNat b0 : Int) = 48 then
    some (0, false)
   else
    (lines_number_0 s0 (List.length s0 : Int) 0 0).bind fun r0 =>
    Sum.elim
     (fun r2 =>
       some (r2.1, r2.2.1))
     (fun r3 =>
       some (r3, (decide (s0 ≠ ([] : List UInt8)))))
     r0
  else
   (lines_number_0a s0 (List.length s0 : Int) 0 0).bind fun r4 =>
   Sum.elim
    (fun r5 =>
      some (r5.1, r5.2.1))
    (fun r6 =>
      some (r6, (decide (s0 ≠ ([] : List UInt8)))))
    r4
theorem lines_number_sim (s0 : List UInt8) : Sim (lines_number s0) (Gv fun r q => q = (.tup [iav r.1, .bool r.2], [])) (LM.call n_lines_number [.str s0] []) := by
 unfold lines_number
 refine sim_evR M XE rfl rfl fun S hS hw hw8 R hR => ?_
 refine au (.ite Iff.rfl (fun hc => ?_) fun hc => ?_)
 ·exact au (.ret ⟨_, rfl, rfl⟩)
 ·refine au (.ite Iff.rfl (fun hc2 => ?_) fun hc2 => ?_)
  ·refine au ?_
   refine Sim.ix rfl (fun b0 hb0 => ?_)
   refine au ?_
   refine Sim.go hb0 ?_
   refine au (.ite Iff.rfl (fun hc3 => ?_) fun hc3 => ?_)
   ·exact au (.ret ⟨_, rfl, rfl⟩)
   ·refine au ?_
    refine Sim.callL hR (lines_number_0_sim s0 (List.length s0 : Int) 0 0 _ rfl) ?_
    rintro r0 q hr
    rcases r0 with r2 | r3
    ·cases hr
     exact au (.ret ⟨_, rfl, rfl⟩)
    ·cases hr
     exact au (.ret ⟨_, rfl, rfl⟩)
  ·refine au ?_
   refine Sim.callL hR (lines_number_0a_sim s0 (List.length s0 : Int) 0 0 _ rfl) ?_
   rintro r4 q hr
   rcases r4 with r5 | r6
   ·cases hr
    exact au (.ret ⟨_, rfl, rfl⟩)
   ·cases hr
    exact au (.ret ⟨_, rfl, rfl⟩)
noncomputable def lines_ints_0_step (x0 : List (List UInt8)) (x2 : Int) (out : List Int) (x3 : Int) : Option (((List Int) × Int) ⊕ (((List Int) × Bool × (List Int)) ⊕ ((List Int)))) :=
 if x3 < x2 then
  (idx? x0 x3).bind fun z0 =>
  (lines_number z0).bind fun r0 =>
  if (!r0.2) = true then
   some (.inr (.inl (([] : List Int), false, out)))
  else
   if List.length out + List.length [r0.1] ≤ lenMax then
    some (.inl ((out ++ [r0.1]), (wr (x3 + 1))))
   else none
 else
  some (.inr (.inr out))
noncomputable def lines_ints_0 (x0 : List (List UInt8)) (x2 : Int) (out : List Int) (x3 : Int) : Option (((List Int) × Bool × (List Int)) ⊕ ((List Int))) :=
 loopO (fun s : (List Int) × Int => lines_ints_0_step x0 x2 s.1 s.2) (out, x3)
@[reducible] def lines_ints_0_st (x0 : List (List UInt8)) (x2 : Int) (out : List Int) (x3 : Int) (g0 : Gr) : PF.St := ⟨[(4, .lst g0 (List.map iav out)), (9, lav sav x0), (10, iav x2), (11, iav x3)], []⟩
def lines_ints_0_rel (x0 : List (List UInt8)) (x2 : Int) (r : (((List Int) × Bool × (List Int)) ⊕ ((List Int)))) (q : ES) : Prop := (fun r (q : ES) => Sum.elim (fun r => (fun r (q : ES) => ∃ g0', ∃ g1', q = (Ex.ret, ⟨[(2, .lst g0' (List.map iav r.1)), (3, .bool r.2.1), (4, .lst g1' (List.map iav r.2.2))], []⟩) ∧ Mg 1 g0' ∧ Mg 1 g1') r q) (fun r => (fun r (q : ES) => ∃ g0', q = ((.exit 0), ⟨[(2, .undef), (3, .undef), (4, .lst g0' (List.map iav r))], []⟩) ∧ Mg 1 g0') r q) r) r q
def lines_ints_0_inv (x0 : List (List UInt8)) (x2 : Int) (v : (List Int) × Int) (e : PF.St) : Prop := ∃ g0, e = lines_ints_0_st x0 x2 v.1 v.2 g0 ∧ Mg 1 g0
theorem lines_ints_0_sim (x0 : List (List UInt8)) (x2 : Int) (out : List Int) (x3 : Int) (g0 : Gr) (hg0 : Mg 1 g0) (s : PF.St) (hk : keep [4, 9, 10, 11] [] s = some (lines_ints_0_st x0 x2 out x3 g0)) : Sim (lines_ints_0 x0 x2 out x3) (Gv (lines_ints_0_rel x0 x2)) (LM.loop ([4, 9, 10, 11], [], [2, 3, 4], B_lines_ints_0) s) := by
 refine sim_loop M XE (lines_ints_0_inv x0 x2) (lines_ints_0_rel x0 x2) ?_ _ _ _ hk ⟨g0, rfl, hg0⟩
 clear hk hg0
 rintro S hS hw hw8 R hR ⟨out, x3⟩ env hp ⟨g0, he, hg0⟩
 change (⟨env, hp⟩ : PF.St) = lines_ints_0_st x0 x2 out x3 g0 at he
 cases he
 show Sim (lines_ints_0_step x0 x2 out x3) _ _
 unfold lines_ints_0_step
 simp only [hw]
 refine au (.ite Iff.rfl (fun hc => ?_) fun hc => ?_)
 ·refine au ?_
  refine Sim.ix (by simp) (fun z0 hz0 => ?_)
  refine au ?_
  refine Sim.go (idx_map _ hz0) ?_
  refine au (cE hR (lines_number_sim _) fun r0 => ?_)
  refine au (.iteB (fun hc2 => ?_) fun hc2 => ?_)
  ·refine au ?_
   exact Sim.ret ⟨_, rfl, ⟨_, _, rfl, Mg.full, hg0⟩⟩
  ·refine au ?_
   refine Sim.kl hS (ys := List.map iav [r0.1]) rfl ?_
   refine au ?_
   first | (refine Sim.goB (may_map (by intro _; rfl) hg0 _) ?_) | skip
   refine au ?_
   first | (refine Sim.goB (okE_map (by intro _; exact ⟨rfl, rfl, rfl⟩) _) ?_) | skip
   refine au ?_
   first | refine Sim.ite (by simp) (fun _ => ?_) (fun _ => Sim.no) | refine Sim.guard (fun _ => ?_)
   refine au ?_
   refine Sim.kl hS (ys := List.map iav (out ++ [r0.1])) (by simp) ?_
   refine au ?_
   exact Sim.ret ⟨_, _, rfl, rfl, ⟨_, rfl, Mg.own⟩⟩
 ·refine au ?_
  exact Sim.ret ⟨_, rfl, ⟨_, rfl, hg0⟩⟩
noncomputable def lines_ints (l0 : List (List UInt8)) : Option ((List Int) × Bool) :=
 (lines_ints_0 l0 (List.length l0 : Int) ([] : List Int) 0).bind fun r2 =>
 Sum.elim
  (fun r3 =>
    some (r3.1, r3.2.1))
  (fun r4 =>
    some (r4, true))
  r2
theorem lines_ints_sim (l0 : List (List UInt8)) : Sim (lines_ints l0) (Gv fun r q => q = (.tup [lav iav r.1, .bool r.2], [])) (LM.call n_lines_ints [lav sav l0] []) := by
 unfold lines_ints
 refine sim_evR M XE rfl rfl fun S hS hw hw8 R hR => ?_
 refine au ?_
 refine Sim.ki hS (m := (List.length l0 : Int)) (by simp) ?_
 refine au ?_
 refine Sim.callL hR (lines_ints_0_sim l0 (List.length l0 : Int) ([] : List Int) 0 .full Mg.full _ rfl) ?_
 rintro r2 q hr
 rcases r2 with r3 | r4
 ·obtain ⟨g2, g3, rfl, hg2, hg3⟩ := hr
  exact au (.ret ⟨_, rfl, rfl⟩)
 ·obtain ⟨g4, rfl, hg4⟩ := hr
  exact au (.ret ⟨_, rfl, rfl⟩)
noncomputable def lines_word_0_step (s2 : List UInt8) (out : List Int) (i0 : Int) : Option (((List Int) × Int) ⊕ (((List UInt8) × Bool × (List Int)) ⊕ ((List Int)))) :=
 if (wr (i0 + 1)) < (List.length s2 : Int) then
  (idx? s2 i0).bind fun b0 =>
  (strings_IndexByte ([48, 49, 50, 51, 52, 53, 54, 55, 56, 57, 97, 98, 99, 100, 101, 102] : List UInt8) (UInt8.toNat b0 : Int)).bind fun r0 =>
  (idx? s2 (wr (i0 + 1))).bind fun b2 =>
  (strings_IndexByte ([48, 49, 50, 51, 52, 53, 54, 55, 56, 57, 97, 98, 99, 100, 101, 102] : List UInt8) (UInt8.toNat b2 : Int)).bind fun r2 =>
  if r0 < 0 then
   some (.inr (.inl (([] : List UInt8), false, out)))
  else
   if r2 < 0 then
    some (.inr (.inl (([] : List UInt8), false, out)))
   else
    if List.length out + List.length [(w8 (orI .i64 (shlI .i64 r0 4) r2))] ≤ lenMax then
     some (.inl ((out ++ [(w8 (orI .i64 (shlI .i64 r0 4) r2))]), (wr (i0 + 2))))
    else none
 else
  some (.inr (.inr out))
noncomputable def lines_word_0 (s2 : List UInt8) (out : List Int) (i0 : Int) : Option (((List UInt8) × Bool × (List Int)) ⊕ ((List Int))) :=
 loopO (fun s : (List Int) × Int => lines_word_0_step s2 s.1 s.2) (out, i0)
@[reducible] def lines_word_0_st (s2 : List UInt8) (out : List Int) (i0 : Int) (g0 : Gr) : PF.St := ⟨[(0, .str s2), (4, .lst g0 (List.map u8av out)), (5, iav i0)], []⟩
def lines_word_0_rel (s2 : List UInt8) (r : (((List UInt8) × Bool × (List Int)) ⊕ ((List Int)))) (q : ES) : Prop := (fun r (q : ES) => Sum.elim (fun r => (fun r (q : ES) => ∃ g0', q = (Ex.ret, ⟨[(0, .str s2), (2, .str r.1), (3, .bool r.2.1), (4, .lst g0' (List.map u8av r.2.2))], []⟩) ∧ Mg 1 g0') r q) (fun r => (fun r (q : ES) => ∃ g0', q = ((.exit 0), ⟨[(0, .str s2), (2, .undef), (3, .undef), (4, .lst g0' (List.map u8av r))], []⟩) ∧ Mg 1 g0') r q) r) r q
def lines_word_0_inv (s2 : List UInt8) (v : (List Int) × Int) (e : PF.St) : Prop := ∃ g0, e = lines_word_0_st s2 v.1 v.2 g0 ∧ Mg 1 g0
theorem lines_word_0_sim (s2 : List UInt8) (out : List Int) (i0 : Int) (g0 : Gr) (hg0 : Mg 1 g0) (s : PF.St) (hk : keep [0, 4, 5] [] s = some (lines_word_0_st s2 out i0 g0)) : Sim (lines_word_0 s2 out i0) (Gv (lines_word_0_rel s2)) (LM.loop ([0, 4, 5], [], [0, 2, 3, 4], B_lines_word_0) s) := by
 refine sim_loop M XE (lines_word_0_inv s2) (lines_word_0_rel s2) ?_ _ _ _ hk ⟨g0, rfl, hg0⟩
 clear hk hg0
 rintro S hS hw hw8 R hR ⟨out, i0⟩ env hp ⟨g0, he, hg0⟩
 change (⟨env, hp⟩ : PF.St) = lines_word_0_st s2 out i0 g0 at he
 cases he
 show Sim (lines_word_0_step s2 out i0) _ _
 unfold lines_word_0_step
 simp only [hw, hw8]
 refine au (.ite Iff.rfl (fun hc2 => ?_) fun hc2 => ?_)
 ·refine au ?_
  refine Sim.ix rfl (fun b0 hb0 => ?_)
  refine au ?_
  refine Sim.go hb0 ?_
  refine au (cE hR (strings_IndexByte_sim _ _) fun r0 => ?_)
  refine au ?_
  refine Sim.ix rfl (fun b2 hb2 => ?_)
  refine au ?_
  refine Sim.go hb2 ?_
  refine au (cE hR (strings_IndexByte_sim _ _) fun r2 => ?_)
  refine au (.ite Iff.rfl (fun hc3 => ?_) fun hc3 => ?_)
  ·refine au ?_
   exact Sim.ret ⟨_, rfl, ⟨_, rfl, hg0⟩⟩
  ·refine au (.ite Iff.rfl (fun hc4 => ?_) fun hc4 => ?_)
   ·refine au ?_
    exact Sim.ret ⟨_, rfl, ⟨_, rfl, hg0⟩⟩
   ·refine au ?_
    refine Sim.kl hS (ys := List.map u8av [(S.w8 (orI .i64 (shlI .i64 r0 4) r2))]) rfl ?_
    refine au ?_
    first | (refine Sim.goB (may_map (by intro _; rfl) hg0 _) ?_) | skip
    refine au ?_
    first | (refine Sim.goB (okE_map (by intro _; exact ⟨rfl, rfl, rfl⟩) _) ?_) | skip
    refine au ?_
    first | refine Sim.ite (by simp) (fun _ => ?_) (fun _ => Sim.no) | refine Sim.guard (fun _ => ?_)
    refine au ?_
    refine Sim.kl hS (ys := List.map u8av (out ++ [(S.w8 (orI .i64 (shlI .i64 r0 4) r2))])) (by simp) ?_
    refine au ?_
    exact Sim.ret ⟨_, _, rfl, rfl, ⟨_, rfl, Mg.own⟩⟩
 ·refine au ?_
  exact Sim.ret ⟨_, rfl, ⟨_, rfl, hg0⟩⟩
noncomputable def lines_word (s0 : List UInt8) : Option ((List UInt8) × Bool) :=
 if s0 = ([45] : List UInt8) then
  some (([] : List UInt8), true)
 else
  if 0 ≤ (wr (Int.tdiv (List.length s0 : Int) 2)) ∧ (wr (Int.tdiv (List.length s0 : Int) 2)) ≤ lenMax then
   (lines_word_0 s0 ([] : List Int) 0).bind fun r3 =>
   Sum.elim
    (fun r4 =>
      some (r4.1, r4.2.1))
    (fun r5 =>
      if 0 < (List.length s0 : Int) then
       some ((bytesOf r5), (decide ((Int.tmod (List.length s0 : Int) 2) = 0)))
      else
       some ((bytesOf r5), false))
    r3
  else none
theorem lines_word_sim (s0 : List UInt8) : Sim (lines_word s0) (Gv fun r q => q = (.tup [.str r.1, .bool r.2], [])) (LM.call n_lines_word [.str s0] []) := by
 unfold lines_word
 refine sim_evR M XE rfl rfl fun S hS hw hw8 R hR => ?_
 simp only [hw]
 refine au (.ite Iff.rfl (fun hc => ?_) fun hc => ?_)
 ·exact au (.ret ⟨_, rfl, rfl⟩)
 ·refine au ?_
  first | refine Sim.ite Iff.rfl (fun _ => ?_) (fun _ => Sim.no) | refine Sim.guard (fun _ => ?_)
  refine au ?_
  refine Sim.callL hR (lines_word_0_sim s0 ([] : List Int) 0 (.own 1) Mg.own _ rfl) ?_
  rintro r3 q hr
  rcases r3 with r4 | r5
  ·obtain ⟨g2, rfl, hg2⟩ := hr
   exact au (.ret ⟨_, rfl, rfl⟩)
  ·obtain ⟨g3, rfl, hg3⟩ := hr
   refine au ?_
   refine Sim.go (bytes_mapM _) ?_
   refine au (.ite Iff.rfl (fun hc5 => ?_) fun hc5 => ?_)
   ·exact au (.ret ⟨_, rfl, rfl⟩)
   ·exact au (.ret ⟨_, rfl, rfl⟩)
noncomputable def lr_kind (o0 : Rdr) : Option ((List UInt8) × Rdr) :=
 if (List.length o0.f_lines : Int) ≤ o0.f_at then
  some (([] : List UInt8), o0)
 else
  (idx? o0.f_lines o0.f_at).bind fun z0 =>
  (strings_Cut z0 ([32] : List UInt8)).bind fun r0 =>
  some (r0.1, o0)
theorem lr_kind_sim (o0 : Rdr) (g0 : Gr) (g2 : Gr) (g3 : Gr) (g4 : Gr) (hg4 : Mg 1 g4) (g5 : Gr) (hg5 : Mg 6 g5) : Sim (lr_kind o0) (Gv fun r q => ∃ g0, ∃ g1, ∃ g2, ∃ g3, ∃ g4, q = (.str r.1, [⟨true, (Rc r.2 g0 g1 g2 g3 g4)⟩]) ∧ Mg 1 g3 ∧ Mg 6 g4) (LM.call n_lr_kind [.ptr 0 0] [⟨true, (Rc o0 g0 g2 g3 g4 g5)⟩]) := by
 unfold lr_kind
 refine sim_evR M XE rfl rfl fun S hS hw hw8 R hR => ?_
 refine au ?_
 refine Sim.ki hS (m := (List.length o0.f_lines : Int)) (by simp) ?_
 refine au (.ite Iff.rfl (fun hc => ?_) fun hc => ?_)
 ·refine au ?_
  exact Sim.ret ⟨_, rfl, ⟨_, _, _, _, _, rfl, hg4, hg5⟩⟩
 ·refine au ?_
  refine Sim.ix (by simp) (fun z0 hz0 => ?_)
  refine au ?_
  refine Sim.go (idx_map _ hz0) ?_
  refine au (cE hR (strings_Cut_sim _ _) fun r0 => ?_)
  refine au ?_
  exact Sim.ret ⟨_, rfl, ⟨_, _, _, _, _, rfl, hg4, hg5⟩⟩
noncomputable def lr_words (o0 : Rdr) : Option ((List (List UInt8)) × Rdr) :=
 (idx? o0.f_lines o0.f_at).bind fun z0 =>
 (strings_Split z0 ([32] : List UInt8)).bind fun r0 =>
 if 0 ≤ (1 : Int) ∧ (1 : Int) ≤ ((List.length r0) : Nat) then
  some ((List.drop (Int.toNat 1) r0), o0)
 else none
theorem lr_words_sim (o0 : Rdr) (g0 : Gr) (g2 : Gr) (g3 : Gr) (g4 : Gr) (hg4 : Mg 1 g4) (g5 : Gr) (hg5 : Mg 6 g5) : Sim (lr_words o0) (Gv fun r q => ∃ g0, ∃ g1, ∃ g2, ∃ g3, ∃ g4, q = (lav sav r.1, [⟨true, (Rc r.2 g0 g1 g2 g3 g4)⟩]) ∧ Mg 1 g3 ∧ Mg 6 g4) (LM.call n_lr_words [.ptr 0 0] [⟨true, (Rc o0 g0 g2 g3 g4 g5)⟩]) := by
 unfold lr_words
 refine sim_evR M XE rfl rfl fun S hS hw hw8 R hR => ?_
 refine au ?_
 refine Sim.ix (by simp) (fun z0 hz0 => ?_)
 refine au ?_
 refine Sim.go (idx_map _ hz0) ?_
 refine au (cE hR (strings_Split_sim _ _) fun r0 => ?_)
 refine au ?_
 first | (refine Sim.goB (headE_map (by intro _; rfl) _) ?_) | skip
 refine au ?_
 refine Sim.kn hS (m := (List.length r0)) (by simp) ?_
 refine au ?_
 first | refine Sim.ite Iff.rfl (fun _ => ?_) (fun _ => Sim.no) | refine Sim.guard (fun _ => ?_)
 refine au ?_
 refine Sim.kl hS (ys := List.map sav (List.drop (Int.toNat 1) r0)) (by simp only [PF.cut, List.map_drop, List.map_take]) ?_
 refine au ?_
 exact Sim.ret ⟨_, rfl, ⟨_, _, _, _, _, rfl, hg4, hg5⟩⟩
noncomputable def lr_list (head : List UInt8) (o0 : Rdr) (o2 : List Int) : Option (Bool × Rdr × (List Int)) :=
 (lr_kind o0).bind fun r0 =>
 if r0.1 ≠ head then
  some (true, r0.2, o2)
 else
  (lr_words r0.2).bind fun r2 =>
  (lines_ints r2.1).bind fun r3 =>
  if (!r3.2) = true then
   some (false, r2.2, o2)
  else
   if (List.length r3.1 : Int) = 0 then
    some (false, r2.2, o2)
   else
    some (true, (Rdr.mk r2.2.f_lines (wr (r2.2.f_at + 1)) r2.2.f_s), r3.1)
theorem lr_list_sim (head : List UInt8) (o0 : Rdr) (o2 : List Int) (g0 : Gr) (g2 : Gr) (g3 : Gr) (g4 : Gr) (hg4 : Mg 1 g4) (g5 : Gr) (hg5 : Mg 6 g5) (g6 : Gr) (hg6 : Mg 1 g6) : Sim (lr_list head o0 o2) (Gv fun r q => ∃ g0, ∃ g1, ∃ g2, ∃ g3, ∃ g4, ∃ g5, q = (.bool r.1, [⟨true, (Rc r.2.1 g0 g1 g2 g3 g4)⟩, ⟨true, [.lst g5 (List.map iav r.2.2)]⟩]) ∧ Mg 1 g3 ∧ Mg 6 g4) (LM.call n_lr_list [.ptr 0 0, .str head, .ptr 1 0] [⟨true, (Rc o0 g0 g2 g3 g4 g5)⟩, ⟨true, [.lst g6 (List.map iav o2)]⟩]) := by
 unfold lr_list
 refine sim_evR M XE rfl rfl fun S hS hw hw8 R hR => ?_
 simp only [hw]
 refine au ?_
 refine Sim.callR hR (lr_kind_sim _ g0 g2 g3 g4 hg4 g5 hg5) ?_
 rintro r0 q ⟨g7, g8, g9, g10, g11, rfl, hg10, hg11⟩
 refine au (.ite Iff.rfl (fun hc => ?_) fun hc => ?_)
 ·refine au ?_
  exact Sim.ret ⟨_, rfl, ⟨_, _, _, _, _, _, rfl, hg10, hg11⟩⟩
 ·refine au ?_
  refine Sim.callR hR (lr_words_sim _ g7 g8 g9 g10 hg10 g11 hg11) ?_
  rintro r2 q ⟨g12, g13, g14, g15, g16, rfl, hg15, hg16⟩
  refine au (cE hR (lines_ints_sim _) fun r3 => ?_)
  refine au (.iteB (fun hc2 => ?_) fun hc2 => ?_)
  ·refine au ?_
   exact Sim.ret ⟨_, rfl, ⟨_, _, _, _, _, _, rfl, hg15, hg16⟩⟩
  ·refine au ?_
   refine Sim.ki hS (m := (List.length r3.1 : Int)) (by simp) ?_
   refine au (.ite Iff.rfl (fun hc3 => ?_) fun hc3 => ?_)
   ·refine au ?_
    exact Sim.ret ⟨_, rfl, ⟨_, _, _, _, _, _, rfl, hg15, hg16⟩⟩
   ·refine au ?_
    exact Sim.ret ⟨_, rfl, ⟨_, _, _, _, _, _, rfl, hg15, hg16⟩⟩
noncomputable def lr_list_v1 (head : List UInt8) (o0 : Rdr) : Option (Bool × Rdr) :=
 (lr_kind o0).bind fun r0 =>
 if r0.1 ≠ head then
  some (true, r0.2)
 else
  (lr_words r0.2).bind fun r2 =>
  (lines_ints r2.1).bind fun r3 =>
  if (!r3.2) = true then
   some (false, r2.2)
  else
   if (List.length r3.1 : Int) = 0 then
    some (false, r2.2)
   else
    some (true, (Rdr.mk r2.2.f_lines (wr (r2.2.f_at + 1)) (GScript.mk (GConf.mk r2.2.f_s.Conf.N r2.2.f_s.Conf.F r2.2.f_s.Conf.D r2.2.f_s.Conf.Period r2.2.f_s.Conf.Rate r2.2.f_s.Conf.Drift r2.2.f_s.Conf.Offset r2.2.f_s.Conf.Slot r2.2.f_s.Conf.Mod r2.2.f_s.Conf.Fresh r3.1) r2.2.f_s.Faulty r2.2.f_s.Images r2.2.f_s.Ticks)))
theorem lr_list_v1_sim (head : List UInt8) (o0 : Rdr) (g0 : Gr) (g2 : Gr) (g3 : Gr) (g4 : Gr) (hg4 : Mg 1 g4) (g5 : Gr) (hg5 : Mg 6 g5) : Sim (lr_list_v1 head o0) (Gv fun r q => ∃ g0, ∃ g1, ∃ g2, ∃ g3, ∃ g4, q = (.bool r.1, [⟨true, (Rc r.2 g0 g1 g2 g3 g4)⟩]) ∧ Mg 1 g3 ∧ Mg 6 g4) (LM.call n_lr_list [.ptr 0 0, .str head, .ptr 0 12] [⟨true, (Rc o0 g0 g2 g3 g4 g5)⟩]) := by
 unfold lr_list_v1
 refine sim_evR M XE rfl rfl fun S hS hw hw8 R hR => ?_
 simp only [hw]
 refine au ?_
 refine Sim.callR hR (lr_kind_sim _ g0 g2 g3 g4 hg4 g5 hg5) ?_
 rintro r0 q ⟨g6, g7, g8, g9, g10, rfl, hg9, hg10⟩
 refine au (.ite Iff.rfl (fun hc => ?_) fun hc => ?_)
 ·refine au ?_
  exact Sim.ret ⟨_, rfl, ⟨_, _, _, _, _, rfl, hg9, hg10⟩⟩
 ·refine au ?_
  refine Sim.callR hR (lr_words_sim _ g6 g7 g8 g9 hg9 g10 hg10) ?_
  rintro r2 q ⟨g11, g12, g13, g14, g15, rfl, hg14, hg15⟩
  refine au (cE hR (lines_ints_sim _) fun r3 => ?_)
  refine au (.iteB (fun hc2 => ?_) fun hc2 => ?_)
  ·refine au ?_
   exact Sim.ret ⟨_, rfl, ⟨_, _, _, _, _, rfl, hg14, hg15⟩⟩
  ·refine au ?_
   refine Sim.ki hS (m := (List.length r3.1 : Int)) (by simp) ?_
   refine au (.ite Iff.rfl (fun hc3 => ?_) fun hc3 => ?_)
   ·refine au ?_
    exact Sim.ret ⟨_, rfl, ⟨_, _, _, _, _, rfl, hg14, hg15⟩⟩
   ·refine au ?_
    exact Sim.ret ⟨_, rfl, ⟨_, _, _, _, _, rfl, hg14, hg15⟩⟩
noncomputable def lr_list_v2 (head : List UInt8) (o0 : Rdr) : Option (Bool × Rdr) :=
 (lr_kind o0).bind fun r0 =>
 if r0.1 ≠ head then
  some (true, r0.2)
 else
  (lr_words r0.2).bind fun r2 =>
  (lines_ints r2.1).bind fun r3 =>
  if (!r3.2) = true then
   some (false, r2.2)
  else
   if (List.length r3.1 : Int) = 0 then
    some (false, r2.2)
   else
    some (true, (Rdr.mk r2.2.f_lines (wr (r2.2.f_at + 1)) (GScript.mk r2.2.f_s.Conf r3.1 r2.2.f_s.Images r2.2.f_s.Ticks)))
theorem lr_list_v2_sim (head : List UInt8) (o0 : Rdr) (g0 : Gr) (g2 : Gr) (g3 : Gr) (g4 : Gr) (hg4 : Mg 1 g4) (g5 : Gr) (hg5 : Mg 6 g5) : Sim (lr_list_v2 head o0) (Gv fun r q => ∃ g0, ∃ g1, ∃ g2, ∃ g3, ∃ g4, q = (.bool r.1, [⟨true, (Rc r.2 g0 g1 g2 g3 g4)⟩]) ∧ Mg 1 g3 ∧ Mg 6 g4) (LM.call n_lr_list [.ptr 0 0, .str head, .ptr 0 13] [⟨true, (Rc o0 g0 g2 g3 g4 g5)⟩]) := by
 unfold lr_list_v2
 refine sim_evR M XE rfl rfl fun S hS hw hw8 R hR => ?_
 simp only [hw]
 refine au ?_
 refine Sim.callR hR (lr_kind_sim _ g0 g2 g3 g4 hg4 g5 hg5) ?_
 rintro r0 q ⟨g6, g7, g8, g9, g10, rfl, hg9, hg10⟩
 refine au (.ite Iff.rfl (fun hc => ?_) fun hc => ?_)
 ·refine au ?_
  exact Sim.ret ⟨_, rfl, ⟨_, _, _, _, _, rfl, hg9, hg10⟩⟩
 ·refine au ?_
  refine Sim.callR hR (lr_words_sim _ g6 g7 g8 g9 hg9 g10 hg10) ?_
  rintro r2 q ⟨g11, g12, g13, g14, g15, rfl, hg14, hg15⟩
  refine au (cE hR (lines_ints_sim _) fun r3 => ?_)
  refine au (.iteB (fun hc2 => ?_) fun hc2 => ?_)
  ·refine au ?_
   exact Sim.ret ⟨_, rfl, ⟨_, _, _, _, _, rfl, hg14, hg15⟩⟩
  ·refine au ?_
   refine Sim.ki hS (m := (List.length r3.1 : Int)) (by simp) ?_
   refine au (.ite Iff.rfl (fun hc3 => ?_) fun hc3 => ?_)
   ·refine au ?_
    exact Sim.ret ⟨_, rfl, ⟨_, _, _, _, _, rfl, hg14, hg15⟩⟩
   ·refine au ?_
    exact Sim.ret ⟨_, rfl, ⟨_, _, _, _, _, rfl, hg14, hg15⟩⟩
noncomputable def lr_head_1 (x0 : List Int) (b0 : List UInt8) (o0 : Rdr) : Option Rdr :=
 if List.length o0.f_s.Images + List.length [b0] ≤ lenMax then
  some (Rdr.mk o0.f_lines o0.f_at (GScript.mk o0.f_s.Conf o0.f_s.Faulty (o0.f_s.Images ++ [b0]) o0.f_s.Ticks))
 else none
theorem lr_head_1_sim (x0 : List Int) (b0 : List UInt8) (o0 : Rdr) (g0 : Gr) (g2 : Gr) (g3 : Gr) (g4 : Gr) (hg4 : Mg 1 g4) (g5 : Gr) (hg5 : Mg 6 g5) : Sim (lr_head_1 x0 b0 o0) (Gv fun r q => ∃ g0, ∃ g1, ∃ g2, ∃ g3, ∃ g4, q = (.tup [], [⟨true, [.ptr 1 0]⟩, ⟨true, (Rc r g0 g1 g2 g3 g4)⟩]) ∧ Mg 1 g3 ∧ Mg 6 g4) (LM.call n_lr_head_1 [lav iav x0, .str b0, .ptr 0 0] [⟨true, [.ptr 1 0]⟩, ⟨true, (Rc o0 g0 g2 g3 g4 g5)⟩]) := by
 unfold lr_head_1
 refine sim_evR M XE rfl rfl fun S hS hw hw8 R hR => ?_
 refine au ?_
 refine Sim.kl hS rfl ?_
 refine au ?_
 refine Sim.kl hS (ys := List.map sav [b0]) rfl ?_
 refine au ?_
 first | (refine Sim.goB (may_map (by intro _; rfl) hg4 _) ?_) | skip
 refine au ?_
 first | (refine Sim.goB (okE_map (by intro _; exact ⟨rfl, rfl, rfl⟩) _) ?_) | skip
 refine au ?_
 first | refine Sim.ite (by simp) (fun _ => ?_) (fun _ => Sim.no) | refine Sim.guard (fun _ => ?_)
 refine au ?_
 refine Sim.kl hS (ys := List.map sav (o0.f_s.Images ++ [b0])) (by simp) ?_
 refine au ?_
 exact Sim.ret ⟨_, rfl, ⟨_, _, _, _, _, rfl, Mg.own, hg5⟩⟩
noncomputable def lr_ev_0_step (head2 : List UInt8) (n2 : Int) (o2 : Rdr) : Option ((Rdr) ⊕ ((Bool × Rdr) ⊕ (Rdr))) :=
 (lr_kind o2).bind fun r0 =>
 if r0.1 = head2 then
  (lr_words r0.2).bind fun r2 =>
  if (List.length r2.1 : Int) ≠ (wr (n2 + 1)) then
   some (.inr (.inl (false, r2.2)))
  else
   if 0 ≤ n2 ∧ n2 ≤ ((List.length r2.1) : Nat) then
    (lines_ints (List.take (Int.toNat n2) r2.1)).bind fun r3 =>
    (idx? r2.1 n2).bind fun z0 =>
    (lines_word z0).bind fun r4 =>
    if (!r3.2) = true then
     some (.inr (.inl (false, r2.2)))
    else
     if (!r4.2) = true then
      some (.inr (.inl (false, r2.2)))
     else
      (lr_head_1 r3.1 r4.1 r2.2).bind fun r5 =>
      some (.inl (Rdr.mk r5.f_lines (wr (r5.f_at + 1)) r5.f_s))
   else none
 else
  some (.inr (.inr r0.2))
noncomputable def lr_ev_0 (head2 : List UInt8) (n2 : Int) (o2 : Rdr) : Option ((Bool × Rdr) ⊕ (Rdr)) :=
 loopO (fun s : Rdr => lr_ev_0_step head2 n2 s) o2
@[reducible] def lr_ev_0_st (head2 : List UInt8) (n2 : Int) (o2 : Rdr) (g6 : Gr) (g7 : Gr) (g8 : Gr) (g9 : Gr) (g10 : Gr) : PF.St := ⟨[(0, .ptr 0 0), (1, .str head2), (2, iav n2), (3, .fn n_lr_head_1 [.ptr 1 0])], [(0, ⟨true, (Rc o2 g6 g7 g8 g9 g10)⟩), (1, ⟨true, [.ptr 0 0]⟩)]⟩
def lr_ev_0_rel (head2 : List UInt8) (n2 : Int) (r : ((Bool × Rdr) ⊕ (Rdr))) (q : ES) : Prop := (fun r (q : ES) => Sum.elim (fun r => (fun r (q : ES) => ∃ g0', ∃ g1', ∃ g2', ∃ g3', ∃ g4', q = (Ex.ret, ⟨[(8, .bool r.1)], [(0, ⟨true, [.lst g0' (List.map sav r.2.f_lines), iav r.2.f_at, iav r.2.f_s.Conf.N, iav r.2.f_s.Conf.F, iav r.2.f_s.Conf.D, iav r.2.f_s.Conf.Period, iav r.2.f_s.Conf.Rate, iav r.2.f_s.Conf.Drift, iav r.2.f_s.Conf.Offset, iav r.2.f_s.Conf.Slot, iav r.2.f_s.Conf.Mod, iav r.2.f_s.Conf.Fresh, .lst g1' (List.map iav r.2.f_s.Conf.Table), .lst g2' (List.map iav r.2.f_s.Faulty), .lst g3' (List.map sav r.2.f_s.Images), .lst g4' (List.map GTick.av r.2.f_s.Ticks)]⟩), (1, ⟨true, [.ptr 0 0]⟩)]⟩) ∧ Mg 1 g3' ∧ Mg 6 g4') r q) (fun r => (fun r (q : ES) => ∃ g0', ∃ g1', ∃ g2', ∃ g3', ∃ g4', q = ((.exit 0), ⟨[(8, .undef)], [(0, ⟨true, [.lst g0' (List.map sav r.f_lines), iav r.f_at, iav r.f_s.Conf.N, iav r.f_s.Conf.F, iav r.f_s.Conf.D, iav r.f_s.Conf.Period, iav r.f_s.Conf.Rate, iav r.f_s.Conf.Drift, iav r.f_s.Conf.Offset, iav r.f_s.Conf.Slot, iav r.f_s.Conf.Mod, iav r.f_s.Conf.Fresh, .lst g1' (List.map iav r.f_s.Conf.Table), .lst g2' (List.map iav r.f_s.Faulty), .lst g3' (List.map sav r.f_s.Images), .lst g4' (List.map GTick.av r.f_s.Ticks)]⟩), (1, ⟨true, [.ptr 0 0]⟩)]⟩) ∧ Mg 1 g3' ∧ Mg 6 g4') r q) r) r q
def lr_ev_0_inv (head2 : List UInt8) (n2 : Int) (v : Rdr) (e : PF.St) : Prop := ∃ g6, ∃ g7, ∃ g8, ∃ g9, ∃ g10, e = lr_ev_0_st head2 n2 v g6 g7 g8 g9 g10 ∧ Mg 1 g9 ∧ Mg 6 g10
theorem lr_ev_0_sim (head2 : List UInt8) (n2 : Int) (o2 : Rdr) (g6 : Gr) (g7 : Gr) (g8 : Gr) (g9 : Gr) (hg9 : Mg 1 g9) (g10 : Gr) (hg10 : Mg 6 g10) (s : PF.St) (hk : keep [0, 1, 2, 3] [] s = some (lr_ev_0_st head2 n2 o2 g6 g7 g8 g9 g10)) : Sim (lr_ev_0 head2 n2 o2) (Gv (lr_ev_0_rel head2 n2)) (LM.loop ([0, 1, 2, 3], [], [8], B_lr_ev_0) s) := by
 refine sim_loop M XE (lr_ev_0_inv head2 n2) (lr_ev_0_rel head2 n2) ?_ _ _ _ hk ⟨g6, g7, g8, g9, g10, rfl, hg9, hg10⟩
 clear hk hg9 hg10
 rintro S hS hw hw8 R hR o2 env hp ⟨g6, g7, g8, g9, g10, he, hg9, hg10⟩
 change (⟨env, hp⟩ : PF.St) = lr_ev_0_st head2 n2 o2 g6 g7 g8 g9 g10 at he
 cases he
 show Sim (lr_ev_0_step head2 n2 o2) _ _
 unfold lr_ev_0_step
 simp only [hw]
 refine au ?_
 refine Sim.callR hR (lr_kind_sim _ g6 g7 g8 g9 hg9 g10 hg10) ?_
 rintro r0 q ⟨g11, g12, g13, g14, g15, rfl, hg14, hg15⟩
 refine au (.ite Iff.rfl (fun hc => ?_) fun hc => ?_)
 ·refine au ?_
  refine Sim.callR hR (lr_words_sim _ g11 g12 g13 g14 hg14 g15 hg15) ?_
  rintro r2 q ⟨g16, g17, g18, g19, g20, rfl, hg19, hg20⟩
  refine au ?_
  refine Sim.ki hS (m := (List.length r2.1 : Int)) (by simp) ?_
  refine au (.ite Iff.rfl (fun hc2 => ?_) fun hc2 => ?_)
  ·refine au ?_
   exact Sim.ret ⟨_, rfl, ⟨_, _, _, _, _, rfl, hg19, hg20⟩⟩
  ·refine au ?_
   first | (refine Sim.goB (headE_map (by intro _; rfl) _) ?_) | skip
   refine au ?_
   refine Sim.kn hS (m := (List.length r2.1)) (by simp) ?_
   refine au ?_
   first | refine Sim.ite Iff.rfl (fun _ => ?_) (fun _ => Sim.no) | refine Sim.guard (fun _ => ?_)
   refine au ?_
   refine Sim.kl hS (ys := List.map sav (List.take (Int.toNat n2) r2.1)) (by simp only [PF.cut, List.map_drop, List.map_take]) ?_
   refine au (cE hR (lines_ints_sim _) fun r3 => ?_)
   refine au ?_
   refine Sim.ix (by simp) (fun z0 hz0 => ?_)
   refine au ?_
   refine Sim.go (idx_map _ hz0) ?_
   refine au (cE hR (lines_word_sim _) fun r4 => ?_)
   refine au (.iteB (fun hc3 => ?_) fun hc3 => ?_)
   ·refine au ?_
    exact Sim.ret ⟨_, rfl, ⟨_, _, _, _, _, rfl, hg19, hg20⟩⟩
   ·refine au (.iteB (fun hc4 => ?_) fun hc4 => ?_)
    ·refine au ?_
     exact Sim.ret ⟨_, rfl, ⟨_, _, _, _, _, rfl, hg19, hg20⟩⟩
    ·refine au ?_
     refine Sim.callR hR (lr_head_1_sim _ _ _ g16 g17 g18 g19 hg19 g20 hg20) ?_
     rintro r5 q ⟨g21, g22, g23, g24, g25, rfl, hg24, hg25⟩
     refine au ?_
     exact Sim.ret ⟨_, _, rfl, rfl, ⟨_, _, _, _, _, rfl, hg24, hg25⟩⟩
 ·refine au ?_
  exact Sim.ret ⟨_, rfl, ⟨_, _, _, _, _, rfl, hg14, hg15⟩⟩
noncomputable def lr_events (head : List UInt8) (n0 : Int) (o0 : Rdr) : Option (Bool × Rdr) :=
 (lr_ev_0 head n0 o0).bind fun r6 =>
 Sum.elim
  (fun r7 =>
    some (r7.1, r7.2))
  (fun r8 =>
    some (true, r8))
  r6
theorem lr_ev_sim (head : List UInt8) (n0 : Int) (o0 : Rdr) (g0 : Gr) (g2 : Gr) (g3 : Gr) (g4 : Gr) (hg4 : Mg 1 g4) (g5 : Gr) (hg5 : Mg 6 g5) : Sim (lr_events head n0 o0) (Gv fun r q => ∃ g0, ∃ g1, ∃ g2, ∃ g3, ∃ g4, q = (.bool r.1, [⟨true, (Rc r.2 g0 g1 g2 g3 g4)⟩, ⟨true, [.ptr 0 0]⟩]) ∧ Mg 1 g3 ∧ Mg 6 g4) (LM.call n_lr_events [.ptr 0 0, .str head, iav n0, .fn n_lr_head_1 [.ptr 1 0]] [⟨true, (Rc o0 g0 g2 g3 g4 g5)⟩, ⟨true, [.ptr 0 0]⟩]) := by
 unfold lr_events
 refine sim_evR M XE rfl rfl fun S hS hw hw8 R hR => ?_
 refine au ?_
 refine Sim.callL hR (lr_ev_0_sim head n0 o0 g0 g2 g3 g4 hg4 g5 hg5 _ rfl) ?_
 rintro r6 q hr
 rcases r6 with r7 | r8
 ·obtain ⟨g26, g27, g28, g29, g30, rfl, hg29, hg30⟩ := hr
  refine au ?_
  exact Sim.ret ⟨_, rfl, ⟨_, _, _, _, _, rfl, hg29, hg30⟩⟩
 ·obtain ⟨g31, g32, g33, g34, g35, rfl, hg34, hg35⟩ := hr
  refine au ?_
  exact Sim.ret ⟨_, rfl, ⟨_, _, _, _, _, rfl, hg34, hg35⟩⟩
noncomputable def lr_head (o0 : Rdr) : Option (Bool × Rdr) :=
 (lr_kind o0).bind fun r0 =>
 if r0.1 ≠ ([99, 111, 110, 102] : List UInt8) then
  some (false, r0.2)
 else
  (lr_list ([99, 111, 110, 102] : List UInt8) r0.2 ([] : List Int)).bind fun r2 =>
  if (!r2.1) = true then
   some (false, r2.2.1)
  else
   if (List.length r2.2.2 : Int) ≠ 10 then
    some (false, (Rdr.mk r2.2.1.f_lines (wr (r2.2.1.f_at - 1)) r2.2.1.f_s))
   else
    (idx? r2.2.2 0).bind fun z0 =>
    (idx? r2.2.2 1).bind fun z2 =>
    (idx? r2.2.2 2).bind fun z3 =>
    (idx? r2.2.2 3).bind fun z4 =>
    (idx? r2.2.2 4).bind fun z5 =>
    (idx? r2.2.2 5).bind fun z6 =>
    (idx? r2.2.2 6).bind fun z7 =>
    (idx? r2.2.2 7).bind fun z8 =>
    (idx? r2.2.2 8).bind fun z9 =>
    (idx? r2.2.2 9).bind fun z10 =>
    (lr_kind (Rdr.mk r2.2.1.f_lines r2.2.1.f_at (GScript.mk (GConf.mk z0 z2 z3 z4 z5 z6 z7 z8 z9 z10 ([] : List Int)) r2.2.1.f_s.Faulty r2.2.1.f_s.Images r2.2.1.f_s.Ticks))).bind fun r3 =>
    if r3.1 ≠ ([116, 97, 98, 108, 101] : List UInt8) then
     some (false, r3.2)
    else
     (lr_list_v1 ([116, 97, 98, 108, 101] : List UInt8) r3.2).bind fun r4 =>
     if (!r4.1) = true then
      some (false, r4.2)
     else
      (lr_list_v2 ([102, 97, 117, 108, 116, 121] : List UInt8) r4.2).bind fun r5 =>
      if (!r5.1) = true then
       some (false, r5.2)
      else
       (lr_events ([105, 109, 97, 103, 101] : List UInt8) 0 r5.2).bind fun r6 =>
       some (r6.1, r6.2)
theorem lr_head_sim (o0 : Rdr) (g0 : Gr) (g2 : Gr) (g3 : Gr) (g4 : Gr) (hg4 : Mg 1 g4) (g5 : Gr) (hg5 : Mg 6 g5) : Sim (lr_head o0) (Gv fun r q => ∃ g0, ∃ g1, ∃ g2, ∃ g3, ∃ g4, q = (.bool r.1, [⟨true, (Rc r.2 g0 g1 g2 g3 g4)⟩]) ∧ Mg 1 g3 ∧ Mg 6 g4) (LM.call n_lr_head [.ptr 0 0] [⟨true, (Rc o0 g0 g2 g3 g4 g5)⟩]) := by
 unfold lr_head
 refine sim_evR M XE rfl rfl fun S hS hw hw8 R hR => ?_
 simp only [hw]
 refine au ?_
 refine Sim.callR hR (lr_kind_sim _ g0 g2 g3 g4 hg4 g5 hg5) ?_
 rintro r0 q ⟨g6, g7, g8, g9, g10, rfl, hg9, hg10⟩
 refine au (.ite Iff.rfl (fun hc => ?_) fun hc => ?_)
 ·refine au ?_
  exact Sim.ret ⟨_, rfl, ⟨_, _, _, _, _, rfl, hg9, hg10⟩⟩
 ·refine au ?_
  refine Sim.callR hR (lr_list_sim _ _ _ g6 g7 g8 g9 hg9 g10 hg10 .full Mg.full) ?_
  rintro r2 q ⟨g11, g12, g13, g14, g15, g16, rfl, hg14, hg15⟩
  refine au (.iteB (fun hc2 => ?_) fun hc2 => ?_)
  ·refine au ?_
   exact Sim.ret ⟨_, rfl, ⟨_, _, _, _, _, rfl, hg14, hg15⟩⟩
  ·refine au ?_
   refine Sim.ki hS (m := (List.length r2.2.2 : Int)) (by simp) ?_
   refine au (.ite Iff.rfl (fun hc3 => ?_) fun hc3 => ?_)
   ·refine au ?_
    exact Sim.ret ⟨_, rfl, ⟨_, _, _, _, _, rfl, hg14, hg15⟩⟩
   ·refine au ?_
    refine Sim.ix (by simp) (fun z0 hz0 => ?_)
    refine au ?_
    refine Sim.go (idx_map _ hz0) ?_
    refine au ?_
    refine Sim.ix (by simp) (fun z2 hz2 => ?_)
    refine au ?_
    refine Sim.go (idx_map _ hz2) ?_
    refine au ?_
    refine Sim.ix (by simp) (fun z3 hz3 => ?_)
    refine au ?_
    refine Sim.go (idx_map _ hz3) ?_
    refine au ?_
    refine Sim.ix (by simp) (fun z4 hz4 => ?_)
    refine au ?_
    refine Sim.go (idx_map _ hz4) ?_
    refine au ?_
    refine Sim.ix (by simp) (fun z5 hz5 => ?_)
    refine au ?_
    refine Sim.go (idx_map _ hz5) ?_
    refine au ?_
    refine Sim.ix (by simp) (fun z6 hz6 => ?_)
    refine au ?_
    refine Sim.go (idx_map _ hz6) ?_
    refine au ?_
    refine Sim.ix (by simp) (fun z7 hz7 => ?_)
    refine au ?_
    refine Sim.go (idx_map _ hz7) ?_
    refine au ?_
    refine Sim.ix (by simp) (fun z8 hz8 => ?_)
    refine au ?_
    refine Sim.go (idx_map _ hz8) ?_
    refine au ?_
    refine Sim.ix (by simp) (fun z9 hz9 => ?_)
    refine au ?_
    refine Sim.go (idx_map _ hz9) ?_
    refine au ?_
    refine Sim.ix (by simp) (fun z10 hz10 => ?_)
    refine au ?_
    refine Sim.go (idx_map _ hz10) ?_
    refine au ?_
    refine Sim.callR hR (lr_kind_sim _ g11 .full g13 g14 hg14 g15 hg15) ?_
    rintro r3 q ⟨g17, g18, g19, g20, g21, rfl, hg20, hg21⟩
    refine au (.ite Iff.rfl (fun hc4 => ?_) fun hc4 => ?_)
    ·refine au ?_
     exact Sim.ret ⟨_, rfl, ⟨_, _, _, _, _, rfl, hg20, hg21⟩⟩
    ·refine au ?_
     refine Sim.callR hR (lr_list_v1_sim _ _ g17 g18 g19 g20 hg20 g21 hg21) ?_
     rintro r4 q ⟨g22, g23, g24, g25, g26, rfl, hg25, hg26⟩
     refine au (.iteB (fun hc5 => ?_) fun hc5 => ?_)
     ·refine au ?_
      exact Sim.ret ⟨_, rfl, ⟨_, _, _, _, _, rfl, hg25, hg26⟩⟩
     ·refine au ?_
      refine Sim.callR hR (lr_list_v2_sim _ _ g22 g23 g24 g25 hg25 g26 hg26) ?_
      rintro r5 q ⟨g27, g28, g29, g30, g31, rfl, hg30, hg31⟩
      refine au (.iteB (fun hc6 => ?_) fun hc6 => ?_)
      ·refine au ?_
       exact Sim.ret ⟨_, rfl, ⟨_, _, _, _, _, rfl, hg30, hg31⟩⟩
      ·refine au ?_
       refine Sim.callR hR (lr_ev_sim _ _ _ g27 g28 g29 g30 hg30 g31 hg31) ?_
       rintro r6 q ⟨g32, g33, g34, g35, g36, rfl, hg35, hg36⟩
       refine au ?_
       exact Sim.ret ⟨_, rfl, ⟨_, _, _, _, _, rfl, hg35, hg36⟩⟩
noncomputable def lr_list_v3 (head : List UInt8) (o0 : Rdr) (o2 : GTick) : Option (Bool × Rdr × GTick) :=
 (lr_kind o0).bind fun r0 =>
 if r0.1 ≠ head then
  some (true, r0.2, o2)
 else
  (lr_words r0.2).bind fun r2 =>
  (lines_ints r2.1).bind fun r3 =>
  if (!r3.2) = true then
   some (false, r2.2, o2)
  else
   if (List.length r3.1 : Int) = 0 then
    some (false, r2.2, o2)
   else
    some (true, (Rdr.mk r2.2.f_lines (wr (r2.2.f_at + 1)) r2.2.f_s), (GTick.mk r3.1 o2.Delays o2.Sends o2.Bursts o2.Strays o2.Writes))
theorem lr_list_v3_sim (head : List UInt8) (o0 : Rdr) (o2 : GTick) (g0 : Gr) (g2 : Gr) (g3 : Gr) (g4 : Gr) (hg4 : Mg 1 g4) (g5 : Gr) (hg5 : Mg 6 g5) (g6 : Gr) (g7 : Gr) (g8 : Gr) (hg8 : Mg 4 g8) (g9 : Gr) (hg9 : Mg 2 g9) (g10 : Gr) (hg10 : Mg 4 g10) (g11 : Gr) (hg11 : Mg 2 g11) : Sim (lr_list_v3 head o0 o2) (Gv fun r q => ∃ g0, ∃ g1, ∃ g2, ∃ g3, ∃ g4, ∃ g5, ∃ g6, ∃ g7, ∃ g8, ∃ g9, ∃ g10, q = (.bool r.1, [⟨true, (Rc r.2.1 g0 g1 g2 g3 g4)⟩, ⟨true, [.lst g5 (List.map iav r.2.2.Units), .lst g6 (List.map iav r.2.2.Delays), .lst g7 (List.map GSend.av r.2.2.Sends), .lst g8 (List.map GBurst.av r.2.2.Bursts), .lst g9 (List.map GSend.av r.2.2.Strays), .lst g10 (List.map GWrite.av r.2.2.Writes)]⟩]) ∧ Mg 1 g3 ∧ Mg 6 g4 ∧ Mg 4 g7 ∧ Mg 2 g8 ∧ Mg 4 g9 ∧ Mg 2 g10) (LM.call n_lr_list [.ptr 0 0, .str head, .ptr 1 0] [⟨true, (Rc o0 g0 g2 g3 g4 g5)⟩, ⟨true, [.lst g6 (List.map iav o2.Units), .lst g7 (List.map iav o2.Delays), .lst g8 (List.map GSend.av o2.Sends), .lst g9 (List.map GBurst.av o2.Bursts), .lst g10 (List.map GSend.av o2.Strays), .lst g11 (List.map GWrite.av o2.Writes)]⟩]) := by
 unfold lr_list_v3
 refine sim_evR M XE rfl rfl fun S hS hw hw8 R hR => ?_
 simp only [hw]
 refine au ?_
 refine Sim.callR hR (lr_kind_sim _ g0 g2 g3 g4 hg4 g5 hg5) ?_
 rintro r0 q ⟨g12, g13, g14, g15, g16, rfl, hg15, hg16⟩
 refine au (.ite Iff.rfl (fun hc => ?_) fun hc => ?_)
 ·refine au ?_
  exact Sim.ret ⟨_, rfl, ⟨_, _, _, _, _, _, _, _, _, _, _, rfl, hg15, hg16, hg8, hg9, hg10, hg11⟩⟩
 ·refine au ?_
  refine Sim.callR hR (lr_words_sim _ g12 g13 g14 g15 hg15 g16 hg16) ?_
  rintro r2 q ⟨g17, g18, g19, g20, g21, rfl, hg20, hg21⟩
  refine au (cE hR (lines_ints_sim _) fun r3 => ?_)
  refine au (.iteB (fun hc2 => ?_) fun hc2 => ?_)
  ·refine au ?_
   exact Sim.ret ⟨_, rfl, ⟨_, _, _, _, _, _, _, _, _, _, _, rfl, hg20, hg21, hg8, hg9, hg10, hg11⟩⟩
  ·refine au ?_
   refine Sim.ki hS (m := (List.length r3.1 : Int)) (by simp) ?_
   refine au (.ite Iff.rfl (fun hc3 => ?_) fun hc3 => ?_)
   ·refine au ?_
    exact Sim.ret ⟨_, rfl, ⟨_, _, _, _, _, _, _, _, _, _, _, rfl, hg20, hg21, hg8, hg9, hg10, hg11⟩⟩
   ·refine au ?_
    exact Sim.ret ⟨_, rfl, ⟨_, _, _, _, _, _, _, _, _, _, _, rfl, hg20, hg21, hg8, hg9, hg10, hg11⟩⟩
noncomputable def lr_list_v4 (head : List UInt8) (o0 : Rdr) (o2 : GTick) : Option (Bool × Rdr × GTick) :=
 (lr_kind o0).bind fun r0 =>
 if r0.1 ≠ head then
  some (true, r0.2, o2)
 else
  (lr_words r0.2).bind fun r2 =>
  (lines_ints r2.1).bind fun r3 =>
  if (!r3.2) = true then
   some (false, r2.2, o2)
  else
   if (List.length r3.1 : Int) = 0 then
    some (false, r2.2, o2)
   else
    some (true, (Rdr.mk r2.2.f_lines (wr (r2.2.f_at + 1)) r2.2.f_s), (GTick.mk o2.Units r3.1 o2.Sends o2.Bursts o2.Strays o2.Writes))
theorem lr_list_v4_sim (head : List UInt8) (o0 : Rdr) (o2 : GTick) (g0 : Gr) (g2 : Gr) (g3 : Gr) (g4 : Gr) (hg4 : Mg 1 g4) (g5 : Gr) (hg5 : Mg 6 g5) (g6 : Gr) (g7 : Gr) (g8 : Gr) (hg8 : Mg 4 g8) (g9 : Gr) (hg9 : Mg 2 g9) (g10 : Gr) (hg10 : Mg 4 g10) (g11 : Gr) (hg11 : Mg 2 g11) : Sim (lr_list_v4 head o0 o2) (Gv fun r q => ∃ g0, ∃ g1, ∃ g2, ∃ g3, ∃ g4, ∃ g5, ∃ g6, ∃ g7, ∃ g8, ∃ g9, ∃ g10, q = (.bool r.1, [⟨true, (Rc r.2.1 g0 g1 g2 g3 g4)⟩, ⟨true, [.lst g5 (List.map iav r.2.2.Units), .lst g6 (List.map iav r.2.2.Delays), .lst g7 (List.map GSend.av r.2.2.Sends), .lst g8 (List.map GBurst.av r.2.2.Bursts), .lst g9 (List.map GSend.av r.2.2.Strays), .lst g10 (List.map GWrite.av r.2.2.Writes)]⟩]) ∧ Mg 1 g3 ∧ Mg 6 g4 ∧ Mg 4 g7 ∧ Mg 2 g8 ∧ Mg 4 g9 ∧ Mg 2 g10) (LM.call n_lr_list [.ptr 0 0, .str head, .ptr 1 1] [⟨true, (Rc o0 g0 g2 g3 g4 g5)⟩, ⟨true, [.lst g6 (List.map iav o2.Units), .lst g7 (List.map iav o2.Delays), .lst g8 (List.map GSend.av o2.Sends), .lst g9 (List.map GBurst.av o2.Bursts), .lst g10 (List.map GSend.av o2.Strays), .lst g11 (List.map GWrite.av o2.Writes)]⟩]) := by
 unfold lr_list_v4
 refine sim_evR M XE rfl rfl fun S hS hw hw8 R hR => ?_
 simp only [hw]
 refine au ?_
 refine Sim.callR hR (lr_kind_sim _ g0 g2 g3 g4 hg4 g5 hg5) ?_
 rintro r0 q ⟨g12, g13, g14, g15, g16, rfl, hg15, hg16⟩
 refine au (.ite Iff.rfl (fun hc => ?_) fun hc => ?_)
 ·refine au ?_
  exact Sim.ret ⟨_, rfl, ⟨_, _, _, _, _, _, _, _, _, _, _, rfl, hg15, hg16, hg8, hg9, hg10, hg11⟩⟩
 ·refine au ?_
  refine Sim.callR hR (lr_words_sim _ g12 g13 g14 g15 hg15 g16 hg16) ?_
  rintro r2 q ⟨g17, g18, g19, g20, g21, rfl, hg20, hg21⟩
  refine au (cE hR (lines_ints_sim _) fun r3 => ?_)
  refine au (.iteB (fun hc2 => ?_) fun hc2 => ?_)
  ·refine au ?_
   exact Sim.ret ⟨_, rfl, ⟨_, _, _, _, _, _, _, _, _, _, _, rfl, hg20, hg21, hg8, hg9, hg10, hg11⟩⟩
  ·refine au ?_
   refine Sim.ki hS (m := (List.length r3.1 : Int)) (by simp) ?_
   refine au (.ite Iff.rfl (fun hc3 => ?_) fun hc3 => ?_)
   ·refine au ?_
    exact Sim.ret ⟨_, rfl, ⟨_, _, _, _, _, _, _, _, _, _, _, rfl, hg20, hg21, hg8, hg9, hg10, hg11⟩⟩
   ·refine au ?_
    exact Sim.ret ⟨_, rfl, ⟨_, _, _, _, _, _, _, _, _, _, _, rfl, hg20, hg21, hg8, hg9, hg10, hg11⟩⟩
noncomputable def lr_tick_1 (o0 : GTick) : Option GTick :=
 some o0
theorem lr_tick_1_sim (o0 : GTick) (g0 : Gr) (g2 : Gr) (g3 : Gr) (hg3 : Mg 4 g3) (g4 : Gr) (hg4 : Mg 2 g4) (g5 : Gr) (hg5 : Mg 4 g5) (g6 : Gr) (hg6 : Mg 2 g6) : Sim (lr_tick_1 o0) (Gv fun r q => ∃ g0, ∃ g1, ∃ g2, ∃ g3, ∃ g4, ∃ g5, q = (.fn n_lr_tick_1_1 [.ptr 1 0], [⟨true, [.lst g0 (List.map iav r.Units), .lst g1 (List.map iav r.Delays), .lst g2 (List.map GSend.av r.Sends), .lst g3 (List.map GBurst.av r.Bursts), .lst g4 (List.map GSend.av r.Strays), .lst g5 (List.map GWrite.av r.Writes)]⟩, ⟨true, [.ptr 0 2]⟩]) ∧ Mg 4 g2 ∧ Mg 2 g3 ∧ Mg 4 g4 ∧ Mg 2 g5) (LM.call n_lr_tick_1 [.ptr 0 2] [⟨true, [.lst g0 (List.map iav o0.Units), .lst g2 (List.map iav o0.Delays), .lst g3 (List.map GSend.av o0.Sends), .lst g4 (List.map GBurst.av o0.Bursts), .lst g5 (List.map GSend.av o0.Strays), .lst g6 (List.map GWrite.av o0.Writes)]⟩]) := by
 unfold lr_tick_1
 refine sim_evR M XE rfl rfl fun S hS hw hw8 R hR => ?_
 refine au ?_
 exact Sim.ret ⟨_, rfl, ⟨_, _, _, _, _, _, rfl, hg3, hg4, hg5, hg6⟩⟩
noncomputable def lr_tick_1_1 (l0 : List Int) (b0 : List UInt8) (o0 : GTick) : Option GTick :=
 (idx? l0 0).bind fun z0 =>
 (idx? l0 1).bind fun z2 =>
 (idx? l0 2).bind fun z3 =>
 if List.length o0.Sends + List.length [(GSend.mk z0 z2 z3 b0)] ≤ lenMax then
  some (GTick.mk o0.Units o0.Delays (o0.Sends ++ [(GSend.mk z0 z2 z3 b0)]) o0.Bursts o0.Strays o0.Writes)
 else none
theorem lr_tick_1_1_sim (l0 : List Int) (b0 : List UInt8) (o0 : GTick) (g0 : Gr) (g2 : Gr) (g3 : Gr) (hg3 : Mg 4 g3) (g4 : Gr) (hg4 : Mg 2 g4) (g5 : Gr) (hg5 : Mg 4 g5) (g6 : Gr) (hg6 : Mg 2 g6) : Sim (lr_tick_1_1 l0 b0 o0) (Gv fun r q => ∃ g0, ∃ g1, ∃ g2, ∃ g3, ∃ g4, ∃ g5, q = (.tup [], [⟨true, [.ptr 1 2]⟩, ⟨true, [.lst g0 (List.map iav r.Units), .lst g1 (List.map iav r.Delays), .lst g2 (List.map GSend.av r.Sends), .lst g3 (List.map GBurst.av r.Bursts), .lst g4 (List.map GSend.av r.Strays), .lst g5 (List.map GWrite.av r.Writes)]⟩]) ∧ Mg 4 g2 ∧ Mg 2 g3 ∧ Mg 4 g4 ∧ Mg 2 g5) (LM.call n_lr_tick_1_1 [lav iav l0, .str b0, .ptr 0 0] [⟨true, [.ptr 1 2]⟩, ⟨true, [.lst g0 (List.map iav o0.Units), .lst g2 (List.map iav o0.Delays), .lst g3 (List.map GSend.av o0.Sends), .lst g4 (List.map GBurst.av o0.Bursts), .lst g5 (List.map GSend.av o0.Strays), .lst g6 (List.map GWrite.av o0.Writes)]⟩]) := by
 unfold lr_tick_1_1
 refine sim_evR M XE rfl rfl fun S hS hw hw8 R hR => ?_
 refine au ?_
 refine Sim.kl hS rfl ?_
 refine au ?_
 refine Sim.ix (by simp) (fun z0 hz0 => ?_)
 refine au ?_
 refine Sim.go (idx_map _ hz0) ?_
 refine au ?_
 refine Sim.ix (by simp) (fun z2 hz2 => ?_)
 refine au ?_
 refine Sim.go (idx_map _ hz2) ?_
 refine au ?_
 refine Sim.ix (by simp) (fun z3 hz3 => ?_)
 refine au ?_
 refine Sim.go (idx_map _ hz3) ?_
 refine au ?_
 refine Sim.kl hS (ys := List.map GSend.av [(GSend.mk z0 z2 z3 b0)]) rfl ?_
 refine au ?_
 first | (refine Sim.goB (may_map (by intro _; rfl) hg3 _) ?_) | skip
 refine au ?_
 first | (refine Sim.goB (okE_map (by intro _; exact ⟨rfl, rfl, rfl⟩) _) ?_) | skip
 refine au ?_
 first | refine Sim.ite (by simp) (fun _ => ?_) (fun _ => Sim.no) | refine Sim.guard (fun _ => ?_)
 refine au ?_
 refine Sim.kl hS (ys := List.map GSend.av (o0.Sends ++ [(GSend.mk z0 z2 z3 b0)])) (by simp) ?_
 refine au ?_
 exact Sim.ret ⟨_, rfl, ⟨_, _, _, _, _, _, rfl, Mg.own, hg4, hg5, hg6⟩⟩
noncomputable def lr_ev_v1_0_step (head2 : List UInt8) (n2 : Int) (o3 : Rdr) (o4 : GTick) : Option ((Rdr × GTick) ⊕ ((Bool × Rdr × GTick) ⊕ (Rdr × GTick))) :=
 (lr_kind o3).bind fun r0 =>
 if r0.1 = head2 then
  (lr_words r0.2).bind fun r2 =>
  if (List.length r2.1 : Int) ≠ (wr (n2 + 1)) then
   some (.inr (.inl (false, r2.2, o4)))
  else
   if 0 ≤ n2 ∧ n2 ≤ ((List.length r2.1) : Nat) then
    (lines_ints (List.take (Int.toNat n2) r2.1)).bind fun r3 =>
    (idx? r2.1 n2).bind fun z0 =>
    (lines_word z0).bind fun r4 =>
    if (!r3.2) = true then
     some (.inr (.inl (false, r2.2, o4)))
    else
     if (!r4.2) = true then
      some (.inr (.inl (false, r2.2, o4)))
     else
      (lr_tick_1_1 r3.1 r4.1 o4).bind fun r5 =>
      some (.inl ((Rdr.mk r2.2.f_lines (wr (r2.2.f_at + 1)) r2.2.f_s), r5))
   else none
 else
  some (.inr (.inr (r0.2, o4)))
noncomputable def lr_ev_v1_0 (head2 : List UInt8) (n2 : Int) (o3 : Rdr) (o4 : GTick) : Option ((Bool × Rdr × GTick) ⊕ (Rdr × GTick)) :=
 loopO (fun s : Rdr × GTick => lr_ev_v1_0_step head2 n2 s.1 s.2) (o3, o4)
@[reducible] def lr_ev_v1_0_st (head2 : List UInt8) (n2 : Int) (o3 : Rdr) (o4 : GTick) (g12 : Gr) (g13 : Gr) (g14 : Gr) (g15 : Gr) (g16 : Gr) (g17 : Gr) (g18 : Gr) (g19 : Gr) (g20 : Gr) (g21 : Gr) (g22 : Gr) : PF.St := ⟨[(0, .ptr 0 0), (1, .str head2), (2, iav n2), (3, .fn n_lr_tick_1_1 [.ptr 1 0])], [(0, ⟨true, (Rc o3 g12 g13 g14 g15 g16)⟩), (1, ⟨true, [.ptr 2 2]⟩), (2, ⟨true, [.lst g17 (List.map iav o4.Units), .lst g18 (List.map iav o4.Delays), .lst g19 (List.map GSend.av o4.Sends), .lst g20 (List.map GBurst.av o4.Bursts), .lst g21 (List.map GSend.av o4.Strays), .lst g22 (List.map GWrite.av o4.Writes)]⟩)]⟩
def lr_ev_v1_0_rel (head2 : List UInt8) (n2 : Int) (r : ((Bool × Rdr × GTick) ⊕ (Rdr × GTick))) (q : ES) : Prop := (fun r (q : ES) => Sum.elim (fun r => (fun r (q : ES) => ∃ g0', ∃ g1', ∃ g2', ∃ g3', ∃ g4', ∃ g5', ∃ g6', ∃ g7', ∃ g8', ∃ g9', ∃ g10', q = (Ex.ret, ⟨[(8, .bool r.1)], [(0, ⟨true, [.lst g0' (List.map sav r.2.1.f_lines), iav r.2.1.f_at, iav r.2.1.f_s.Conf.N, iav r.2.1.f_s.Conf.F, iav r.2.1.f_s.Conf.D, iav r.2.1.f_s.Conf.Period, iav r.2.1.f_s.Conf.Rate, iav r.2.1.f_s.Conf.Drift, iav r.2.1.f_s.Conf.Offset, iav r.2.1.f_s.Conf.Slot, iav r.2.1.f_s.Conf.Mod, iav r.2.1.f_s.Conf.Fresh, .lst g1' (List.map iav r.2.1.f_s.Conf.Table), .lst g2' (List.map iav r.2.1.f_s.Faulty), .lst g3' (List.map sav r.2.1.f_s.Images), .lst g4' (List.map GTick.av r.2.1.f_s.Ticks)]⟩), (1, ⟨true, [.ptr 2 2]⟩), (2, ⟨true, [.lst g5' (List.map iav r.2.2.Units), .lst g6' (List.map iav r.2.2.Delays), .lst g7' (List.map GSend.av r.2.2.Sends), .lst g8' (List.map GBurst.av r.2.2.Bursts), .lst g9' (List.map GSend.av r.2.2.Strays), .lst g10' (List.map GWrite.av r.2.2.Writes)]⟩)]⟩) ∧ Mg 1 g3' ∧ Mg 6 g4' ∧ Mg 4 g7' ∧ Mg 2 g8' ∧ Mg 4 g9' ∧ Mg 2 g10') r q) (fun r => (fun r (q : ES) => ∃ g0', ∃ g1', ∃ g2', ∃ g3', ∃ g4', ∃ g5', ∃ g6', ∃ g7', ∃ g8', ∃ g9', ∃ g10', q = ((.exit 0), ⟨[(8, .undef)], [(0, ⟨true, [.lst g0' (List.map sav r.1.f_lines), iav r.1.f_at, iav r.1.f_s.Conf.N, iav r.1.f_s.Conf.F, iav r.1.f_s.Conf.D, iav r.1.f_s.Conf.Period, iav r.1.f_s.Conf.Rate, iav r.1.f_s.Conf.Drift, iav r.1.f_s.Conf.Offset, iav r.1.f_s.Conf.Slot, iav r.1.f_s.Conf.Mod, iav r.1.f_s.Conf.Fresh, .lst g1' (List.map iav r.1.f_s.Conf.Table), .lst g2' (List.map iav r.1.f_s.Faulty), .lst g3' (List.map sav r.1.f_s.Images), .lst g4' (List.map GTick.av r.1.f_s.Ticks)]⟩), (1, ⟨true, [.ptr 2 2]⟩), (2, ⟨true, [.lst g5' (List.map iav r.2.Units), .lst g6' (List.map iav r.2.Delays), .lst g7' (List.map GSend.av r.2.Sends), .lst g8' (List.map GBurst.av r.2.Bursts), .lst g9' (List.map GSend.av r.2.Strays), .lst g10' (List.map GWrite.av r.2.Writes)]⟩)]⟩) ∧ Mg 1 g3' ∧ Mg 6 g4' ∧ Mg 4 g7' ∧ Mg 2 g8' ∧ Mg 4 g9' ∧ Mg 2 g10') r q) r) r q
def lr_ev_v1_0_inv (head2 : List UInt8) (n2 : Int) (v : Rdr × GTick) (e : PF.St) : Prop := ∃ g12, ∃ g13, ∃ g14, ∃ g15, ∃ g16, ∃ g17, ∃ g18, ∃ g19, ∃ g20, ∃ g21, ∃ g22, e = lr_ev_v1_0_st head2 n2 v.1 v.2 g12 g13 g14 g15 g16 g17 g18 g19 g20 g21 g22 ∧ Mg 1 g15 ∧ Mg 6 g16 ∧ Mg 4 g19 ∧ Mg 2 g20 ∧ Mg 4 g21 ∧ Mg 2 g22
theorem lr_ev_v1_0_sim (head2 : List UInt8) (n2 : Int) (o3 : Rdr) (o4 : GTick) (g12 : Gr) (g13 : Gr) (g14 : Gr) (g15 : Gr) (hg15 : Mg 1 g15) (g16 : Gr) (hg16 : Mg 6 g16) (g17 : Gr) (g18 : Gr) (g19 : Gr) (hg19 : Mg 4 g19) (g20 : Gr) (hg20 : Mg 2 g20) (g21 : Gr) (hg21 : Mg 4 g21) (g22 : Gr) (hg22 : Mg 2 g22) (s : PF.St) (hk : keep [0, 1, 2, 3] [] s = some (lr_ev_v1_0_st head2 n2 o3 o4 g12 g13 g14 g15 g16 g17 g18 g19 g20 g21 g22)) : Sim (lr_ev_v1_0 head2 n2 o3 o4) (Gv (lr_ev_v1_0_rel head2 n2)) (LM.loop ([0, 1, 2, 3], [], [8], B_lr_ev_0) s) := by
 refine sim_loop M XE (lr_ev_v1_0_inv head2 n2) (lr_ev_v1_0_rel head2 n2) ?_ _ _ _ hk ⟨g12, g13, g14, g15, g16, g17, g18, g19, g20, g21, g22, rfl, hg15, hg16, hg19, hg20, hg21, hg22⟩
 clear hk hg15 hg16 hg19 hg20 hg21 hg22
 rintro S hS hw hw8 R hR ⟨o3, o4⟩ env hp ⟨g12, g13, g14, g15, g16, g17, g18, g19, g20, g21, g22, he, hg15, hg16, hg19, hg20, hg21, hg22⟩
 change (⟨env, hp⟩ : PF.St) = lr_ev_v1_0_st head2 n2 o3 o4 g12 g13 g14 g15 g16 g17 g18 g19 g20 g21 g22 at he
 cases he
 show Sim (lr_ev_v1_0_step head2 n2 o3 o4) _ _
 unfold lr_ev_v1_0_step
 simp only [hw]
 refine au ?_
 refine Sim.callR hR (lr_kind_sim _ g12 g13 g14 g15 hg15 g16 hg16) ?_
 rintro r0 q ⟨g23, g24, g25, g26, g27, rfl, hg26, hg27⟩
 refine au (.ite Iff.rfl (fun hc => ?_) fun hc => ?_)
 ·refine au ?_
  refine Sim.callR hR (lr_words_sim _ g23 g24 g25 g26 hg26 g27 hg27) ?_
  rintro r2 q ⟨g28, g29, g30, g31, g32, rfl, hg31, hg32⟩
  refine au ?_
  refine Sim.ki hS (m := (List.length r2.1 : Int)) (by simp) ?_
  refine au (.ite Iff.rfl (fun hc2 => ?_) fun hc2 => ?_)
  ·refine au ?_
   exact Sim.ret ⟨_, rfl, ⟨_, _, _, _, _, _, _, _, _, _, _, rfl, hg31, hg32, hg19, hg20, hg21, hg22⟩⟩
  ·refine au ?_
   first | (refine Sim.goB (headE_map (by intro _; rfl) _) ?_) | skip
   refine au ?_
   refine Sim.kn hS (m := (List.length r2.1)) (by simp) ?_
   refine au ?_
   first | refine Sim.ite Iff.rfl (fun _ => ?_) (fun _ => Sim.no) | refine Sim.guard (fun _ => ?_)
   refine au ?_
   refine Sim.kl hS (ys := List.map sav (List.take (Int.toNat n2) r2.1)) (by simp only [PF.cut, List.map_drop, List.map_take]) ?_
   refine au (cE hR (lines_ints_sim _) fun r3 => ?_)
   refine au ?_
   refine Sim.ix (by simp) (fun z0 hz0 => ?_)
   refine au ?_
   refine Sim.go (idx_map _ hz0) ?_
   refine au (cE hR (lines_word_sim _) fun r4 => ?_)
   refine au (.iteB (fun hc3 => ?_) fun hc3 => ?_)
   ·refine au ?_
    exact Sim.ret ⟨_, rfl, ⟨_, _, _, _, _, _, _, _, _, _, _, rfl, hg31, hg32, hg19, hg20, hg21, hg22⟩⟩
   ·refine au (.iteB (fun hc4 => ?_) fun hc4 => ?_)
    ·refine au ?_
     exact Sim.ret ⟨_, rfl, ⟨_, _, _, _, _, _, _, _, _, _, _, rfl, hg31, hg32, hg19, hg20, hg21, hg22⟩⟩
    ·refine au ?_
     refine Sim.callR hR (lr_tick_1_1_sim _ _ _ g17 g18 g19 hg19 g20 hg20 g21 hg21 g22 hg22) ?_
     rintro r5 q ⟨g33, g34, g35, g36, g37, g38, rfl, hg35, hg36, hg37, hg38⟩
     refine au ?_
     exact Sim.ret ⟨_, _, rfl, rfl, ⟨_, _, _, _, _, _, _, _, _, _, _, rfl, hg31, hg32, hg35, hg36, hg37, hg38⟩⟩
 ·refine au ?_
  exact Sim.ret ⟨_, rfl, ⟨_, _, _, _, _, _, _, _, _, _, _, rfl, hg26, hg27, hg19, hg20, hg21, hg22⟩⟩
noncomputable def lr_ev_v1 (head : List UInt8) (n0 : Int) (o0 : Rdr) (o2 : GTick) : Option (Bool × Rdr × GTick) :=
 (lr_ev_v1_0 head n0 o0 o2).bind fun r6 =>
 Sum.elim
  (fun r7 =>
    some (r7.1, r7.2.1, r7.2.2))
  (fun r8 =>
    some (true, r8.1, r8.2))
  r6
theorem lr_ev_v1_sim (head : List UInt8) (n0 : Int) (o0 : Rdr) (o2 : GTick) (g0 : Gr) (g2 : Gr) (g3 : Gr) (g4 : Gr) (hg4 : Mg 1 g4) (g5 : Gr) (hg5 : Mg 6 g5) (g6 : Gr) (g7 : Gr) (g8 : Gr) (hg8 : Mg 4 g8) (g9 : Gr) (hg9 : Mg 2 g9) (g10 : Gr) (hg10 : Mg 4 g10) (g11 : Gr) (hg11 : Mg 2 g11) : Sim (lr_ev_v1 head n0 o0 o2) (Gv fun r q => ∃ g0, ∃ g1, ∃ g2, ∃ g3, ∃ g4, ∃ g5, ∃ g6, ∃ g7, ∃ g8, ∃ g9, ∃ g10, q = (.bool r.1, [⟨true, (Rc r.2.1 g0 g1 g2 g3 g4)⟩, ⟨true, [.ptr 2 2]⟩, ⟨true, [.lst g5 (List.map iav r.2.2.Units), .lst g6 (List.map iav r.2.2.Delays), .lst g7 (List.map GSend.av r.2.2.Sends), .lst g8 (List.map GBurst.av r.2.2.Bursts), .lst g9 (List.map GSend.av r.2.2.Strays), .lst g10 (List.map GWrite.av r.2.2.Writes)]⟩]) ∧ Mg 1 g3 ∧ Mg 6 g4 ∧ Mg 4 g7 ∧ Mg 2 g8 ∧ Mg 4 g9 ∧ Mg 2 g10) (LM.call n_lr_events [.ptr 0 0, .str head, iav n0, .fn n_lr_tick_1_1 [.ptr 1 0]] [⟨true, (Rc o0 g0 g2 g3 g4 g5)⟩, ⟨true, [.ptr 2 2]⟩, ⟨true, [.lst g6 (List.map iav o2.Units), .lst g7 (List.map iav o2.Delays), .lst g8 (List.map GSend.av o2.Sends), .lst g9 (List.map GBurst.av o2.Bursts), .lst g10 (List.map GSend.av o2.Strays), .lst g11 (List.map GWrite.av o2.Writes)]⟩]) := by
 unfold lr_ev_v1
 refine sim_evR M XE rfl rfl fun S hS hw hw8 R hR => ?_
 refine au ?_
 refine Sim.callL hR (lr_ev_v1_0_sim head n0 o0 o2 g0 g2 g3 g4 hg4 g5 hg5 g6 g7 g8 hg8 g9 hg9 g10 hg10 g11 hg11 _ rfl) ?_
 rintro r6 q hr
 rcases r6 with r7 | r8
 ·obtain ⟨g39, g40, g41, g42, g43, g44, g45, g46, g47, g48, g49, rfl, hg42, hg43, hg46, hg47, hg48, hg49⟩ := hr
  refine au ?_
  exact Sim.ret ⟨_, rfl, ⟨_, _, _, _, _, _, _, _, _, _, _, rfl, hg42, hg43, hg46, hg47, hg48, hg49⟩⟩
 ·obtain ⟨g50, g51, g52, g53, g54, g55, g56, g57, g58, g59, g60, rfl, hg53, hg54, hg57, hg58, hg59, hg60⟩ := hr
  refine au ?_
  exact Sim.ret ⟨_, rfl, ⟨_, _, _, _, _, _, _, _, _, _, _, rfl, hg53, hg54, hg57, hg58, hg59, hg60⟩⟩
noncomputable def lr_tick_2 (l0 : List Int) (b0 : List UInt8) (o0 : GTick) : Option GTick :=
 (idx? l0 0).bind fun z0 =>
 if List.length o0.Bursts + List.length [(GBurst.mk z0 b0)] ≤ lenMax then
  some (GTick.mk o0.Units o0.Delays o0.Sends (o0.Bursts ++ [(GBurst.mk z0 b0)]) o0.Strays o0.Writes)
 else none
theorem lr_tick_2_sim (l0 : List Int) (b0 : List UInt8) (o0 : GTick) (g0 : Gr) (g2 : Gr) (g3 : Gr) (hg3 : Mg 4 g3) (g4 : Gr) (hg4 : Mg 2 g4) (g5 : Gr) (hg5 : Mg 4 g5) (g6 : Gr) (hg6 : Mg 2 g6) : Sim (lr_tick_2 l0 b0 o0) (Gv fun r q => ∃ g0, ∃ g1, ∃ g2, ∃ g3, ∃ g4, ∃ g5, q = (.tup [], [⟨true, [.lst g0 (List.map iav r.Units), .lst g1 (List.map iav r.Delays), .lst g2 (List.map GSend.av r.Sends), .lst g3 (List.map GBurst.av r.Bursts), .lst g4 (List.map GSend.av r.Strays), .lst g5 (List.map GWrite.av r.Writes)]⟩]) ∧ Mg 4 g2 ∧ Mg 2 g3 ∧ Mg 4 g4 ∧ Mg 2 g5) (LM.call n_lr_tick_2 [lav iav l0, .str b0, .ptr 0 0] [⟨true, [.lst g0 (List.map iav o0.Units), .lst g2 (List.map iav o0.Delays), .lst g3 (List.map GSend.av o0.Sends), .lst g4 (List.map GBurst.av o0.Bursts), .lst g5 (List.map GSend.av o0.Strays), .lst g6 (List.map GWrite.av o0.Writes)]⟩]) := by
 unfold lr_tick_2
 refine sim_evR M XE rfl rfl fun S hS hw hw8 R hR => ?_
 refine au ?_
 refine Sim.kl hS rfl ?_
 refine au ?_
 refine Sim.ix (by simp) (fun z0 hz0 => ?_)
 refine au ?_
 refine Sim.go (idx_map _ hz0) ?_
 refine au ?_
 refine Sim.kl hS (ys := List.map GBurst.av [(GBurst.mk z0 b0)]) rfl ?_
 refine au ?_
 first | (refine Sim.goB (may_map (by intro _; rfl) hg4 _) ?_) | skip
 refine au ?_
 first | (refine Sim.goB (okE_map (by intro _; exact ⟨rfl, rfl, rfl⟩) _) ?_) | skip
 refine au ?_
 first | refine Sim.ite (by simp) (fun _ => ?_) (fun _ => Sim.no) | refine Sim.guard (fun _ => ?_)
 refine au ?_
 refine Sim.kl hS (ys := List.map GBurst.av (o0.Bursts ++ [(GBurst.mk z0 b0)])) (by simp) ?_
 refine au ?_
 exact Sim.ret ⟨_, rfl, ⟨_, _, _, _, _, _, rfl, hg3, Mg.own, hg5, hg6⟩⟩
noncomputable def lr_ev_v2_0_step (head2 : List UInt8) (n2 : Int) (o3 : Rdr) (o4 : GTick) : Option ((Rdr × GTick) ⊕ ((Bool × Rdr × GTick) ⊕ (Rdr × GTick))) :=
 (lr_kind o3).bind fun r0 =>
 if r0.1 = head2 then
  (lr_words r0.2).bind fun r2 =>
  if (List.length r2.1 : Int) ≠ (wr (n2 + 1)) then
   some (.inr (.inl (false, r2.2, o4)))
  else
   if 0 ≤ n2 ∧ n2 ≤ ((List.length r2.1) : Nat) then
    (lines_ints (List.take (Int.toNat n2) r2.1)).bind fun r3 =>
    (idx? r2.1 n2).bind fun z0 =>
    (lines_word z0).bind fun r4 =>
    if (!r3.2) = true then
     some (.inr (.inl (false, r2.2, o4)))
    else
     if (!r4.2) = true then
      some (.inr (.inl (false, r2.2, o4)))
     else
      (lr_tick_2 r3.1 r4.1 o4).bind fun r5 =>
      some (.inl ((Rdr.mk r2.2.f_lines (wr (r2.2.f_at + 1)) r2.2.f_s), r5))
   else none
 else
  some (.inr (.inr (r0.2, o4)))
noncomputable def lr_ev_v2_0 (head2 : List UInt8) (n2 : Int) (o3 : Rdr) (o4 : GTick) : Option ((Bool × Rdr × GTick) ⊕ (Rdr × GTick)) :=
 loopO (fun s : Rdr × GTick => lr_ev_v2_0_step head2 n2 s.1 s.2) (o3, o4)
@[reducible] def lr_ev_v2_0_st (head2 : List UInt8) (n2 : Int) (o3 : Rdr) (o4 : GTick) (g12 : Gr) (g13 : Gr) (g14 : Gr) (g15 : Gr) (g16 : Gr) (g17 : Gr) (g18 : Gr) (g19 : Gr) (g20 : Gr) (g21 : Gr) (g22 : Gr) : PF.St := ⟨[(0, .ptr 0 0), (1, .str head2), (2, iav n2), (3, .fn n_lr_tick_2 [.ptr 1 0])], [(0, ⟨true, (Rc o3 g12 g13 g14 g15 g16)⟩), (1, ⟨true, [.lst g17 (List.map iav o4.Units), .lst g18 (List.map iav o4.Delays), .lst g19 (List.map GSend.av o4.Sends), .lst g20 (List.map GBurst.av o4.Bursts), .lst g21 (List.map GSend.av o4.Strays), .lst g22 (List.map GWrite.av o4.Writes)]⟩)]⟩
def lr_ev_v2_0_rel (head2 : List UInt8) (n2 : Int) (r : ((Bool × Rdr × GTick) ⊕ (Rdr × GTick))) (q : ES) : Prop := (fun r (q : ES) => Sum.elim (fun r => (fun r (q : ES) => ∃ g0', ∃ g1', ∃ g2', ∃ g3', ∃ g4', ∃ g5', ∃ g6', ∃ g7', ∃ g8', ∃ g9', ∃ g10', q = (Ex.ret, ⟨[(8, .bool r.1)], [(0, ⟨true, [.lst g0' (List.map sav r.2.1.f_lines), iav r.2.1.f_at, iav r.2.1.f_s.Conf.N, iav r.2.1.f_s.Conf.F, iav r.2.1.f_s.Conf.D, iav r.2.1.f_s.Conf.Period, iav r.2.1.f_s.Conf.Rate, iav r.2.1.f_s.Conf.Drift, iav r.2.1.f_s.Conf.Offset, iav r.2.1.f_s.Conf.Slot, iav r.2.1.f_s.Conf.Mod, iav r.2.1.f_s.Conf.Fresh, .lst g1' (List.map iav r.2.1.f_s.Conf.Table), .lst g2' (List.map iav r.2.1.f_s.Faulty), .lst g3' (List.map sav r.2.1.f_s.Images), .lst g4' (List.map GTick.av r.2.1.f_s.Ticks)]⟩), (1, ⟨true, [.lst g5' (List.map iav r.2.2.Units), .lst g6' (List.map iav r.2.2.Delays), .lst g7' (List.map GSend.av r.2.2.Sends), .lst g8' (List.map GBurst.av r.2.2.Bursts), .lst g9' (List.map GSend.av r.2.2.Strays), .lst g10' (List.map GWrite.av r.2.2.Writes)]⟩)]⟩) ∧ Mg 1 g3' ∧ Mg 6 g4' ∧ Mg 4 g7' ∧ Mg 2 g8' ∧ Mg 4 g9' ∧ Mg 2 g10') r q) (fun r => (fun r (q : ES) => ∃ g0', ∃ g1', ∃ g2', ∃ g3', ∃ g4', ∃ g5', ∃ g6', ∃ g7', ∃ g8', ∃ g9', ∃ g10', q = ((.exit 0), ⟨[(8, .undef)], [(0, ⟨true, [.lst g0' (List.map sav r.1.f_lines), iav r.1.f_at, iav r.1.f_s.Conf.N, iav r.1.f_s.Conf.F, iav r.1.f_s.Conf.D, iav r.1.f_s.Conf.Period, iav r.1.f_s.Conf.Rate, iav r.1.f_s.Conf.Drift, iav r.1.f_s.Conf.Offset, iav r.1.f_s.Conf.Slot, iav r.1.f_s.Conf.Mod, iav r.1.f_s.Conf.Fresh, .lst g1' (List.map iav r.1.f_s.Conf.Table), .lst g2' (List.map iav r.1.f_s.Faulty), .lst g3' (List.map sav r.1.f_s.Images), .lst g4' (List.map GTick.av r.1.f_s.Ticks)]⟩), (1, ⟨true, [.lst g5' (List.map iav r.2.Units), .lst g6' (List.map iav r.2.Delays), .lst g7' (List.map GSend.av r.2.Sends), .lst g8' (List.map GBurst.av r.2.Bursts), .lst g9' (List.map GSend.av r.2.Strays), .lst g10' (List.map GWrite.av r.2.Writes)]⟩)]⟩) ∧ Mg 1 g3' ∧ Mg 6 g4' ∧ Mg 4 g7' ∧ Mg 2 g8' ∧ Mg 4 g9' ∧ Mg 2 g10') r q) r) r q
def lr_ev_v2_0_inv (head2 : List UInt8) (n2 : Int) (v : Rdr × GTick) (e : PF.St) : Prop := ∃ g12, ∃ g13, ∃ g14, ∃ g15, ∃ g16, ∃ g17, ∃ g18, ∃ g19, ∃ g20, ∃ g21, ∃ g22, e = lr_ev_v2_0_st head2 n2 v.1 v.2 g12 g13 g14 g15 g16 g17 g18 g19 g20 g21 g22 ∧ Mg 1 g15 ∧ Mg 6 g16 ∧ Mg 4 g19 ∧ Mg 2 g20 ∧ Mg 4 g21 ∧ Mg 2 g22
theorem lr_ev_v2_0_sim (head2 : List UInt8) (n2 : Int) (o3 : Rdr) (o4 : GTick) (g12 : Gr) (g13 : Gr) (g14 : Gr) (g15 : Gr) (hg15 : Mg 1 g15) (g16 : Gr) (hg16 : Mg 6 g16) (g17 : Gr) (g18 : Gr) (g19 : Gr) (hg19 : Mg 4 g19) (g20 : Gr) (hg20 : Mg 2 g20) (g21 : Gr) (hg21 : Mg 4 g21) (g22 : Gr) (hg22 : Mg 2 g22) (s : PF.St) (hk : keep [0, 1, 2, 3] [] s = some (lr_ev_v2_0_st head2 n2 o3 o4 g12 g13 g14 g15 g16 g17 g18 g19 g20 g21 g22)) : Sim (lr_ev_v2_0 head2 n2 o3 o4) (Gv (lr_ev_v2_0_rel head2 n2)) (LM.loop ([0, 1, 2, 3], [], [8], B_lr_ev_0) s) := by
 refine sim_loop M XE (lr_ev_v2_0_inv head2 n2) (lr_ev_v2_0_rel head2 n2) ?_ _ _ _ hk ⟨g12, g13, g14, g15, g16, g17, g18, g19, g20, g21, g22, rfl, hg15, hg16, hg19, hg20, hg21, hg22⟩
 clear hk hg15 hg16 hg19 hg20 hg21 hg22
 rintro S hS hw hw8 R hR ⟨o3, o4⟩ env hp ⟨g12, g13, g14, g15, g16, g17, g18, g19, g20, g21, g22, he, hg15, hg16, hg19, hg20, hg21, hg22⟩
 change (⟨env, hp⟩ : PF.St) = lr_ev_v2_0_st head2 n2 o3 o4 g12 g13 g14 g15 g16 g17 g18 g19 g20 g21 g22 at he
 cases he
 show Sim (lr_ev_v2_0_step head2 n2 o3 o4) _ _
 unfold lr_ev_v2_0_step
 simp only [hw]
 refine au ?_
 refine Sim.callR hR (lr_kind_sim _ g12 g13 g14 g15 hg15 g16 hg16) ?_
 rintro r0 q ⟨g23, g24, g25, g26, g27, rfl, hg26, hg27⟩
 refine au (.ite Iff.rfl (fun hc => ?_) fun hc => ?_)
 ·refine au ?_
  refine Sim.callR hR (lr_words_sim _ g23 g24 g25 g26 hg26 g27 hg27) ?_
  rintro r2 q ⟨g28, g29, g30, g31, g32, rfl, hg31, hg32⟩
  refine au ?_
  refine Sim.ki hS (m := (List.length r2.1 : Int)) (by simp) ?_
  refine au (.ite Iff.rfl (fun hc2 => ?_) fun hc2 => ?_)
  ·refine au ?_
   exact Sim.ret ⟨_, rfl, ⟨_, _, _, _, _, _, _, _, _, _, _, rfl, hg31, hg32, hg19, hg20, hg21, hg22⟩⟩
  ·refine au ?_
   first | (refine Sim.goB (headE_map (by intro _; rfl) _) ?_) | skip
   refine au ?_
   refine Sim.kn hS (m := (List.length r2.1)) (by simp) ?_
   refine au ?_
   first | refine Sim.ite Iff.rfl (fun _ => ?_) (fun _ => Sim.no) | refine Sim.guard (fun _ => ?_)
   refine au ?_
   refine Sim.kl hS (ys := List.map sav (List.take (Int.toNat n2) r2.1)) (by simp only [PF.cut, List.map_drop, List.map_take]) ?_
   refine au (cE hR (lines_ints_sim _) fun r3 => ?_)
   refine au ?_
   refine Sim.ix (by simp) (fun z0 hz0 => ?_)
   refine au ?_
   refine Sim.go (idx_map _ hz0) ?_
   refine au (cE hR (lines_word_sim _) fun r4 => ?_)
   refine au (.iteB (fun hc3 => ?_) fun hc3 => ?_)
   ·refine au ?_
    exact Sim.ret ⟨_, rfl, ⟨_, _, _, _, _, _, _, _, _, _, _, rfl, hg31, hg32, hg19, hg20, hg21, hg22⟩⟩
   ·refine au (.iteB (fun hc4 => ?_) fun hc4 => ?_)
    ·refine au ?_
     exact Sim.ret ⟨_, rfl, ⟨_, _, _, _, _, _, _, _, _, _, _, rfl, hg31, hg32, hg19, hg20, hg21, hg22⟩⟩
    ·refine au ?_
     refine Sim.callR hR (lr_tick_2_sim _ _ _ g17 g18 g19 hg19 g20 hg20 g21 hg21 g22 hg22) ?_
     rintro r5 q ⟨g33, g34, g35, g36, g37, g38, rfl, hg35, hg36, hg37, hg38⟩
     refine au ?_
     exact Sim.ret ⟨_, _, rfl, rfl, ⟨_, _, _, _, _, _, _, _, _, _, _, rfl, hg31, hg32, hg35, hg36, hg37, hg38⟩⟩
 ·refine au ?_
  exact Sim.ret ⟨_, rfl, ⟨_, _, _, _, _, _, _, _, _, _, _, rfl, hg26, hg27, hg19, hg20, hg21, hg22⟩⟩
noncomputable def lr_ev_v2 (head : List UInt8) (n0 : Int) (o0 : Rdr) (o2 : GTick) : Option (Bool × Rdr × GTick) :=
 (lr_ev_v2_0 head n0 o0 o2).bind fun r6 =>
 Sum.elim
  (fun r7 =>
    some (r7.1, r7.2.1, r7.2.2))
  (fun r8 =>
    some (true, r8.1, r8.2))
  r6
end Go.Proofs.YtfjlpfjpidikjaaGreatDoor
