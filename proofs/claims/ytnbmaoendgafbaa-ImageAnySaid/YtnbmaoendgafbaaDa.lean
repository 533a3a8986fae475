/-
  The program's functions as plain functions (printed by a program of mine), each beside the machine's.
-/
import Derived.Test.YtnbmaoendgafbaaFm
import Derived.Test.YtnbmaoendgafbaaPFe
set_option linter.unusedVariables false
set_option linter.unusedSimpArgs false
set_option maxRecDepth 100000
set_option maxHeartbeats 4000000
namespace Go.Proofs.Ytnbmaoendgafbaa
open Go.Proofs.PF
noncomputable abbrev LM : MRec := lim M XE
structure Ar6 (α : Type) where
  a0 : α
  a1 : α
  a2 : α
  a3 : α
  a4 : α
  a5 : α
  deriving DecidableEq, Inhabited
@[reducible] def Ar6.cells {α : Type} (f : α → AV) (x : Ar6 α) : List AV := [f x.a0, f x.a1, f x.a2, f x.a3, f x.a4, f x.a5]
@[reducible] def Ar6.av {α : Type} (f : α → AV) (x : Ar6 α) : AV := .agg [f x.a0, f x.a1, f x.a2, f x.a3, f x.a4, f x.a5]
def Ar6.get? {α : Type} (x : Ar6 α) : Nat → Option α
  | 0 => some x.a0
  | 1 => some x.a1
  | 2 => some x.a2
  | 3 => some x.a3
  | 4 => some x.a4
  | 5 => some x.a5
  | _ => none
def Ar6.set? {α : Type} (x : Ar6 α) (k : Nat) (v : α) : Option (Ar6 α) :=
  match k with
  | 0 => some { x with a0 := v }
  | 1 => some { x with a1 := v }
  | 2 => some { x with a2 := v }
  | 3 => some { x with a3 := v }
  | 4 => some { x with a4 := v }
  | 5 => some { x with a5 := v }
  | _ => none
structure Ar13 (α : Type) where
  a0 : α
  a1 : α
  a2 : α
  a3 : α
  a4 : α
  a5 : α
  a6 : α
  a7 : α
  a8 : α
  a9 : α
  a10 : α
  a11 : α
  a12 : α
  deriving DecidableEq, Inhabited
@[reducible] def Ar13.cells {α : Type} (f : α → AV) (x : Ar13 α) : List AV := [f x.a0, f x.a1, f x.a2, f x.a3, f x.a4, f x.a5, f x.a6, f x.a7, f x.a8, f x.a9, f x.a10, f x.a11, f x.a12]
@[reducible] def Ar13.av {α : Type} (f : α → AV) (x : Ar13 α) : AV := .agg [f x.a0, f x.a1, f x.a2, f x.a3, f x.a4, f x.a5, f x.a6, f x.a7, f x.a8, f x.a9, f x.a10, f x.a11, f x.a12]
def Ar13.get? {α : Type} (x : Ar13 α) : Nat → Option α
  | 0 => some x.a0
  | 1 => some x.a1
  | 2 => some x.a2
  | 3 => some x.a3
  | 4 => some x.a4
  | 5 => some x.a5
  | 6 => some x.a6
  | 7 => some x.a7
  | 8 => some x.a8
  | 9 => some x.a9
  | 10 => some x.a10
  | 11 => some x.a11
  | 12 => some x.a12
  | _ => none
def Ar13.set? {α : Type} (x : Ar13 α) (k : Nat) (v : α) : Option (Ar13 α) :=
  match k with
  | 0 => some { x with a0 := v }
  | 1 => some { x with a1 := v }
  | 2 => some { x with a2 := v }
  | 3 => some { x with a3 := v }
  | 4 => some { x with a4 := v }
  | 5 => some { x with a5 := v }
  | 6 => some { x with a6 := v }
  | 7 => some { x with a7 := v }
  | 8 => some { x with a8 := v }
  | 9 => some { x with a9 := v }
  | 10 => some { x with a10 := v }
  | 11 => some { x with a11 := v }
  | 12 => some { x with a12 := v }
  | _ => none
structure GPort where
  Text : List UInt8
  Cycle : Int
  Age : Int
  deriving DecidableEq, Inhabited
@[reducible] def GPort.cells (x : GPort) : List AV := [.str x.Text, iav x.Cycle, iav x.Age]
@[reducible] def GPort.av (x : GPort) : AV := .agg [.str x.Text, iav x.Cycle, iav x.Age]
structure GEntry where
  From : Int
  At : Int
  deriving DecidableEq, Inhabited
@[reducible] def GEntry.cells (x : GEntry) : List AV := [iav x.From, iav x.At]
@[reducible] def GEntry.av (x : GEntry) : AV := .agg [iav x.From, iav x.At]
structure GMem where
  Clock : Int
  Anchor : Int
  Since : Int
  Pipe : List UInt8
  Age : Int
  Vec : List UInt8
  Agreed : List UInt8
  Number : Int
  Regular : Int
  Members : List UInt8
  Seen : List UInt8
  Heard : List UInt8
  Sent : List UInt8
  Out : List UInt8
  Line : List UInt8
  Ports : List GPort
  Hold : List (List UInt8)
  Log : List GEntry
  Diag : Ar6 Int
  deriving DecidableEq, Inhabited
@[reducible] def GMem.cells (x : GMem) : List AV := [iav x.Clock, iav x.Anchor, iav x.Since, .str x.Pipe, iav x.Age, .str x.Vec, .str x.Agreed, iav x.Number, iav x.Regular, .str x.Members, .str x.Seen, .str x.Heard, .str x.Sent, .str x.Out, .str x.Line, lav GPort.av x.Ports, lav sav x.Hold, lav GEntry.av x.Log, iav x.Diag.a0, iav x.Diag.a1, iav x.Diag.a2, iav x.Diag.a3, iav x.Diag.a4, iav x.Diag.a5]
@[reducible] def GMem.av (x : GMem) : AV := .agg [iav x.Clock, iav x.Anchor, iav x.Since, .str x.Pipe, iav x.Age, .str x.Vec, .str x.Agreed, iav x.Number, iav x.Regular, .str x.Members, .str x.Seen, .str x.Heard, .str x.Sent, .str x.Out, .str x.Line, lav GPort.av x.Ports, lav sav x.Hold, lav GEntry.av x.Log, iav x.Diag.a0, iav x.Diag.a1, iav x.Diag.a2, iav x.Diag.a3, iav x.Diag.a4, iav x.Diag.a5]
structure GConf where
  N : Int
  F : Int
  D : Int
  Period : Int
  Rate : Int
  Drift : Int
  Offset : Int
  Slot : Int
  Mod : Int
  Fresh : Int
  Table : List Int
  deriving DecidableEq, Inhabited
@[reducible] def GConf.cells (x : GConf) : List AV := [iav x.N, iav x.F, iav x.D, iav x.Period, iav x.Rate, iav x.Drift, iav x.Offset, iav x.Slot, iav x.Mod, iav x.Fresh, lav iav x.Table]
@[reducible] def GConf.av (x : GConf) : AV := .agg [iav x.N, iav x.F, iav x.D, iav x.Period, iav x.Rate, iav x.Drift, iav x.Offset, iav x.Slot, iav x.Mod, iav x.Fresh, lav iav x.Table]
structure Gconf_span where
  f_low : Int
  f_high : Int
  deriving DecidableEq, Inhabited
@[reducible] def Gconf_span.cells (x : Gconf_span) : List AV := [iav x.f_low, iav x.f_high]
@[reducible] def Gconf_span.av (x : Gconf_span) : AV := .agg [iav x.f_low, iav x.f_high]
structure Gs_nI_spanG where
  f_n : Int
  f_span : Gconf_span
  deriving DecidableEq, Inhabited
@[reducible] def Gs_nI_spanG.cells (x : Gs_nI_spanG) : List AV := [iav x.f_n, iav x.f_span.f_low, iav x.f_span.f_high]
@[reducible] def Gs_nI_spanG.av (x : Gs_nI_spanG) : AV := .agg [iav x.f_n, iav x.f_span.f_low, iav x.f_span.f_high]
structure Gimage_writer where
  f_out : List Int
  deriving DecidableEq, Inhabited
@[reducible] def Gimage_writer.cells (x : Gimage_writer) : List AV := [lav u8av x.f_out]
@[reducible] def Gimage_writer.av (x : Gimage_writer) : AV := .agg [lav u8av x.f_out]
structure Gimage_memory where
  f_writer : Gimage_writer
  deriving DecidableEq, Inhabited
@[reducible] def Gimage_memory.cells (x : Gimage_memory) : List AV := [lav u8av x.f_writer.f_out]
@[reducible] def Gimage_memory.av (x : Gimage_memory) : AV := .agg [lav u8av x.f_writer.f_out]
structure Gimage_reader where
  f_s : List UInt8
  f_at : Int
  deriving DecidableEq, Inhabited
@[reducible] def Gimage_reader.cells (x : Gimage_reader) : List AV := [.str x.f_s, iav x.f_at]
@[reducible] def Gimage_reader.av (x : Gimage_reader) : AV := .agg [.str x.f_s, iav x.f_at]
structure Gimage_recall where
  f_reader : Gimage_reader
  f_c : GConf
  deriving DecidableEq, Inhabited
@[reducible] def Gimage_recall.cells (x : Gimage_recall) : List AV := [.str x.f_reader.f_s, iav x.f_reader.f_at, iav x.f_c.N, iav x.f_c.F, iav x.f_c.D, iav x.f_c.Period, iav x.f_c.Rate, iav x.f_c.Drift, iav x.f_c.Offset, iav x.f_c.Slot, iav x.f_c.Mod, iav x.f_c.Fresh, lav iav x.f_c.Table]
@[reducible] def Gimage_recall.av (x : Gimage_recall) : AV := .agg [.str x.f_reader.f_s, iav x.f_reader.f_at, iav x.f_c.N, iav x.f_c.F, iav x.f_c.D, iav x.f_c.Period, iav x.f_c.Rate, iav x.f_c.Drift, iav x.f_c.Offset, iav x.f_c.Slot, iav x.f_c.Mod, iav x.f_c.Fresh, lav iav x.f_c.Table]
noncomputable def slices_Clone_api_Port_api_Port (l : List GPort) : Option (List GPort) := if l.length ≤ lenMax then some l else none
theorem slices_Clone_api_Port_api_Port_sim (l : List GPort) (g : Gr) : Sim (slices_Clone_api_Port_api_Port l) (Gv fun r q => q = (AV.arr 0 0 (List.length r) 3 true, [(⟨true, (List.flatMap GPort.cells r)⟩ : PF.Obj)])) (LM.call n_slices_Clone_api_Port_api_Port [.lst g (List.map GPort.av l)] []) := by
  unfold slices_Clone_api_Port_api_Port
  refine Sim.guard fun h => ?_
  have h1 : (okElems 3 true (List.map GPort.av l) && Nat.ble (List.map GPort.av l).length lenMax) = true := by
    rw [okE_map (by intro _; exact ⟨rfl, rfl, rfl⟩)]; simpa using h
  have h2 : XE n_slices_Clone_api_Port_api_Port [.lst g (List.map GPort.av l)] = some (AV.arr 0 0 (List.map GPort.av l).length 3 true, [(⟨true, (List.map GPort.av l).flatMap AV.cells⟩ : PF.Obj)]) := by
    first
    | (show (if (okElems 3 true (List.map GPort.av l) && Nat.ble (List.map GPort.av l).length lenMax) = true then some (AV.arr 0 0 (List.map GPort.av l).length 3 true, [(⟨true, (List.map GPort.av l).flatMap AV.cells⟩ : PF.Obj)]) else none) = _; rw [h1]; rfl)
    | (show (match (if (okElems 3 true (List.map GPort.av l) && Nat.ble (List.map GPort.av l).length lenMax) = true then some (AV.arr 0 0 (List.map GPort.av l).length 3 true, [(⟨true, (List.map GPort.av l).flatMap AV.cells⟩ : PF.Obj)]) else none) with
      | some r => some r
      | none => _) = _; rw [h1]; rfl)
  refine Sim.ret ⟨(AV.arr 0 0 (List.map GPort.av l).length 3 true, [(⟨true, (List.map GPort.av l).flatMap AV.cells⟩ : PF.Obj)]), by rw [lim_ext_eq M XE rfl]; exact h2, ?_⟩
  show (AV.arr 0 0 (List.map GPort.av l).length 3 true, [(⟨true, (List.map GPort.av l).flatMap AV.cells⟩ : PF.Obj)]) = (AV.arr 0 0 (List.length l) 3 true, [(⟨true, (List.flatMap GPort.cells l)⟩ : PF.Obj)])
  have h3 : (List.map GPort.av l).flatMap AV.cells = (List.flatMap GPort.cells l) := app_fm (f := GPort.cells) (g := GPort.av) (by intro _; rfl) [] l
  rw [h3, List.length_map]
noncomputable def slices_Clone_string_string (l : List (List UInt8)) : Option (List (List UInt8)) := if l.length ≤ lenMax then some l else none
theorem slices_Clone_string_string_sim (l : List (List UInt8)) (g : Gr) : Sim (slices_Clone_string_string l) (Gv fun r q => q = (AV.arr 0 0 (List.length r) 1 false, [(⟨true, (List.map sav r)⟩ : PF.Obj)])) (LM.call n_slices_Clone_string_string [.lst g (List.map sav l)] []) := by
  unfold slices_Clone_string_string
  refine Sim.guard fun h => ?_
  have h1 : (okElems 1 false (List.map sav l) && Nat.ble (List.map sav l).length lenMax) = true := by
    rw [okE_map (by intro _; exact ⟨rfl, rfl, rfl⟩)]; simpa using h
  have h2 : XE n_slices_Clone_string_string [.lst g (List.map sav l)] = some (AV.arr 0 0 (List.map sav l).length 1 false, [(⟨true, (List.map sav l).flatMap AV.cells⟩ : PF.Obj)]) := by
    first
    | (show (if (okElems 1 false (List.map sav l) && Nat.ble (List.map sav l).length lenMax) = true then some (AV.arr 0 0 (List.map sav l).length 1 false, [(⟨true, (List.map sav l).flatMap AV.cells⟩ : PF.Obj)]) else none) = _; rw [h1]; rfl)
    | (show (match (if (okElems 1 false (List.map sav l) && Nat.ble (List.map sav l).length lenMax) = true then some (AV.arr 0 0 (List.map sav l).length 1 false, [(⟨true, (List.map sav l).flatMap AV.cells⟩ : PF.Obj)]) else none) with
      | some r => some r
      | none => _) = _; rw [h1]; rfl)
  refine Sim.ret ⟨(AV.arr 0 0 (List.map sav l).length 1 false, [(⟨true, (List.map sav l).flatMap AV.cells⟩ : PF.Obj)]), by rw [lim_ext_eq M XE rfl]; exact h2, ?_⟩
  show (AV.arr 0 0 (List.map sav l).length 1 false, [(⟨true, (List.map sav l).flatMap AV.cells⟩ : PF.Obj)]) = (AV.arr 0 0 (List.length l) 1 false, [(⟨true, (List.map sav l)⟩ : PF.Obj)])
  have h3 : (List.map sav l).flatMap AV.cells = (List.map sav l) := app_map (f := sav) (by intro _; rfl) [] l
  rw [h3, List.length_map]
noncomputable def strings_Repeat (s : List UInt8) (c : Int) : Option (List UInt8) := if 0 ≤ c ∧ c ≤ 9223372036854775807 ∧ s.length * c.toNat ≤ 140737488355328 then some (Lib.repeatL s c.toNat) else none
theorem strings_Repeat_sim (s : List UInt8) (c : Int) : Sim (strings_Repeat s c) (Gv fun r q => q = (.str r, [])) (LM.call n_strings_Repeat [.str s, .int .i64 c] []) := by
  unfold strings_Repeat
  refine Sim.guard fun h => Sim.ret ⟨(.str (Lib.repeatL s c.toNat), []), ?_, rfl⟩
  rw [lim_ext_eq M XE rfl]
  show (if 0 ≤ c ∧ c ≤ 9223372036854775807 ∧ s.length * c.toNat ≤ 140737488355328 then some (AV.str (Lib.repeatL s c.toNat), ([] : List PF.Obj)) else none) = _
  rw [if_pos h]
noncomputable def r28_Few_0_step (i0 : GMem) (t0 : Int) (x0 : Int) : Option ((Int × Int) ⊕ Int) :=
  if x0 < (List.length i0.Hold : Int) then
    if t0 < 10000 then
      (idx? i0.Hold x0).bind fun z0 =>
      some (.inl ((wr ((wr (t0 + 1)) + (min (List.length z0 : Int) 10000))), (wr (x0 + 1))))
    else
      some (.inr t0)
  else
    some (.inr t0)
noncomputable def r28_Few_0 (i0 : GMem) (t0 : Int) (x0 : Int) : Option Int :=
  loopO (fun s : Int × Int => r28_Few_0_step i0 s.1 s.2) (t0, x0)
@[reducible] def r28_Few_0_st (i0 : GMem) (t0 : Int) (x0 : Int) : PF.St := ⟨[(1, .ptr 101 0), (3, iav t0), (4, iav x0)], [(101, ⟨true, GMem.cells i0⟩)]⟩
def r28_Few_0_rel (i0 : GMem) (r : Int) (q : Ex × PF.St) : Prop := (fun r (q : Ex × PF.St) => q = ((.exit 0), ⟨[(1, .ptr 101 0), (3, iav r)], [(101, ⟨true, GMem.cells i0⟩)]⟩)) r q
def r28_Few_0_inv (i0 : GMem) (v : Int × Int) (e : PF.St) : Prop := e = r28_Few_0_st i0 v.1 v.2
theorem r28_Few_0_sim (i0 : GMem) (t0 : Int) (x0 : Int) (s : PF.St) (hk : keep [1, 3, 4] [101] s = some (r28_Few_0_st i0 t0 x0)) : Sim (r28_Few_0 i0 t0 x0) (Gv (r28_Few_0_rel i0)) (LM.loop ([1, 3, 4], [101], [1, 3], B_r28_Few_0) s) := by
  refine sim_loop M XE (r28_Few_0_inv i0) (r28_Few_0_rel i0) ?_ _ _ _ hk rfl
  clear hk
  rintro S hS hw hw8 R hR ⟨t0, x0⟩ env hp he
  change (⟨env, hp⟩ : PF.St) = r28_Few_0_st i0 t0 x0 at he
  cases he
  show Sim (r28_Few_0_step i0 t0 x0) _ _
  unfold r28_Few_0_step
  simp only [hw]
  refine au ?_
  refine Sim.ki hS (m := (List.length i0.Hold : Int)) (by simp) ?_
  refine au (.ite Iff.rfl (fun hc => ?_) fun hc => ?_)
  · refine au (.ite Iff.rfl (fun hc2 => ?_) fun hc2 => ?_)
    · refine au ?_
      refine Sim.ix (by simp) (fun z0 hz0 => ?_)
      refine au ?_
      refine Sim.go (idx_map _ hz0) ?_
      refine au ?_
      exact Sim.ret ⟨_, _, rfl, rfl, rfl⟩
    · exact au (.ret ⟨_, rfl, rfl⟩)
  · exact au (.ret ⟨_, rfl, rfl⟩)
noncomputable def r28_Few_1_step (i2 : GMem) (t2 : Int) (t3 : Int) : Option ((Int × Int) ⊕ Int) :=
  if t3 < (List.length i2.Ports : Int) then
    if t2 < 10000 then
      (idx? i2.Ports t3).bind fun z2 =>
      some (.inl ((wr ((wr (t2 + 1)) + (min (List.length z2.Text : Int) 10000))), (wr (t3 + 1))))
    else
      some (.inr t2)
  else
    some (.inr t2)
noncomputable def r28_Few_1 (i2 : GMem) (t2 : Int) (t3 : Int) : Option Int :=
  loopO (fun s : Int × Int => r28_Few_1_step i2 s.1 s.2) (t2, t3)
@[reducible] def r28_Few_1_st (i2 : GMem) (t2 : Int) (t3 : Int) : PF.St := ⟨[(1, .ptr 101 0), (3, iav t2), (5, iav t3)], [(101, ⟨true, GMem.cells i2⟩)]⟩
def r28_Few_1_rel (i2 : GMem) (r : Int) (q : Ex × PF.St) : Prop := (fun r (q : Ex × PF.St) => q = ((.exit 2), ⟨[(1, .ptr 101 0), (3, iav r)], [(101, ⟨true, GMem.cells i2⟩)]⟩)) r q
def r28_Few_1_inv (i2 : GMem) (v : Int × Int) (e : PF.St) : Prop := e = r28_Few_1_st i2 v.1 v.2
theorem r28_Few_1_sim (i2 : GMem) (t2 : Int) (t3 : Int) (s : PF.St) (hk : keep [1, 3, 5] [101] s = some (r28_Few_1_st i2 t2 t3)) : Sim (r28_Few_1 i2 t2 t3) (Gv (r28_Few_1_rel i2)) (LM.loop ([1, 3, 5], [101], [1, 3], B_r28_Few_1) s) := by
  refine sim_loop M XE (r28_Few_1_inv i2) (r28_Few_1_rel i2) ?_ _ _ _ hk rfl
  clear hk
  rintro S hS hw hw8 R hR ⟨t2, t3⟩ env hp he
  change (⟨env, hp⟩ : PF.St) = r28_Few_1_st i2 t2 t3 at he
  cases he
  show Sim (r28_Few_1_step i2 t2 t3) _ _
  unfold r28_Few_1_step
  simp only [hw]
  refine au ?_
  refine Sim.ki hS (m := (List.length i2.Ports : Int)) (by simp) ?_
  refine au (.ite Iff.rfl (fun hc3 => ?_) fun hc3 => ?_)
  · refine au (.ite Iff.rfl (fun hc4 => ?_) fun hc4 => ?_)
    · refine au ?_
      refine Sim.ix (by simp) (fun z2 hz2 => ?_)
      refine au ?_
      refine Sim.go (idx_map _ hz2) ?_
      refine au ?_
      exact Sim.ret ⟨_, _, rfl, rfl, rfl⟩
    · exact au (.ret ⟨_, rfl, rfl⟩)
  · exact au (.ret ⟨_, rfl, rfl⟩)
noncomputable def r28_Few_2_step (x2 : List (List UInt8)) (x3 : Int) (i3 : GMem) (t4 : Int) (x4 : Int) : Option ((Int × Int) ⊕ Int) :=
  if x4 < x3 then
    (idx? x2 x4).bind fun z3 =>
    some (.inl ((wr (t4 + (min (List.length z3 : Int) 10000))), (wr (x4 + 1))))
  else
    some (.inr t4)
noncomputable def r28_Few_2 (x2 : List (List UInt8)) (x3 : Int) (i3 : GMem) (t4 : Int) (x4 : Int) : Option Int :=
  loopO (fun s : Int × Int => r28_Few_2_step x2 x3 i3 s.1 s.2) (t4, x4)
@[reducible] def r28_Few_2_st (x2 : List (List UInt8)) (x3 : Int) (i3 : GMem) (t4 : Int) (x4 : Int) (g0 : Gr) : PF.St := ⟨[(1, .ptr 101 0), (3, iav t4), (69, .lst g0 (List.map sav x2)), (70, iav x3), (71, iav x4)], [(101, ⟨true, GMem.cells i3⟩)]⟩
def r28_Few_2_rel (x2 : List (List UInt8)) (x3 : Int) (i3 : GMem) (r : Int) (q : Ex × PF.St) : Prop := (fun r (q : Ex × PF.St) => q = ((.exit 4), ⟨[(1, .ptr 101 0), (3, iav r)], [(101, ⟨true, GMem.cells i3⟩)]⟩)) r q
def r28_Few_2_inv (x2 : List (List UInt8)) (x3 : Int) (i3 : GMem) (v : Int × Int) (e : PF.St) : Prop := ∃ g0, e = r28_Few_2_st x2 x3 i3 v.1 v.2 g0 ∧ Mg 1 g0
theorem r28_Few_2_sim (x2 : List (List UInt8)) (x3 : Int) (i3 : GMem) (t4 : Int) (x4 : Int) (g0 : Gr) (hg0 : Mg 1 g0) (s : PF.St) (hk : keep [1, 3, 69, 70, 71] [101] s = some (r28_Few_2_st x2 x3 i3 t4 x4 g0)) : Sim (r28_Few_2 x2 x3 i3 t4 x4) (Gv (r28_Few_2_rel x2 x3 i3)) (LM.loop ([1, 3, 69, 70, 71], [101], [1, 3], B_r28_Few_2) s) := by
  refine sim_loop M XE (r28_Few_2_inv x2 x3 i3) (r28_Few_2_rel x2 x3 i3) ?_ _ _ _ hk ⟨g0, rfl, hg0⟩
  clear hk hg0
  rintro S hS hw hw8 R hR ⟨t4, x4⟩ env hp ⟨g0, he, hg0⟩
  change (⟨env, hp⟩ : PF.St) = r28_Few_2_st x2 x3 i3 t4 x4 g0 at he
  cases he
  show Sim (r28_Few_2_step x2 x3 i3 t4 x4) _ _
  unfold r28_Few_2_step
  simp only [hw]
  refine au (.ite Iff.rfl (fun hc5 => ?_) fun hc5 => ?_)
  · refine au ?_
    refine Sim.ix (by simp) (fun z3 hz3 => ?_)
    refine au ?_
    refine Sim.go (idx_map _ hz3) ?_
    refine au ?_
    exact Sim.ret ⟨_, _, rfl, rfl, ⟨_, rfl, hg0⟩⟩
  · exact au (.ret ⟨_, rfl, rfl⟩)
noncomputable def r28_Few (L0 : GMem) : Option Bool :=
  (r28_Few_0 L0 0 0).bind fun r0 =>
  (r28_Few_1 L0 r0 0).bind fun r2 =>
  (r28_Few_2 [L0.Pipe, L0.Vec, L0.Agreed, L0.Members, L0.Seen, L0.Heard, L0.Sent, L0.Out, L0.Line] (List.length [L0.Pipe, L0.Vec, L0.Agreed, L0.Members, L0.Seen, L0.Heard, L0.Sent, L0.Out, L0.Line] : Int) L0 r2 0).bind fun r3 =>
  if r3 < 10000 then
    some (decide ((List.length L0.Log : Int) < 1000))
  else
    some false
theorem r28_Few_sim (L0 : GMem) : Sim (r28_Few L0) (Gv fun r q => q = (.bool r, [])) (LM.call n_r28_Few [GMem.av L0] []) := by
  unfold r28_Few
  refine sim_evR M XE rfl rfl fun S hS hw hw8 R hR => ?_
  refine au ?_
  refine Sim.callL hR (r28_Few_0_sim L0 0 0 _ rfl) ?_
  rintro r0 q rfl
  refine au ?_
  refine Sim.callL hR (r28_Few_1_sim L0 r0 0 _ rfl) ?_
  rintro r2 q rfl
  refine au ?_
  refine Sim.kl hS (ys := List.map sav [L0.Pipe, L0.Vec, L0.Agreed, L0.Members, L0.Seen, L0.Heard, L0.Sent, L0.Out, L0.Line]) rfl ?_
  refine au ?_
  refine Sim.ki hS (m := (List.length [L0.Pipe, L0.Vec, L0.Agreed, L0.Members, L0.Seen, L0.Heard, L0.Sent, L0.Out, L0.Line] : Int)) (by simp) ?_
  refine au ?_
  refine Sim.callL hR (r28_Few_2_sim [L0.Pipe, L0.Vec, L0.Agreed, L0.Members, L0.Seen, L0.Heard, L0.Sent, L0.Out, L0.Line] (List.length [L0.Pipe, L0.Vec, L0.Agreed, L0.Members, L0.Seen, L0.Heard, L0.Sent, L0.Out, L0.Line] : Int) L0 r2 0 .full Mg.full _ rfl) ?_
  rintro r3 q rfl
  refine au (.ite Iff.rfl (fun hc6 => ?_) fun hc6 => ?_)
  · refine au ?_
    refine Sim.ki hS (m := (List.length L0.Log : Int)) (by simp) ?_
    exact au (.ret ⟨_, rfl, rfl⟩)
  · exact au (.ret ⟨_, rfl, rfl⟩)
noncomputable def r26_Same_0_step (a2 : List GPort) (b2 : List GPort) (i0 : Int) : Option ((Int) ⊕ ((Bool) ⊕ (Unit))) :=
  if i0 < (List.length a2 : Int) then
    (idx? a2 i0).bind fun z0 =>
    (idx? b2 i0).bind fun z2 =>
    if (!(decide (z0.Text = z2.Text) && (decide (z0.Cycle = z2.Cycle) && (decide (z0.Age = z2.Age) && true)))) = true then
      some (.inr (.inl false))
    else
      some (.inl (wr (i0 + 1)))
  else
    some (.inr (.inr ()))
noncomputable def r26_Same_0 (a2 : List GPort) (b2 : List GPort) (i0 : Int) : Option ((Bool) ⊕ (Unit)) :=
  loopO (fun s : Int => r26_Same_0_step a2 b2 s) i0
@[reducible] def r26_Same_0_st (a2 : List GPort) (b2 : List GPort) (i0 : Int) : PF.St := ⟨[(0, lav GPort.av a2), (1, lav GPort.av b2), (5, iav i0)], []⟩
def r26_Same_0_rel (a2 : List GPort) (b2 : List GPort) (r : ((Bool) ⊕ (Unit))) (q : Ex × PF.St) : Prop := (fun r (q : Ex × PF.St) => Sum.elim (fun r => (fun r (q : Ex × PF.St) => q = (Ex.ret, ⟨[(4, .bool r)], []⟩)) r q) (fun r => (fun r (q : Ex × PF.St) => q = ((.exit 0), ⟨[(4, .undef)], []⟩)) r q) r) r q
def r26_Same_0_inv (a2 : List GPort) (b2 : List GPort) (v : Int) (e : PF.St) : Prop := e = r26_Same_0_st a2 b2 v
theorem r26_Same_0_sim (a2 : List GPort) (b2 : List GPort) (i0 : Int) (s : PF.St) (hk : keep [0, 1, 5] [] s = some (r26_Same_0_st a2 b2 i0)) : Sim (r26_Same_0 a2 b2 i0) (Gv (r26_Same_0_rel a2 b2)) (LM.loop ([0, 1, 5], [], [4], B_r26_Same_0) s) := by
  refine sim_loop M XE (r26_Same_0_inv a2 b2) (r26_Same_0_rel a2 b2) ?_ _ _ _ hk rfl
  clear hk
  rintro S hS hw hw8 R hR i0 env hp he
  change (⟨env, hp⟩ : PF.St) = r26_Same_0_st a2 b2 i0 at he
  cases he
  show Sim (r26_Same_0_step a2 b2 i0) _ _
  unfold r26_Same_0_step
  simp only [hw]
  refine au ?_
  refine Sim.ki hS (m := (List.length a2 : Int)) (by simp) ?_
  refine au (.ite Iff.rfl (fun hc2 => ?_) fun hc2 => ?_)
  · refine au ?_
    refine Sim.ix (by simp) (fun z0 hz0 => ?_)
    refine au ?_
    refine Sim.go (idx_map _ hz0) ?_
    refine au ?_
    refine Sim.ix (by simp) (fun z2 hz2 => ?_)
    refine au ?_
    refine Sim.go (idx_map _ hz2) ?_
    refine au (.iteB (fun hc3 => ?_) fun hc3 => ?_)
    · exact au (.ret ⟨_, rfl, rfl⟩)
    · refine au ?_
      exact Sim.ret ⟨_, _, rfl, rfl, rfl⟩
  · exact au (.ret ⟨_, rfl, rfl⟩)
noncomputable def r26_Same (a0 : List GPort) (b0 : List GPort) : Option Bool :=
  if (List.length a0 : Int) ≠ (List.length b0 : Int) then
    some false
  else
    (r26_Same_0 a0 b0 0).bind fun r0 =>
    Sum.elim
      (fun r2 =>
        some r2)
      (fun r3 =>
        some true)
      r0
theorem r26_Same_sim (a0 : List GPort) (b0 : List GPort) : Sim (r26_Same a0 b0) (Gv fun r q => q = (.bool r, [])) (LM.call n_r26_Same [lav GPort.av a0, lav GPort.av b0] []) := by
  unfold r26_Same
  refine sim_evR M XE rfl rfl fun S hS hw hw8 R hR => ?_
  refine au ?_
  refine Sim.ki hS (m := (List.length a0 : Int)) (by simp) ?_
  refine au ?_
  refine Sim.ki hS (m := (List.length b0 : Int)) (by simp) ?_
  refine au (.ite Iff.rfl (fun hc => ?_) fun hc => ?_)
  · exact au (.ret ⟨_, rfl, rfl⟩)
  · refine au ?_
    refine Sim.callL hR (r26_Same_0_sim a0 b0 0 _ rfl) ?_
    rintro r0 q hr
    rcases r0 with r2 | r3
    · cases hr
      exact au (.ret ⟨_, rfl, rfl⟩)
    · cases hr
      exact au (.ret ⟨_, rfl, rfl⟩)
noncomputable def r12_Same_0_step (a2 : List (List UInt8)) (b2 : List (List UInt8)) (i0 : Int) : Option ((Int) ⊕ ((Bool) ⊕ (Unit))) :=
  if i0 < (List.length a2 : Int) then
    (idx? a2 i0).bind fun z0 =>
    (idx? b2 i0).bind fun z2 =>
    if z0 ≠ z2 then
      some (.inr (.inl false))
    else
      some (.inl (wr (i0 + 1)))
  else
    some (.inr (.inr ()))
noncomputable def r12_Same_0 (a2 : List (List UInt8)) (b2 : List (List UInt8)) (i0 : Int) : Option ((Bool) ⊕ (Unit)) :=
  loopO (fun s : Int => r12_Same_0_step a2 b2 s) i0
@[reducible] def r12_Same_0_st (a2 : List (List UInt8)) (b2 : List (List UInt8)) (i0 : Int) : PF.St := ⟨[(0, lav sav a2), (1, lav sav b2), (5, iav i0)], []⟩
def r12_Same_0_rel (a2 : List (List UInt8)) (b2 : List (List UInt8)) (r : ((Bool) ⊕ (Unit))) (q : Ex × PF.St) : Prop := (fun r (q : Ex × PF.St) => Sum.elim (fun r => (fun r (q : Ex × PF.St) => q = (Ex.ret, ⟨[(4, .bool r)], []⟩)) r q) (fun r => (fun r (q : Ex × PF.St) => q = ((.exit 0), ⟨[(4, .undef)], []⟩)) r q) r) r q
def r12_Same_0_inv (a2 : List (List UInt8)) (b2 : List (List UInt8)) (v : Int) (e : PF.St) : Prop := e = r12_Same_0_st a2 b2 v
theorem r12_Same_0_sim (a2 : List (List UInt8)) (b2 : List (List UInt8)) (i0 : Int) (s : PF.St) (hk : keep [0, 1, 5] [] s = some (r12_Same_0_st a2 b2 i0)) : Sim (r12_Same_0 a2 b2 i0) (Gv (r12_Same_0_rel a2 b2)) (LM.loop ([0, 1, 5], [], [4], B_r12_Same_0) s) := by
  refine sim_loop M XE (r12_Same_0_inv a2 b2) (r12_Same_0_rel a2 b2) ?_ _ _ _ hk rfl
  clear hk
  rintro S hS hw hw8 R hR i0 env hp he
  change (⟨env, hp⟩ : PF.St) = r12_Same_0_st a2 b2 i0 at he
  cases he
  show Sim (r12_Same_0_step a2 b2 i0) _ _
  unfold r12_Same_0_step
  simp only [hw]
  refine au ?_
  refine Sim.ki hS (m := (List.length a2 : Int)) (by simp) ?_
  refine au (.ite Iff.rfl (fun hc2 => ?_) fun hc2 => ?_)
  · refine au ?_
    refine Sim.ix (by simp) (fun z0 hz0 => ?_)
    refine au ?_
    refine Sim.go (idx_map _ hz0) ?_
    refine au ?_
    refine Sim.ix (by simp) (fun z2 hz2 => ?_)
    refine au ?_
    refine Sim.go (idx_map _ hz2) ?_
    refine au (.ite Iff.rfl (fun hc3 => ?_) fun hc3 => ?_)
    · exact au (.ret ⟨_, rfl, rfl⟩)
    · refine au ?_
      exact Sim.ret ⟨_, _, rfl, rfl, rfl⟩
  · exact au (.ret ⟨_, rfl, rfl⟩)
noncomputable def r12_Same (a0 : List (List UInt8)) (b0 : List (List UInt8)) : Option Bool :=
  if (List.length a0 : Int) ≠ (List.length b0 : Int) then
    some false
  else
    (r12_Same_0 a0 b0 0).bind fun r0 =>
    Sum.elim
      (fun r2 =>
        some r2)
      (fun r3 =>
        some true)
      r0
theorem r12_Same_sim (a0 : List (List UInt8)) (b0 : List (List UInt8)) : Sim (r12_Same a0 b0) (Gv fun r q => q = (.bool r, [])) (LM.call n_r12_Same [lav sav a0, lav sav b0] []) := by
  unfold r12_Same
  refine sim_evR M XE rfl rfl fun S hS hw hw8 R hR => ?_
  refine au ?_
  refine Sim.ki hS (m := (List.length a0 : Int)) (by simp) ?_
  refine au ?_
  refine Sim.ki hS (m := (List.length b0 : Int)) (by simp) ?_
  refine au (.ite Iff.rfl (fun hc => ?_) fun hc => ?_)
  · exact au (.ret ⟨_, rfl, rfl⟩)
  · refine au ?_
    refine Sim.callL hR (r12_Same_0_sim a0 b0 0 _ rfl) ?_
    rintro r0 q hr
    rcases r0 with r2 | r3
    · cases hr
      exact au (.ret ⟨_, rfl, rfl⟩)
    · cases hr
      exact au (.ret ⟨_, rfl, rfl⟩)
noncomputable def r06_Same_0_step (a2 : List GEntry) (b2 : List GEntry) (i0 : Int) : Option ((Int) ⊕ ((Bool) ⊕ (Unit))) :=
  if i0 < (List.length a2 : Int) then
    (idx? a2 i0).bind fun z0 =>
    (idx? b2 i0).bind fun z2 =>
    if (!(decide (z0.From = z2.From) && (decide (z0.At = z2.At) && true))) = true then
      some (.inr (.inl false))
    else
      some (.inl (wr (i0 + 1)))
  else
    some (.inr (.inr ()))
noncomputable def r06_Same_0 (a2 : List GEntry) (b2 : List GEntry) (i0 : Int) : Option ((Bool) ⊕ (Unit)) :=
  loopO (fun s : Int => r06_Same_0_step a2 b2 s) i0
@[reducible] def r06_Same_0_st (a2 : List GEntry) (b2 : List GEntry) (i0 : Int) : PF.St := ⟨[(0, lav GEntry.av a2), (1, lav GEntry.av b2), (5, iav i0)], []⟩
def r06_Same_0_rel (a2 : List GEntry) (b2 : List GEntry) (r : ((Bool) ⊕ (Unit))) (q : Ex × PF.St) : Prop := (fun r (q : Ex × PF.St) => Sum.elim (fun r => (fun r (q : Ex × PF.St) => q = (Ex.ret, ⟨[(4, .bool r)], []⟩)) r q) (fun r => (fun r (q : Ex × PF.St) => q = ((.exit 0), ⟨[(4, .undef)], []⟩)) r q) r) r q
def r06_Same_0_inv (a2 : List GEntry) (b2 : List GEntry) (v : Int) (e : PF.St) : Prop := e = r06_Same_0_st a2 b2 v
theorem r06_Same_0_sim (a2 : List GEntry) (b2 : List GEntry) (i0 : Int) (s : PF.St) (hk : keep [0, 1, 5] [] s = some (r06_Same_0_st a2 b2 i0)) : Sim (r06_Same_0 a2 b2 i0) (Gv (r06_Same_0_rel a2 b2)) (LM.loop ([0, 1, 5], [], [4], B_r06_Same_0) s) := by
  refine sim_loop M XE (r06_Same_0_inv a2 b2) (r06_Same_0_rel a2 b2) ?_ _ _ _ hk rfl
  clear hk
  rintro S hS hw hw8 R hR i0 env hp he
  change (⟨env, hp⟩ : PF.St) = r06_Same_0_st a2 b2 i0 at he
  cases he
  show Sim (r06_Same_0_step a2 b2 i0) _ _
  unfold r06_Same_0_step
  simp only [hw]
  refine au ?_
  refine Sim.ki hS (m := (List.length a2 : Int)) (by simp) ?_
  refine au (.ite Iff.rfl (fun hc2 => ?_) fun hc2 => ?_)
  · refine au ?_
    refine Sim.ix (by simp) (fun z0 hz0 => ?_)
    refine au ?_
    refine Sim.go (idx_map _ hz0) ?_
    refine au ?_
    refine Sim.ix (by simp) (fun z2 hz2 => ?_)
    refine au ?_
    refine Sim.go (idx_map _ hz2) ?_
    refine au (.iteB (fun hc3 => ?_) fun hc3 => ?_)
    · exact au (.ret ⟨_, rfl, rfl⟩)
    · refine au ?_
      exact Sim.ret ⟨_, _, rfl, rfl, rfl⟩
  · exact au (.ret ⟨_, rfl, rfl⟩)
noncomputable def r06_Same (a0 : List GEntry) (b0 : List GEntry) : Option Bool :=
  if (List.length a0 : Int) ≠ (List.length b0 : Int) then
    some false
  else
    (r06_Same_0 a0 b0 0).bind fun r0 =>
    Sum.elim
      (fun r2 =>
        some r2)
      (fun r3 =>
        some true)
      r0
theorem r06_Same_sim (a0 : List GEntry) (b0 : List GEntry) : Sim (r06_Same a0 b0) (Gv fun r q => q = (.bool r, [])) (LM.call n_r06_Same [lav GEntry.av a0, lav GEntry.av b0] []) := by
  unfold r06_Same
  refine sim_evR M XE rfl rfl fun S hS hw hw8 R hR => ?_
  refine au ?_
  refine Sim.ki hS (m := (List.length a0 : Int)) (by simp) ?_
  refine au ?_
  refine Sim.ki hS (m := (List.length b0 : Int)) (by simp) ?_
  refine au (.ite Iff.rfl (fun hc => ?_) fun hc => ?_)
  · exact au (.ret ⟨_, rfl, rfl⟩)
  · refine au ?_
    refine Sim.callL hR (r06_Same_0_sim a0 b0 0 _ rfl) ?_
    rintro r0 q hr
    rcases r0 with r2 | r3
    · cases hr
      exact au (.ret ⟨_, rfl, rfl⟩)
    · cases hr
      exact au (.ret ⟨_, rfl, rfl⟩)
noncomputable def r28_Same (L0 : GMem) (i0 : GMem) : Option Bool :=
  if L0.Clock ≠ i0.Clock then
    some false
  else
    if L0.Anchor ≠ i0.Anchor then
      some false
    else
      if L0.Since ≠ i0.Since then
        some false
      else
        if L0.Age ≠ i0.Age then
          some false
        else
          if L0.Number ≠ i0.Number then
            some false
          else
            if L0.Regular ≠ i0.Regular then
              some false
            else
              if (!(decide (L0.Diag.a0 = i0.Diag.a0) && (decide (L0.Diag.a1 = i0.Diag.a1) && (decide (L0.Diag.a2 = i0.Diag.a2) && (decide (L0.Diag.a3 = i0.Diag.a3) && (decide (L0.Diag.a4 = i0.Diag.a4) && (decide (L0.Diag.a5 = i0.Diag.a5) && true))))))) = true then
                some false
              else
                if L0.Pipe ≠ i0.Pipe then
                  some false
                else
                  if L0.Vec ≠ i0.Vec then
                    some false
                  else
                    if L0.Agreed ≠ i0.Agreed then
                      some false
                    else
                      if L0.Members ≠ i0.Members then
                        some false
                      else
                        if L0.Seen ≠ i0.Seen then
                          some false
                        else
                          if L0.Heard ≠ i0.Heard then
                            some false
                          else
                            if L0.Sent ≠ i0.Sent then
                              some false
                            else
                              if L0.Out ≠ i0.Out then
                                some false
                              else
                                if L0.Line ≠ i0.Line then
                                  some false
                                else
                                  (r26_Same L0.Ports i0.Ports).bind fun r0 =>
                                  if r0 = true then
                                    (r12_Same L0.Hold i0.Hold).bind fun r2 =>
                                    if r2 = true then
                                      (r06_Same L0.Log i0.Log).bind fun r3 =>
                                      some r3
                                    else
                                      some false
                                  else
                                    some false
theorem r28_Same_sim (L0 : GMem) (i0 : GMem) : Sim (r28_Same L0 i0) (Gv fun r q => q = (.bool r, [])) (LM.call n_r28_Same [GMem.av L0, GMem.av i0] []) := by
  unfold r28_Same
  refine sim_evR M XE rfl rfl fun S hS hw hw8 R hR => ?_
  refine au (.ite Iff.rfl (fun hc => ?_) fun hc => ?_)
  · exact au (.ret ⟨_, rfl, rfl⟩)
  · refine au (.ite Iff.rfl (fun hc2 => ?_) fun hc2 => ?_)
    · exact au (.ret ⟨_, rfl, rfl⟩)
    · refine au (.ite Iff.rfl (fun hc3 => ?_) fun hc3 => ?_)
      · exact au (.ret ⟨_, rfl, rfl⟩)
      · refine au (.ite Iff.rfl (fun hc4 => ?_) fun hc4 => ?_)
        · exact au (.ret ⟨_, rfl, rfl⟩)
        · refine au (.ite Iff.rfl (fun hc5 => ?_) fun hc5 => ?_)
          · exact au (.ret ⟨_, rfl, rfl⟩)
          · refine au (.ite Iff.rfl (fun hc6 => ?_) fun hc6 => ?_)
            · exact au (.ret ⟨_, rfl, rfl⟩)
            · refine au (.iteB (fun hc7 => ?_) fun hc7 => ?_)
              · exact au (.ret ⟨_, rfl, rfl⟩)
              · refine au (.ite Iff.rfl (fun hc8 => ?_) fun hc8 => ?_)
                · exact au (.ret ⟨_, rfl, rfl⟩)
                · refine au (.ite Iff.rfl (fun hc9 => ?_) fun hc9 => ?_)
                  · exact au (.ret ⟨_, rfl, rfl⟩)
                  · refine au (.ite Iff.rfl (fun hc10 => ?_) fun hc10 => ?_)
                    · exact au (.ret ⟨_, rfl, rfl⟩)
                    · refine au (.ite Iff.rfl (fun hc11 => ?_) fun hc11 => ?_)
                      · exact au (.ret ⟨_, rfl, rfl⟩)
                      · refine au (.ite Iff.rfl (fun hc12 => ?_) fun hc12 => ?_)
                        · exact au (.ret ⟨_, rfl, rfl⟩)
                        · refine au (.ite Iff.rfl (fun hc13 => ?_) fun hc13 => ?_)
                          · exact au (.ret ⟨_, rfl, rfl⟩)
                          · refine au (.ite Iff.rfl (fun hc14 => ?_) fun hc14 => ?_)
                            · exact au (.ret ⟨_, rfl, rfl⟩)
                            · refine au (.ite Iff.rfl (fun hc15 => ?_) fun hc15 => ?_)
                              · exact au (.ret ⟨_, rfl, rfl⟩)
                              · refine au (.ite Iff.rfl (fun hc16 => ?_) fun hc16 => ?_)
                                · exact au (.ret ⟨_, rfl, rfl⟩)
                                · refine au (cE hR (r26_Same_sim _ _) fun r0 => ?_)
                                  refine au (.iteB (fun hc17 => ?_) fun hc17 => ?_)
                                  · refine au (cE hR (r12_Same_sim _ _) fun r2 => ?_)
                                    refine au (.iteB (fun hc18 => ?_) fun hc18 => ?_)
                                    · refine au (cE hR (r06_Same_sim _ _) fun r3 => ?_)
                                      exact au (.ret ⟨_, rfl, rfl⟩)
                                    · exact au (.ret ⟨_, rfl, rfl⟩)
                                  · exact au (.ret ⟨_, rfl, rfl⟩)
noncomputable def r03_within (n0 : Int) (low : Int) (high : Int) : Option Bool :=
  if low ≤ n0 then
    some (decide (n0 ≤ high))
  else
    some false
theorem r03_within_sim (n0 : Int) (low : Int) (high : Int) : Sim (r03_within n0 low high) (Gv fun r q => q = (.bool r, [])) (LM.call n_r03_within [iav n0, iav low, iav high] []) := by
  unfold r03_within
  refine sim_evR M XE rfl rfl fun S hS hw hw8 R hR => ?_
  refine au (.ite Iff.rfl (fun hc => ?_) fun hc => ?_)
  · exact au (.ret ⟨_, rfl, rfl⟩)
  · exact au (.ret ⟨_, rfl, rfl⟩)
noncomputable def r03_owned_0_step (c2 : GConf) (i0 : Int) : Option ((Int) ⊕ ((Bool) ⊕ (Unit))) :=
  if i0 < (List.length c2.Table : Int) then
    (idx? c2.Table i0).bind fun z0 =>
    (r03_within z0 0 (wr (c2.N - 1))).bind fun r0 =>
    if (!r0) = true then
      some (.inr (.inl false))
    else
      some (.inl (wr (i0 + 1)))
  else
    some (.inr (.inr ()))
noncomputable def r03_owned_0 (c2 : GConf) (i0 : Int) : Option ((Bool) ⊕ (Unit)) :=
  loopO (fun s : Int => r03_owned_0_step c2 s) i0
@[reducible] def r03_owned_0_st (c2 : GConf) (i0 : Int) : PF.St := ⟨[(1, .ptr 101 0), (3, iav i0)], [(101, ⟨true, GConf.cells c2⟩)]⟩
def r03_owned_0_rel (c2 : GConf) (r : ((Bool) ⊕ (Unit))) (q : Ex × PF.St) : Prop := (fun r (q : Ex × PF.St) => Sum.elim (fun r => (fun r (q : Ex × PF.St) => q = (Ex.ret, ⟨[(1, .ptr 101 0), (2, .bool r)], [(101, ⟨true, GConf.cells c2⟩)]⟩)) r q) (fun r => (fun r (q : Ex × PF.St) => q = ((.exit 0), ⟨[(1, .ptr 101 0), (2, .undef)], [(101, ⟨true, GConf.cells c2⟩)]⟩)) r q) r) r q
def r03_owned_0_inv (c2 : GConf) (v : Int) (e : PF.St) : Prop := e = r03_owned_0_st c2 v
theorem r03_owned_0_sim (c2 : GConf) (i0 : Int) (s : PF.St) (hk : keep [1, 3] [101] s = some (r03_owned_0_st c2 i0)) : Sim (r03_owned_0 c2 i0) (Gv (r03_owned_0_rel c2)) (LM.loop ([1, 3], [101], [1, 2], B_r03_owned_0) s) := by
  refine sim_loop M XE (r03_owned_0_inv c2) (r03_owned_0_rel c2) ?_ _ _ _ hk rfl
  clear hk
  rintro S hS hw hw8 R hR i0 env hp he
  change (⟨env, hp⟩ : PF.St) = r03_owned_0_st c2 i0 at he
  cases he
  show Sim (r03_owned_0_step c2 i0) _ _
  unfold r03_owned_0_step
  simp only [hw]
  refine au ?_
  refine Sim.ki hS (m := (List.length c2.Table : Int)) (by simp) ?_
  refine au (.ite Iff.rfl (fun hc => ?_) fun hc => ?_)
  · refine au ?_
    refine Sim.ix (by simp) (fun z0 hz0 => ?_)
    refine au ?_
    refine Sim.go (idx_map _ hz0) ?_
    refine au (cE hR (r03_within_sim _ _ _) fun r0 => ?_)
    refine au (.iteB (fun hc2 => ?_) fun hc2 => ?_)
    · exact au (.ret ⟨_, rfl, rfl⟩)
    · refine au ?_
      exact Sim.ret ⟨_, _, rfl, rfl, rfl⟩
  · exact au (.ret ⟨_, rfl, rfl⟩)
noncomputable def r03_owned_1_step (n2 : Int) (c4 : GConf) (has : Bool) (i2 : Int) : Option ((Bool × Int) ⊕ Bool) :=
  if i2 < (List.length c4.Table : Int) then
    if has = true then
      some (.inl (true, (wr (i2 + 1))))
    else
      (idx? c4.Table i2).bind fun z2 =>
      some (.inl ((decide (z2 = n2)), (wr (i2 + 1))))
  else
    some (.inr has)
noncomputable def r03_owned_1 (n2 : Int) (c4 : GConf) (has : Bool) (i2 : Int) : Option Bool :=
  loopO (fun s : Bool × Int => r03_owned_1_step n2 c4 s.1 s.2) (has, i2)
@[reducible] def r03_owned_1_st (n2 : Int) (c4 : GConf) (has : Bool) (i2 : Int) : PF.St := ⟨[(1, .ptr 101 0), (4, iav n2), (5, .bool has), (6, iav i2)], [(101, ⟨true, GConf.cells c4⟩)]⟩
def r03_owned_1_rel (n2 : Int) (c4 : GConf) (r : Bool) (q : Ex × PF.St) : Prop := (fun r (q : Ex × PF.St) => q = ((.exit 4), ⟨[(1, .ptr 101 0), (4, iav n2), (5, .bool r)], [(101, ⟨true, GConf.cells c4⟩)]⟩)) r q
def r03_owned_1_inv (n2 : Int) (c4 : GConf) (v : Bool × Int) (e : PF.St) : Prop := e = r03_owned_1_st n2 c4 v.1 v.2
theorem r03_owned_1_sim (n2 : Int) (c4 : GConf) (has : Bool) (i2 : Int) (s : PF.St) (hk : keep [1, 4, 5, 6] [101] s = some (r03_owned_1_st n2 c4 has i2)) : Sim (r03_owned_1 n2 c4 has i2) (Gv (r03_owned_1_rel n2 c4)) (LM.loop ([1, 4, 5, 6], [101], [1, 4, 5], B_r03_owned_1) s) := by
  refine sim_loop M XE (r03_owned_1_inv n2 c4) (r03_owned_1_rel n2 c4) ?_ _ _ _ hk rfl
  clear hk
  rintro S hS hw hw8 R hR ⟨has, i2⟩ env hp he
  change (⟨env, hp⟩ : PF.St) = r03_owned_1_st n2 c4 has i2 at he
  cases he
  show Sim (r03_owned_1_step n2 c4 has i2) _ _
  unfold r03_owned_1_step
  simp only [hw]
  refine au ?_
  refine Sim.ki hS (m := (List.length c4.Table : Int)) (by simp) ?_
  refine au (.ite Iff.rfl (fun hc4 => ?_) fun hc4 => ?_)
  · refine au (.iteB (fun hc5 => ?_) fun hc5 => ?_)
    · refine au ?_
      exact Sim.ret ⟨_, _, rfl, rfl, rfl⟩
    · refine au ?_
      refine Sim.ix (by simp) (fun z2 hz2 => ?_)
      refine au ?_
      refine Sim.go (idx_map _ hz2) ?_
      refine au ?_
      exact Sim.ret ⟨_, _, rfl, rfl, rfl⟩
  · exact au (.ret ⟨_, rfl, rfl⟩)
noncomputable def r03_owned_2_step (c3 : GConf) (n0 : Int) : Option ((Int) ⊕ ((Bool) ⊕ (Unit))) :=
  if n0 < c3.N then
    (r03_owned_1 n0 c3 false 0).bind fun r5 =>
    if (!r5) = true then
      some (.inr (.inl false))
    else
      some (.inl (wr (n0 + 1)))
  else
    some (.inr (.inr ()))
noncomputable def r03_owned_2 (c3 : GConf) (n0 : Int) : Option ((Bool) ⊕ (Unit)) :=
  loopO (fun s : Int => r03_owned_2_step c3 s) n0
@[reducible] def r03_owned_2_st (c3 : GConf) (n0 : Int) : PF.St := ⟨[(1, .ptr 101 0), (4, iav n0)], [(101, ⟨true, GConf.cells c3⟩)]⟩
def r03_owned_2_rel (c3 : GConf) (r : ((Bool) ⊕ (Unit))) (q : Ex × PF.St) : Prop := (fun r (q : Ex × PF.St) => Sum.elim (fun r => (fun r (q : Ex × PF.St) => q = (Ex.ret, ⟨[(2, .bool r)], [(101, ⟨true, GConf.cells c3⟩)]⟩)) r q) (fun r => (fun r (q : Ex × PF.St) => q = ((.exit 2), ⟨[(2, .undef)], [(101, ⟨true, GConf.cells c3⟩)]⟩)) r q) r) r q
def r03_owned_2_inv (c3 : GConf) (v : Int) (e : PF.St) : Prop := e = r03_owned_2_st c3 v
theorem r03_owned_2_sim (c3 : GConf) (n0 : Int) (s : PF.St) (hk : keep [1, 4] [101] s = some (r03_owned_2_st c3 n0)) : Sim (r03_owned_2 c3 n0) (Gv (r03_owned_2_rel c3)) (LM.loop ([1, 4], [101], [2], B_r03_owned_2) s) := by
  refine sim_loop M XE (r03_owned_2_inv c3) (r03_owned_2_rel c3) ?_ _ _ _ hk rfl
  clear hk
  rintro S hS hw hw8 R hR n0 env hp he
  change (⟨env, hp⟩ : PF.St) = r03_owned_2_st c3 n0 at he
  cases he
  show Sim (r03_owned_2_step c3 n0) _ _
  unfold r03_owned_2_step
  simp only [hw]
  refine au (.ite Iff.rfl (fun hc3 => ?_) fun hc3 => ?_)
  · refine au ?_
    refine Sim.callL hR (r03_owned_1_sim n0 c3 false 0 _ rfl) ?_
    rintro r5 q rfl
    refine au (.iteB (fun hc6 => ?_) fun hc6 => ?_)
    · exact au (.ret ⟨_, rfl, rfl⟩)
    · refine au ?_
      exact Sim.ret ⟨_, _, rfl, rfl, rfl⟩
  · exact au (.ret ⟨_, rfl, rfl⟩)
noncomputable def r03_owned (c0 : GConf) : Option Bool :=
  (r03_owned_0 c0 0).bind fun r2 =>
  Sum.elim
    (fun r3 =>
      some r3)
    (fun r4 =>
      (r03_owned_2 c0 0).bind fun r6 =>
      Sum.elim
        (fun r7 =>
          some r7)
        (fun r8 =>
          some true)
        r6)
    r2
theorem r03_owned_sim (c0 : GConf) : Sim (r03_owned c0) (Gv fun r q => q = (.bool r, [])) (LM.call n_r03_owned [GConf.av c0] []) := by
  unfold r03_owned
  refine sim_evR M XE rfl rfl fun S hS hw hw8 R hR => ?_
  refine au ?_
  refine Sim.callL hR (r03_owned_0_sim c0 0 _ rfl) ?_
  rintro r2 q hr
  rcases r2 with r3 | r4
  · cases hr
    exact au (.ret ⟨_, rfl, rfl⟩)
  · cases hr
    refine au ?_
    refine Sim.callL hR (r03_owned_2_sim c0 0 _ rfl) ?_
    rintro r6 q hr
    rcases r6 with r7 | r8
    · cases hr
      exact au (.ret ⟨_, rfl, rfl⟩)
    · cases hr
      exact au (.ret ⟨_, rfl, rfl⟩)
noncomputable def r03_Plain (L0 : GConf) : Option Int :=
  (r03_within L0.N 4 13).bind fun r0 =>
  if (!r0) = true then
    some 7
  else
    (r03_within L0.F 0 4).bind fun r2 =>
    if (!r2) = true then
      some 7
    else
      if L0.N ≤ (wr (3 * L0.F)) then
        some 7
      else
        (r03_within L0.D 1 4).bind fun r3 =>
        if (!r3) = true then
          some 10
        else
          (r03_within L0.Period (wr ((wr ((wr (6 * (wr (L0.F + 1)))) * L0.D)) + 1)) 400).bind fun r4 =>
          if (!r4) = true then
            some 8
          else
            (r03_within L0.Rate 1 64).bind fun r5 =>
            if (!r5) = true then
              some 8
            else
              (r03_within L0.Drift 0 (wr (L0.Rate - 1))).bind fun r6 =>
              if (!r6) = true then
                some 8
              else
                (r03_within L0.Offset 0 30000).bind fun r7 =>
                if (!r7) = true then
                  some 8
                else
                  (r03_within L0.Slot 1 30000).bind fun r8 =>
                  if (!r8) = true then
                    some 8
                  else
                    (r03_within L0.Mod 2 250).bind fun r9 =>
                    if (!r9) = true then
                      some 8
                    else
                      (r03_within L0.Fresh 1 100).bind fun r10 =>
                      if (!r10) = true then
                        some 8
                      else
                        (r03_within (List.length L0.Table : Int) 1 32).bind fun r11 =>
                        if (!r11) = true then
                          some 11
                        else
                          (r03_owned L0).bind fun r12 =>
                          if (!r12) = true then
                            some 11
                          else
                            some 0
theorem r03_Plain_sim (L0 : GConf) : Sim (r03_Plain L0) (Gv fun r q => q = (iav r, [])) (LM.call n_r03_Plain [GConf.av L0] []) := by
  unfold r03_Plain
  refine sim_evR M XE rfl rfl fun S hS hw hw8 R hR => ?_
  simp only [hw]
  refine au (cE hR (r03_within_sim _ _ _) fun r0 => ?_)
  refine au (.iteB (fun hc => ?_) fun hc => ?_)
  · exact au (.ret ⟨_, rfl, rfl⟩)
  · refine au (cE hR (r03_within_sim _ _ _) fun r2 => ?_)
    refine au (.iteB (fun hc2 => ?_) fun hc2 => ?_)
    · exact au (.ret ⟨_, rfl, rfl⟩)
    · refine au (.ite Iff.rfl (fun hc3 => ?_) fun hc3 => ?_)
      · exact au (.ret ⟨_, rfl, rfl⟩)
      · refine au (cE hR (r03_within_sim _ _ _) fun r3 => ?_)
        refine au (.iteB (fun hc4 => ?_) fun hc4 => ?_)
        · exact au (.ret ⟨_, rfl, rfl⟩)
        · refine au (cE hR (r03_within_sim _ _ _) fun r4 => ?_)
          refine au (.iteB (fun hc5 => ?_) fun hc5 => ?_)
          · exact au (.ret ⟨_, rfl, rfl⟩)
          · refine au (cE hR (r03_within_sim _ _ _) fun r5 => ?_)
            refine au (.iteB (fun hc6 => ?_) fun hc6 => ?_)
            · exact au (.ret ⟨_, rfl, rfl⟩)
            · refine au (cE hR (r03_within_sim _ _ _) fun r6 => ?_)
              refine au (.iteB (fun hc7 => ?_) fun hc7 => ?_)
              · exact au (.ret ⟨_, rfl, rfl⟩)
              · refine au (cE hR (r03_within_sim _ _ _) fun r7 => ?_)
                refine au (.iteB (fun hc8 => ?_) fun hc8 => ?_)
                · exact au (.ret ⟨_, rfl, rfl⟩)
                · refine au (cE hR (r03_within_sim _ _ _) fun r8 => ?_)
                  refine au (.iteB (fun hc9 => ?_) fun hc9 => ?_)
                  · exact au (.ret ⟨_, rfl, rfl⟩)
                  · refine au (cE hR (r03_within_sim _ _ _) fun r9 => ?_)
                    refine au (.iteB (fun hc10 => ?_) fun hc10 => ?_)
                    · exact au (.ret ⟨_, rfl, rfl⟩)
                    · refine au (cE hR (r03_within_sim _ _ _) fun r10 => ?_)
                      refine au (.iteB (fun hc11 => ?_) fun hc11 => ?_)
                      · exact au (.ret ⟨_, rfl, rfl⟩)
                      · refine au ?_
                        refine Sim.ki hS (m := (List.length L0.Table : Int)) (by simp) ?_
                        refine au (cE hR (r03_within_sim _ _ _) fun r11 => ?_)
                        refine au (.iteB (fun hc12 => ?_) fun hc12 => ?_)
                        · exact au (.ret ⟨_, rfl, rfl⟩)
                        · refine au (cE hR (r03_owned_sim _) fun r12 => ?_)
                          refine au (.iteB (fun hc13 => ?_) fun hc13 => ?_)
                          · exact au (.ret ⟨_, rfl, rfl⟩)
                          · exact au (.ret ⟨_, rfl, rfl⟩)
noncomputable def r03_Length (c0 : GConf) : Option Int :=
  (r03_Plain c0).bind fun r0 =>
  if r0 ≠ 0 then
    some 0
  else
    some (wr ((wr (3 * (wr (c0.F + 1)))) * c0.D))
theorem r03_Length_sim (c0 : GConf) : Sim (r03_Length c0) (Gv fun r q => q = (iav r, [])) (LM.call n_r03_Length [GConf.av c0] []) := by
  unfold r03_Length
  refine sim_evR M XE rfl rfl fun S hS hw hw8 R hR => ?_
  simp only [hw]
  refine au (cE hR (r03_Plain_sim _) fun r0 => ?_)
  refine au (.ite Iff.rfl (fun hc => ?_) fun hc => ?_)
  · exact au (.ret ⟨_, rfl, rfl⟩)
  · exact au (.ret ⟨_, rfl, rfl⟩)
noncomputable def r03_Bits (c0 : GConf) : Option Int :=
  (r03_Plain c0).bind fun r0 =>
  if r0 ≠ 0 then
    some 0
  else
    some (wr (8 + c0.N))
theorem r03_Bits_sim (c0 : GConf) : Sim (r03_Bits c0) (Gv fun r q => q = (iav r, [])) (LM.call n_r03_Bits [GConf.av c0] []) := by
  unfold r03_Bits
  refine sim_evR M XE rfl rfl fun S hS hw hw8 R hR => ?_
  simp only [hw]
  refine au (cE hR (r03_Plain_sim _) fun r0 => ?_)
  refine au (.ite Iff.rfl (fun hc => ?_) fun hc => ?_)
  · exact au (.ret ⟨_, rfl, rfl⟩)
  · exact au (.ret ⟨_, rfl, rfl⟩)
noncomputable def r01_Mod (n0 : Int) (by0 : Int) : Option Int :=
  if by0 < 1 then
    some 0
  else
    if by0 = 0 then none else
    if (Int.tmod n0 by0) < 0 then
      some (wr ((Int.tmod n0 by0) + by0))
    else
      some (Int.tmod n0 by0)
theorem r01_Mod_sim (n0 : Int) (by0 : Int) : Sim (r01_Mod n0 by0) (Gv fun r q => q = (iav r, [])) (LM.call n_r01_Mod [iav n0, iav by0] []) := by
  unfold r01_Mod
  refine sim_evR M XE rfl rfl fun S hS hw hw8 R hR => ?_
  simp only [hw]
  refine au (.ite Iff.rfl (fun hc => ?_) fun hc => ?_)
  · exact au (.ret ⟨_, rfl, rfl⟩)
  · refine au ?_
    refine Sim.ite Iff.rfl (fun _ => Sim.no) (fun hc2 => ?_)
    refine au (.ite Iff.rfl (fun hc3 => ?_) fun hc3 => ?_)
    · exact au (.ret ⟨_, rfl, rfl⟩)
    · exact au (.ret ⟨_, rfl, rfl⟩)
noncomputable def r05_Put (n0 : Int) : Option Int :=
  (r01_Mod n0 65536).bind fun r0 =>
  some r0
theorem r05_Put_sim (n0 : Int) : Sim (r05_Put n0) (Gv fun r q => q = (iav r, [])) (LM.call n_r05_Put [iav n0] []) := by
  unfold r05_Put
  refine sim_evR M XE rfl rfl fun S hS hw hw8 R hR => ?_
  refine au (cE hR (r01_Mod_sim _ _) fun r0 => ?_)
  exact au (.ret ⟨_, rfl, rfl⟩)
noncomputable def r01_Clamp (n0 : Int) (low : Int) (high : Int) : Option Int :=
  if n0 < low then
    some low
  else
    if high < low then
      some low
    else
      some (min n0 high)
theorem r01_Clamp_sim (n0 : Int) (low : Int) (high : Int) : Sim (r01_Clamp n0 low high) (Gv fun r q => q = (iav r, [])) (LM.call n_r01_Clamp [iav n0, iav low, iav high] []) := by
  unfold r01_Clamp
  refine sim_evR M XE rfl rfl fun S hS hw hw8 R hR => ?_
  refine au (.ite Iff.rfl (fun hc => ?_) fun hc => ?_)
  · exact au (.ret ⟨_, rfl, rfl⟩)
  · refine au (.ite Iff.rfl (fun hc2 => ?_) fun hc2 => ?_)
    · exact au (.ret ⟨_, rfl, rfl⟩)
    · exact au (.ret ⟨_, rfl, rfl⟩)
noncomputable def r28_digits_0_step (s2 : List UInt8) (n2 : Int) (last2 : Int) (out : List UInt8) (i0 : Int) : Option (((List UInt8) × Int) ⊕ ((List UInt8))) :=
  if i0 < n2 then
    if i0 < (List.length s2 : Int) then
      (idx? s2 i0).bind fun b0 =>
      if 48 ≤ (UInt8.toNat b0 : Int) then
        (idx? s2 i0).bind fun b2 =>
        if (UInt8.toNat b2 : Int) ≤ last2 then
          if 0 ≤ (wr (i0 + 1)) ∧ (wr (i0 + 1)) ≤ ((List.length s2) : Nat) then
            if 0 ≤ i0 ∧ i0 ≤ ((Int.toNat (wr (i0 + 1))) : Nat) then
              if List.length out + List.length (List.drop (Int.toNat i0) (List.take (Int.toNat (wr (i0 + 1))) s2)) ≤ 9223372036854775807 then
                some (.inl ((out ++ (List.drop (Int.toNat i0) (List.take (Int.toNat (wr (i0 + 1))) s2))), (wr (i0 + 1))))
              else none
            else none
          else none
        else
          if List.length out + List.length ([48] : List UInt8) ≤ 9223372036854775807 then
            some (.inl ((out ++ ([48] : List UInt8)), (wr (i0 + 1))))
          else none
      else
        if List.length out + List.length ([48] : List UInt8) ≤ 9223372036854775807 then
          some (.inl ((out ++ ([48] : List UInt8)), (wr (i0 + 1))))
        else none
    else
      if List.length out + List.length ([48] : List UInt8) ≤ 9223372036854775807 then
        some (.inl ((out ++ ([48] : List UInt8)), (wr (i0 + 1))))
      else none
  else
    some (.inr out)
noncomputable def r28_digits_0 (s2 : List UInt8) (n2 : Int) (last2 : Int) (out : List UInt8) (i0 : Int) : Option ((List UInt8)) :=
  loopO (fun s : (List UInt8) × Int => r28_digits_0_step s2 n2 last2 s.1 s.2) (out, i0)
@[reducible] def r28_digits_0_st (s2 : List UInt8) (n2 : Int) (last2 : Int) (out : List UInt8) (i0 : Int) : PF.St := ⟨[(0, .str s2), (1, iav n2), (2, u8av last2), (7, .str out), (8, iav i0)], []⟩
def r28_digits_0_rel (s2 : List UInt8) (n2 : Int) (last2 : Int) (r : ((List UInt8))) (q : Ex × PF.St) : Prop := (fun r (q : Ex × PF.St) => q = ((.exit 0), ⟨[(7, .str r)], []⟩)) r q
def r28_digits_0_inv (s2 : List UInt8) (n2 : Int) (last2 : Int) (v : (List UInt8) × Int) (e : PF.St) : Prop := e = r28_digits_0_st s2 n2 last2 v.1 v.2
theorem r28_digits_0_sim (s2 : List UInt8) (n2 : Int) (last2 : Int) (out : List UInt8) (i0 : Int) (s : PF.St) (hk : keep [0, 1, 2, 7, 8] [] s = some (r28_digits_0_st s2 n2 last2 out i0)) : Sim (r28_digits_0 s2 n2 last2 out i0) (Gv (r28_digits_0_rel s2 n2 last2)) (LM.loop ([0, 1, 2, 7, 8], [], [7], B_r28_digits_0) s) := by
  refine sim_loop M XE (r28_digits_0_inv s2 n2 last2) (r28_digits_0_rel s2 n2 last2) ?_ _ _ _ hk rfl
  clear hk
  rintro S hS hw hw8 R hR ⟨out, i0⟩ env hp he
  change (⟨env, hp⟩ : PF.St) = r28_digits_0_st s2 n2 last2 out i0 at he
  cases he
  show Sim (r28_digits_0_step s2 n2 last2 out i0) _ _
  unfold r28_digits_0_step
  simp only [hw]
  refine au (.ite Iff.rfl (fun hc => ?_) fun hc => ?_)
  · refine au (.ite Iff.rfl (fun hc2 => ?_) fun hc2 => ?_)
    · refine au ?_
      refine Sim.ix rfl (fun b0 hb0 => ?_)
      refine au ?_
      refine Sim.go hb0 ?_
      refine au (.ite Iff.rfl (fun hc3 => ?_) fun hc3 => ?_)
      · refine au ?_
        refine Sim.ix rfl (fun b2 hb2 => ?_)
        refine au ?_
        refine Sim.go hb2 ?_
        refine au (.ite Iff.rfl (fun hc4 => ?_) fun hc4 => ?_)
        · refine au ?_
          first | refine Sim.ite Iff.rfl (fun _ => ?_) (fun _ => Sim.no) | refine Sim.guard (fun _ => ?_)
          refine au ?_
          first | refine Sim.ite Iff.rfl (fun _ => ?_) (fun _ => Sim.no) | refine Sim.guard (fun _ => ?_)
          refine au ?_
          first | refine Sim.ite Iff.rfl (fun _ => ?_) (fun _ => Sim.no) | refine Sim.guard (fun _ => ?_)
          refine au ?_
          exact Sim.ret ⟨_, _, rfl, rfl, rfl⟩
        · refine au ?_
          first | refine Sim.ite Iff.rfl (fun _ => ?_) (fun _ => Sim.no) | refine Sim.guard (fun _ => ?_)
          refine au ?_
          exact Sim.ret ⟨_, _, rfl, rfl, rfl⟩
      · refine au ?_
        first | refine Sim.ite Iff.rfl (fun _ => ?_) (fun _ => Sim.no) | refine Sim.guard (fun _ => ?_)
        refine au ?_
        exact Sim.ret ⟨_, _, rfl, rfl, rfl⟩
    · refine au ?_
      first | refine Sim.ite Iff.rfl (fun _ => ?_) (fun _ => Sim.no) | refine Sim.guard (fun _ => ?_)
      refine au ?_
      exact Sim.ret ⟨_, _, rfl, rfl, rfl⟩
  · exact au (.ret ⟨_, rfl, rfl⟩)
noncomputable def r28_digits (s0 : List UInt8) (n0 : Int) (last : Int) : Option ((List UInt8)) :=
  (r28_digits_0 s0 n0 last ([] : List UInt8) 0).bind fun r0 =>
  some r0
theorem r28_digits_sim (s0 : List UInt8) (n0 : Int) (last : Int) : Sim (r28_digits s0 n0 last) (Gv fun r q => q = (.str r, [])) (LM.call n_r28_digits [.str s0, iav n0, u8av last] []) := by
  unfold r28_digits
  refine sim_evR M XE rfl rfl fun S hS hw hw8 R hR => ?_
  refine au ?_
  refine Sim.callL hR (r28_digits_0_sim s0 n0 last ([] : List UInt8) 0 _ rfl) ?_
  rintro r0 q rfl
  exact au (.ret ⟨_, rfl, rfl⟩)
noncomputable def r28_row (s0 : List UInt8) (n0 : Int) (last : Int) : Option ((List UInt8)) :=
  if (List.length s0 : Int) ≠ n0 then
    some ([] : List UInt8)
  else
    (r28_digits s0 n0 last).bind fun r0 =>
    some r0
theorem r28_row_sim (s0 : List UInt8) (n0 : Int) (last : Int) : Sim (r28_row s0 n0 last) (Gv fun r q => q = (.str r, [])) (LM.call n_r28_row [.str s0, iav n0, u8av last] []) := by
  unfold r28_row
  refine sim_evR M XE rfl rfl fun S hS hw hw8 R hR => ?_
  refine au (.ite Iff.rfl (fun hc => ?_) fun hc => ?_)
  · exact au (.ret ⟨_, rfl, rfl⟩)
  · refine au (cE hR (r28_digits_sim _ _ _) fun r0 => ?_)
    exact au (.ret ⟨_, rfl, rfl⟩)
noncomputable def r23_Has (marks : List UInt8) (at0 : Int) : Option Bool :=
  if 0 ≤ at0 then
    if at0 < (List.length marks : Int) then
      (idx? marks at0).bind fun b0 =>
      some (decide ((UInt8.toNat b0 : Int) = 49))
    else
      some false
  else
    some false
theorem r23_Has_sim (marks : List UInt8) (at0 : Int) : Sim (r23_Has marks at0) (Gv fun r q => q = (.bool r, [])) (LM.call n_r23_Has [.str marks, iav at0] []) := by
  unfold r23_Has
  refine sim_evR M XE rfl rfl fun S hS hw hw8 R hR => ?_
  refine au (.ite Iff.rfl (fun hc => ?_) fun hc => ?_)
  · refine au (.ite Iff.rfl (fun hc2 => ?_) fun hc2 => ?_)
    · refine au ?_
      refine Sim.ix rfl (fun b0 hb0 => ?_)
      refine au ?_
      refine Sim.go hb0 ?_
      exact au (.ret ⟨_, rfl, rfl⟩)
    · exact au (.ret ⟨_, rfl, rfl⟩)
  · exact au (.ret ⟨_, rfl, rfl⟩)
noncomputable def r14_In_0_step (l2 : List Int) (n2 : Int) (i0 : Int) : Option ((Int) ⊕ ((Bool) ⊕ (Unit))) :=
  if i0 < (List.length l2 : Int) then
    (idx? l2 i0).bind fun z0 =>
    if z0 = n2 then
      some (.inr (.inl true))
    else
      some (.inl (wr (i0 + 1)))
  else
    some (.inr (.inr ()))
noncomputable def r14_In_0 (l2 : List Int) (n2 : Int) (i0 : Int) : Option ((Bool) ⊕ (Unit)) :=
  loopO (fun s : Int => r14_In_0_step l2 n2 s) i0
@[reducible] def r14_In_0_st (l2 : List Int) (n2 : Int) (i0 : Int) : PF.St := ⟨[(0, lav iav l2), (1, iav n2), (5, iav i0)], []⟩
def r14_In_0_rel (l2 : List Int) (n2 : Int) (r : ((Bool) ⊕ (Unit))) (q : Ex × PF.St) : Prop := (fun r (q : Ex × PF.St) => Sum.elim (fun r => (fun r (q : Ex × PF.St) => q = (Ex.ret, ⟨[(4, .bool r)], []⟩)) r q) (fun r => (fun r (q : Ex × PF.St) => q = ((.exit 0), ⟨[(4, .undef)], []⟩)) r q) r) r q
def r14_In_0_inv (l2 : List Int) (n2 : Int) (v : Int) (e : PF.St) : Prop := e = r14_In_0_st l2 n2 v
theorem r14_In_0_sim (l2 : List Int) (n2 : Int) (i0 : Int) (s : PF.St) (hk : keep [0, 1, 5] [] s = some (r14_In_0_st l2 n2 i0)) : Sim (r14_In_0 l2 n2 i0) (Gv (r14_In_0_rel l2 n2)) (LM.loop ([0, 1, 5], [], [4], B_r14_In_0) s) := by
  refine sim_loop M XE (r14_In_0_inv l2 n2) (r14_In_0_rel l2 n2) ?_ _ _ _ hk rfl
  clear hk
  rintro S hS hw hw8 R hR i0 env hp he
  change (⟨env, hp⟩ : PF.St) = r14_In_0_st l2 n2 i0 at he
  cases he
  show Sim (r14_In_0_step l2 n2 i0) _ _
  unfold r14_In_0_step
  simp only [hw]
  refine au ?_
  refine Sim.ki hS (m := (List.length l2 : Int)) (by simp) ?_
  refine au (.ite Iff.rfl (fun hc => ?_) fun hc => ?_)
  · refine au ?_
    refine Sim.ix (by simp) (fun z0 hz0 => ?_)
    refine au ?_
    refine Sim.go (idx_map _ hz0) ?_
    refine au (.ite Iff.rfl (fun hc2 => ?_) fun hc2 => ?_)
    · exact au (.ret ⟨_, rfl, rfl⟩)
    · refine au ?_
      exact Sim.ret ⟨_, _, rfl, rfl, rfl⟩
  · exact au (.ret ⟨_, rfl, rfl⟩)
noncomputable def r14_In (l0 : List Int) (n0 : Int) : Option Bool :=
  (r14_In_0 l0 n0 0).bind fun r0 =>
  Sum.elim
    (fun r2 =>
      some r2)
    (fun r3 =>
      some false)
    r0
theorem r14_In_sim (l0 : List Int) (n0 : Int) : Sim (r14_In l0 n0) (Gv fun r q => q = (.bool r, [])) (LM.call n_r14_In [lav iav l0, iav n0] []) := by
  unfold r14_In
  refine sim_evR M XE rfl rfl fun S hS hw hw8 R hR => ?_
  refine au ?_
  refine Sim.callL hR (r14_In_0_sim l0 n0 0 _ rfl) ?_
  rintro r0 q hr
  rcases r0 with r2 | r3
  · cases hr
    exact au (.ret ⟨_, rfl, rfl⟩)
  · cases hr
    exact au (.ret ⟨_, rfl, rfl⟩)
noncomputable def r23_Mark_0_step (marks2 : List UInt8) (n2 : Int) (at2 : List Int) (out : List UInt8) (i0 : Int) : Option (((List UInt8) × Int) ⊕ ((List UInt8))) :=
  (r01_Clamp n2 0 64).bind fun r0 =>
  if i0 < r0 then
    (r23_Has marks2 i0).bind fun r2 =>
    if r2 = true then
      if List.length out + List.length ([49] : List UInt8) ≤ 9223372036854775807 then
        some (.inl ((out ++ ([49] : List UInt8)), (wr (i0 + 1))))
      else none
    else
      (r14_In at2 i0).bind fun r3 =>
      if r3 = true then
        if List.length out + List.length ([49] : List UInt8) ≤ 9223372036854775807 then
          some (.inl ((out ++ ([49] : List UInt8)), (wr (i0 + 1))))
        else none
      else
        if List.length out + List.length ([48] : List UInt8) ≤ 9223372036854775807 then
          some (.inl ((out ++ ([48] : List UInt8)), (wr (i0 + 1))))
        else none
  else
    some (.inr out)
noncomputable def r23_Mark_0 (marks2 : List UInt8) (n2 : Int) (at2 : List Int) (out : List UInt8) (i0 : Int) : Option ((List UInt8)) :=
  loopO (fun s : (List UInt8) × Int => r23_Mark_0_step marks2 n2 at2 s.1 s.2) (out, i0)
@[reducible] def r23_Mark_0_st (marks2 : List UInt8) (n2 : Int) (at2 : List Int) (out : List UInt8) (i0 : Int) : PF.St := ⟨[(0, .str marks2), (1, iav n2), (2, lav iav at2), (7, .str out), (8, iav i0)], []⟩
def r23_Mark_0_rel (marks2 : List UInt8) (n2 : Int) (at2 : List Int) (r : ((List UInt8))) (q : Ex × PF.St) : Prop := (fun r (q : Ex × PF.St) => q = ((.exit 0), ⟨[(7, .str r)], []⟩)) r q
def r23_Mark_0_inv (marks2 : List UInt8) (n2 : Int) (at2 : List Int) (v : (List UInt8) × Int) (e : PF.St) : Prop := e = r23_Mark_0_st marks2 n2 at2 v.1 v.2
theorem r23_Mark_0_sim (marks2 : List UInt8) (n2 : Int) (at2 : List Int) (out : List UInt8) (i0 : Int) (s : PF.St) (hk : keep [0, 1, 2, 7, 8] [] s = some (r23_Mark_0_st marks2 n2 at2 out i0)) : Sim (r23_Mark_0 marks2 n2 at2 out i0) (Gv (r23_Mark_0_rel marks2 n2 at2)) (LM.loop ([0, 1, 2, 7, 8], [], [7], B_r23_Mark_0) s) := by
  refine sim_loop M XE (r23_Mark_0_inv marks2 n2 at2) (r23_Mark_0_rel marks2 n2 at2) ?_ _ _ _ hk rfl
  clear hk
  rintro S hS hw hw8 R hR ⟨out, i0⟩ env hp he
  change (⟨env, hp⟩ : PF.St) = r23_Mark_0_st marks2 n2 at2 out i0 at he
  cases he
  show Sim (r23_Mark_0_step marks2 n2 at2 out i0) _ _
  unfold r23_Mark_0_step
  simp only [hw]
  refine au (cE hR (r01_Clamp_sim _ _ _) fun r0 => ?_)
  refine au (.ite Iff.rfl (fun hc => ?_) fun hc => ?_)
  · refine au (cE hR (r23_Has_sim _ _) fun r2 => ?_)
    refine au (.iteB (fun hc2 => ?_) fun hc2 => ?_)
    · refine au ?_
      first | refine Sim.ite Iff.rfl (fun _ => ?_) (fun _ => Sim.no) | refine Sim.guard (fun _ => ?_)
      refine au ?_
      exact Sim.ret ⟨_, _, rfl, rfl, rfl⟩
    · refine au (cE hR (r14_In_sim _ _) fun r3 => ?_)
      refine au (.iteB (fun hc3 => ?_) fun hc3 => ?_)
      · refine au ?_
        first | refine Sim.ite Iff.rfl (fun _ => ?_) (fun _ => Sim.no) | refine Sim.guard (fun _ => ?_)
        refine au ?_
        exact Sim.ret ⟨_, _, rfl, rfl, rfl⟩
      · refine au ?_
        first | refine Sim.ite Iff.rfl (fun _ => ?_) (fun _ => Sim.no) | refine Sim.guard (fun _ => ?_)
        refine au ?_
        exact Sim.ret ⟨_, _, rfl, rfl, rfl⟩
  · exact au (.ret ⟨_, rfl, rfl⟩)
noncomputable def r23_Mark (marks : List UInt8) (n0 : Int) (at0 : List Int) : Option ((List UInt8)) :=
  (r23_Mark_0 marks n0 at0 ([] : List UInt8) 0).bind fun r4 =>
  some r4
theorem r23_Mark_sim (marks : List UInt8) (n0 : Int) (at0 : List Int) : Sim (r23_Mark marks n0 at0) (Gv fun r q => q = (.str r, [])) (LM.call n_r23_Mark [.str marks, iav n0, lav iav at0] []) := by
  unfold r23_Mark
  refine sim_evR M XE rfl rfl fun S hS hw hw8 R hR => ?_
  refine au ?_
  refine Sim.callL hR (r23_Mark_0_sim marks n0 at0 ([] : List UInt8) 0 _ rfl) ?_
  rintro r4 q rfl
  exact au (.ret ⟨_, rfl, rfl⟩)
noncomputable def r25_Mark (c0 : GConf) (marks : List UInt8) (nodes : List Int) : Option ((List UInt8)) :=
  (r23_Mark marks c0.N nodes).bind fun r0 =>
  some r0
theorem r25_Mark_sim (c0 : GConf) (marks : List UInt8) (nodes : List Int) : Sim (r25_Mark c0 marks nodes) (Gv fun r q => q = (.str r, [])) (LM.call n_r25_Mark [GConf.av c0, .str marks, lav iav nodes] []) := by
  unfold r25_Mark
  refine sim_evR M XE rfl rfl fun S hS hw hw8 R hR => ?_
  refine au (cE hR (r23_Mark_sim _ _ _) fun r0 => ?_)
  exact au (.ret ⟨_, rfl, rfl⟩)
noncomputable def r28_cut (s0 : List UInt8) (n0 : Int) : Option ((List UInt8)) :=
  if 0 ≤ (min (List.length s0 : Int) n0) ∧ (min (List.length s0 : Int) n0) ≤ ((List.length s0) : Nat) then
    some (List.take (Int.toNat (min (List.length s0 : Int) n0)) s0)
  else none
theorem r28_cut_sim (s0 : List UInt8) (n0 : Int) : Sim (r28_cut s0 n0) (Gv fun r q => q = (.str r, [])) (LM.call n_r28_cut [.str s0, iav n0] []) := by
  unfold r28_cut
  refine sim_evR M XE rfl rfl fun S hS hw hw8 R hR => ?_
  refine au ?_
  first | refine Sim.ite Iff.rfl (fun _ => ?_) (fun _ => Sim.no) | refine Sim.guard (fun _ => ?_)
  exact au (.ret ⟨_, rfl, rfl⟩)
noncomputable def r26_Blank_0_step (c2 : GConf) (out : List GPort) (i0 : Int) : Option (((List GPort) × Int) ⊕ ((List GPort))) :=
  if i0 < c2.N then
    if List.length out + List.length [(GPort.mk ([] : List UInt8) 0 c2.Fresh)] ≤ lenMax then
      some (.inl ((out ++ [(GPort.mk ([] : List UInt8) 0 c2.Fresh)]), (wr (i0 + 1))))
    else none
  else
    some (.inr out)
noncomputable def r26_Blank_0 (c2 : GConf) (out : List GPort) (i0 : Int) : Option ((List GPort)) :=
  loopO (fun s : (List GPort) × Int => r26_Blank_0_step c2 s.1 s.2) (out, i0)
@[reducible] def r26_Blank_0_st (c2 : GConf) (out : List GPort) (i0 : Int) (g0 : Gr) : PF.St := ⟨[(1, .ptr 101 0), (3, .lst g0 (List.map GPort.av out)), (4, iav i0)], [(101, ⟨true, GConf.cells c2⟩)]⟩
def r26_Blank_0_rel (c2 : GConf) (r : ((List GPort))) (q : Ex × PF.St) : Prop := (fun r (q : Ex × PF.St) => ∃ g0', q = ((.exit 0), ⟨[(3, .lst g0' (List.map GPort.av r))], [(101, ⟨true, GConf.cells c2⟩)]⟩) ∧ Mg 3 g0') r q
def r26_Blank_0_inv (c2 : GConf) (v : (List GPort) × Int) (e : PF.St) : Prop := ∃ g0, e = r26_Blank_0_st c2 v.1 v.2 g0 ∧ Mg 3 g0
theorem r26_Blank_0_sim (c2 : GConf) (out : List GPort) (i0 : Int) (g0 : Gr) (hg0 : Mg 3 g0) (s : PF.St) (hk : keep [1, 3, 4] [101] s = some (r26_Blank_0_st c2 out i0 g0)) : Sim (r26_Blank_0 c2 out i0) (Gv (r26_Blank_0_rel c2)) (LM.loop ([1, 3, 4], [101], [3], B_r26_Blank_0) s) := by
  refine sim_loop M XE (r26_Blank_0_inv c2) (r26_Blank_0_rel c2) ?_ _ _ _ hk ⟨g0, rfl, hg0⟩
  clear hk hg0
  rintro S hS hw hw8 R hR ⟨out, i0⟩ env hp ⟨g0, he, hg0⟩
  change (⟨env, hp⟩ : PF.St) = r26_Blank_0_st c2 out i0 g0 at he
  cases he
  show Sim (r26_Blank_0_step c2 out i0) _ _
  unfold r26_Blank_0_step
  simp only [hw]
  refine au (.ite Iff.rfl (fun hc2 => ?_) fun hc2 => ?_)
  · refine au ?_
    refine Sim.kl hS (ys := List.map GPort.av [(GPort.mk ([] : List UInt8) 0 c2.Fresh)]) rfl ?_
    refine au ?_
    first | (refine Sim.goB (may_map (by intro _; rfl) hg0 _) ?_) | skip
    refine au ?_
    first | (refine Sim.goB (okE_map (by intro _; exact ⟨rfl, rfl, rfl⟩) _) ?_) | skip
    refine au ?_
    first | refine Sim.ite (by simp) (fun _ => ?_) (fun _ => Sim.no) | refine Sim.guard (fun _ => ?_)
    refine au ?_
    refine Sim.kl hS (ys := List.map GPort.av (out ++ [(GPort.mk ([] : List UInt8) 0 c2.Fresh)])) (by simp) ?_
    refine au ?_
    exact Sim.ret ⟨_, _, rfl, rfl, ⟨_, rfl, Mg.own⟩⟩
  · refine au ?_
    exact Sim.ret ⟨_, rfl, ⟨_, rfl, hg0⟩⟩
noncomputable def r26_Blank (c0 : GConf) : Option ((List GPort)) :=
  (r03_Plain c0).bind fun r0 =>
  if r0 ≠ 0 then
    some ([] : List GPort)
  else
    (r26_Blank_0 c0 ([] : List GPort) 0).bind fun r2 =>
    some r2
theorem r26_Blank_sim (c0 : GConf) : Sim (r26_Blank c0) (Gv fun r q => q = (lav GPort.av r, [])) (LM.call n_r26_Blank [GConf.av c0] []) := by
  unfold r26_Blank
  refine sim_evR M XE rfl rfl fun S hS hw hw8 R hR => ?_
  refine au (cE hR (r03_Plain_sim _) fun r0 => ?_)
  refine au (.ite Iff.rfl (fun hc => ?_) fun hc => ?_)
  · exact au (.ret ⟨_, rfl, rfl⟩)
  · refine au ?_
    refine Sim.callL hR (r26_Blank_0_sim c0 ([] : List GPort) 0 .full Mg.full _ rfl) ?_
    rintro r2 q ⟨g2, rfl, hg2⟩
    exact au (.ret ⟨_, rfl, rfl⟩)
noncomputable def r28_ports_0_step (l2 : List GPort) (c2 : GConf) (out : List GPort) (i0 : Int) : Option (((List GPort) × Int) ⊕ ((List GPort))) :=
  if i0 < (List.length l2 : Int) then
    (idx? l2 i0).bind fun z0 =>
    (r28_cut z0.Text 16).bind fun r2 =>
    (idx? l2 i0).bind fun z2 =>
    (r01_Mod z2.Cycle c2.Mod).bind fun r3 =>
    (idx? l2 i0).bind fun z3 =>
    (r01_Clamp z3.Age 0 c2.Fresh).bind fun r4 =>
    if List.length out + List.length [(GPort.mk r2 r3 r4)] ≤ lenMax then
      some (.inl ((out ++ [(GPort.mk r2 r3 r4)]), (wr (i0 + 1))))
    else none
  else
    some (.inr out)
noncomputable def r28_ports_0 (l2 : List GPort) (c2 : GConf) (out : List GPort) (i0 : Int) : Option ((List GPort)) :=
  loopO (fun s : (List GPort) × Int => r28_ports_0_step l2 c2 s.1 s.2) (out, i0)
@[reducible] def r28_ports_0_st (l2 : List GPort) (c2 : GConf) (out : List GPort) (i0 : Int) (g0 : Gr) : PF.St := ⟨[(1, lav GPort.av l2), (2, .ptr 102 0), (5, .lst g0 (List.map GPort.av out)), (6, iav i0)], [(102, ⟨true, GConf.cells c2⟩)]⟩
def r28_ports_0_rel (l2 : List GPort) (c2 : GConf) (r : ((List GPort))) (q : Ex × PF.St) : Prop := (fun r (q : Ex × PF.St) => ∃ g0', q = ((.exit 0), ⟨[(5, .lst g0' (List.map GPort.av r))], [(102, ⟨true, GConf.cells c2⟩)]⟩) ∧ Mg 3 g0') r q
def r28_ports_0_inv (l2 : List GPort) (c2 : GConf) (v : (List GPort) × Int) (e : PF.St) : Prop := ∃ g0, e = r28_ports_0_st l2 c2 v.1 v.2 g0 ∧ Mg 3 g0
theorem r28_ports_0_sim (l2 : List GPort) (c2 : GConf) (out : List GPort) (i0 : Int) (g0 : Gr) (hg0 : Mg 3 g0) (s : PF.St) (hk : keep [1, 2, 5, 6] [102] s = some (r28_ports_0_st l2 c2 out i0 g0)) : Sim (r28_ports_0 l2 c2 out i0) (Gv (r28_ports_0_rel l2 c2)) (LM.loop ([1, 2, 5, 6], [102], [5], B_r28_ports_0) s) := by
  refine sim_loop M XE (r28_ports_0_inv l2 c2) (r28_ports_0_rel l2 c2) ?_ _ _ _ hk ⟨g0, rfl, hg0⟩
  clear hk hg0
  rintro S hS hw hw8 R hR ⟨out, i0⟩ env hp ⟨g0, he, hg0⟩
  change (⟨env, hp⟩ : PF.St) = r28_ports_0_st l2 c2 out i0 g0 at he
  cases he
  show Sim (r28_ports_0_step l2 c2 out i0) _ _
  unfold r28_ports_0_step
  simp only [hw]
  refine au ?_
  refine Sim.ki hS (m := (List.length l2 : Int)) (by simp) ?_
  refine au (.ite Iff.rfl (fun hc2 => ?_) fun hc2 => ?_)
  · refine au ?_
    refine Sim.ix (by simp) (fun z0 hz0 => ?_)
    refine au ?_
    refine Sim.go (idx_map _ hz0) ?_
    refine au (cE hR (r28_cut_sim _ _) fun r2 => ?_)
    refine au ?_
    refine Sim.ix (by simp) (fun z2 hz2 => ?_)
    refine au ?_
    refine Sim.go (idx_map _ hz2) ?_
    refine au (cE hR (r01_Mod_sim _ _) fun r3 => ?_)
    refine au ?_
    refine Sim.ix (by simp) (fun z3 hz3 => ?_)
    refine au ?_
    refine Sim.go (idx_map _ hz3) ?_
    refine au (cE hR (r01_Clamp_sim _ _ _) fun r4 => ?_)
    refine au ?_
    refine Sim.kl hS (ys := List.map GPort.av [(GPort.mk r2 r3 r4)]) rfl ?_
    refine au ?_
    first | (refine Sim.goB (may_map (by intro _; rfl) hg0 _) ?_) | skip
    refine au ?_
    first | (refine Sim.goB (okE_map (by intro _; exact ⟨rfl, rfl, rfl⟩) _) ?_) | skip
    refine au ?_
    first | refine Sim.ite (by simp) (fun _ => ?_) (fun _ => Sim.no) | refine Sim.guard (fun _ => ?_)
    refine au ?_
    refine Sim.kl hS (ys := List.map GPort.av (out ++ [(GPort.mk r2 r3 r4)])) (by simp) ?_
    refine au ?_
    exact Sim.ret ⟨_, _, rfl, rfl, ⟨_, rfl, Mg.own⟩⟩
  · refine au ?_
    exact Sim.ret ⟨_, rfl, ⟨_, rfl, hg0⟩⟩
noncomputable def r28_ports (c0 : GConf) (l0 : List GPort) : Option ((List GPort)) :=
  if (List.length l0 : Int) ≠ c0.N then
    (r26_Blank c0).bind fun r0 =>
    some r0
  else
    (r28_ports_0 l0 c0 ([] : List GPort) 0).bind fun r5 =>
    some r5
theorem r28_ports_sim (c0 : GConf) (l0 : List GPort) : Sim (r28_ports c0 l0) (Gv fun r q => q = (lav GPort.av r, [])) (LM.call n_r28_ports [GConf.av c0, lav GPort.av l0] []) := by
  unfold r28_ports
  refine sim_evR M XE rfl rfl fun S hS hw hw8 R hR => ?_
  refine au ?_
  refine Sim.ki hS (m := (List.length l0 : Int)) (by simp) ?_
  refine au (.ite Iff.rfl (fun hc => ?_) fun hc => ?_)
  · refine au (cE hR (r26_Blank_sim _) fun r0 => ?_)
    exact au (.ret ⟨_, rfl, rfl⟩)
  · refine au ?_
    refine Sim.callL hR (r28_ports_0_sim l0 c0 ([] : List GPort) 0 .full Mg.full _ rfl) ?_
    rintro r5 q ⟨g2, rfl, hg2⟩
    exact au (.ret ⟨_, rfl, rfl⟩)
noncomputable def r12_Empty_0_step (c2 : GConf) (out : List (List UInt8)) (i0 : Int) : Option (((List (List UInt8)) × Int) ⊕ ((List (List UInt8)))) :=
  if i0 < (wr (c2.N * c2.D)) then
    if List.length out + List.length [([] : List UInt8)] ≤ lenMax then
      some (.inl ((out ++ [([] : List UInt8)]), (wr (i0 + 1))))
    else none
  else
    some (.inr out)
noncomputable def r12_Empty_0 (c2 : GConf) (out : List (List UInt8)) (i0 : Int) : Option ((List (List UInt8))) :=
  loopO (fun s : (List (List UInt8)) × Int => r12_Empty_0_step c2 s.1 s.2) (out, i0)
@[reducible] def r12_Empty_0_st (c2 : GConf) (out : List (List UInt8)) (i0 : Int) (g0 : Gr) : PF.St := ⟨[(1, .ptr 101 0), (3, .lst g0 (List.map sav out)), (4, iav i0)], [(101, ⟨true, GConf.cells c2⟩)]⟩
def r12_Empty_0_rel (c2 : GConf) (r : ((List (List UInt8)))) (q : Ex × PF.St) : Prop := (fun r (q : Ex × PF.St) => ∃ g0', q = ((.exit 0), ⟨[(3, .lst g0' (List.map sav r))], [(101, ⟨true, GConf.cells c2⟩)]⟩) ∧ Mg 1 g0') r q
def r12_Empty_0_inv (c2 : GConf) (v : (List (List UInt8)) × Int) (e : PF.St) : Prop := ∃ g0, e = r12_Empty_0_st c2 v.1 v.2 g0 ∧ Mg 1 g0
theorem r12_Empty_0_sim (c2 : GConf) (out : List (List UInt8)) (i0 : Int) (g0 : Gr) (hg0 : Mg 1 g0) (s : PF.St) (hk : keep [1, 3, 4] [101] s = some (r12_Empty_0_st c2 out i0 g0)) : Sim (r12_Empty_0 c2 out i0) (Gv (r12_Empty_0_rel c2)) (LM.loop ([1, 3, 4], [101], [3], B_r12_Empty_0) s) := by
  refine sim_loop M XE (r12_Empty_0_inv c2) (r12_Empty_0_rel c2) ?_ _ _ _ hk ⟨g0, rfl, hg0⟩
  clear hk hg0
  rintro S hS hw hw8 R hR ⟨out, i0⟩ env hp ⟨g0, he, hg0⟩
  change (⟨env, hp⟩ : PF.St) = r12_Empty_0_st c2 out i0 g0 at he
  cases he
  show Sim (r12_Empty_0_step c2 out i0) _ _
  unfold r12_Empty_0_step
  simp only [hw]
  refine au (.ite Iff.rfl (fun hc2 => ?_) fun hc2 => ?_)
  · refine au ?_
    refine Sim.kl hS (ys := List.map sav [([] : List UInt8)]) rfl ?_
    refine au ?_
    first | (refine Sim.goB (may_map (by intro _; rfl) hg0 _) ?_) | skip
    refine au ?_
    first | (refine Sim.goB (okE_map (by intro _; exact ⟨rfl, rfl, rfl⟩) _) ?_) | skip
    refine au ?_
    first | refine Sim.ite (by simp) (fun _ => ?_) (fun _ => Sim.no) | refine Sim.guard (fun _ => ?_)
    refine au ?_
    refine Sim.kl hS (ys := List.map sav (out ++ [([] : List UInt8)])) (by simp) ?_
    refine au ?_
    exact Sim.ret ⟨_, _, rfl, rfl, ⟨_, rfl, Mg.own⟩⟩
  · refine au ?_
    exact Sim.ret ⟨_, rfl, ⟨_, rfl, hg0⟩⟩
noncomputable def r12_Empty (c0 : GConf) : Option ((List (List UInt8))) :=
  (r03_Plain c0).bind fun r0 =>
  if r0 ≠ 0 then
    some ([] : List (List UInt8))
  else
    (r12_Empty_0 c0 ([] : List (List UInt8)) 0).bind fun r2 =>
    some r2
theorem r12_Empty_sim (c0 : GConf) : Sim (r12_Empty c0) (Gv fun r q => q = (lav sav r, [])) (LM.call n_r12_Empty [GConf.av c0] []) := by
  unfold r12_Empty
  refine sim_evR M XE rfl rfl fun S hS hw hw8 R hR => ?_
  refine au (cE hR (r03_Plain_sim _) fun r0 => ?_)
  refine au (.ite Iff.rfl (fun hc => ?_) fun hc => ?_)
  · exact au (.ret ⟨_, rfl, rfl⟩)
  · refine au ?_
    refine Sim.callL hR (r12_Empty_0_sim c0 ([] : List (List UInt8)) 0 .full Mg.full _ rfl) ?_
    rintro r2 q ⟨g2, rfl, hg2⟩
    exact au (.ret ⟨_, rfl, rfl⟩)
noncomputable def r28_held_0_step (l2 : List (List UInt8)) (c2 : GConf) (out : List (List UInt8)) (i0 : Int) : Option (((List (List UInt8)) × Int) ⊕ ((List (List UInt8)))) :=
  if i0 < (List.length l2 : Int) then
    (idx? l2 i0).bind fun z0 =>
    (r28_cut z0 40).bind fun r2 =>
    if List.length out + List.length [r2] ≤ lenMax then
      some (.inl ((out ++ [r2]), (wr (i0 + 1))))
    else none
  else
    some (.inr out)
noncomputable def r28_held_0 (l2 : List (List UInt8)) (c2 : GConf) (out : List (List UInt8)) (i0 : Int) : Option ((List (List UInt8))) :=
  loopO (fun s : (List (List UInt8)) × Int => r28_held_0_step l2 c2 s.1 s.2) (out, i0)
@[reducible] def r28_held_0_st (l2 : List (List UInt8)) (c2 : GConf) (out : List (List UInt8)) (i0 : Int) (g0 : Gr) : PF.St := ⟨[(1, lav sav l2), (5, .lst g0 (List.map sav out)), (6, iav i0)], [(102, ⟨true, GConf.cells c2⟩)]⟩
def r28_held_0_rel (l2 : List (List UInt8)) (c2 : GConf) (r : ((List (List UInt8)))) (q : Ex × PF.St) : Prop := (fun r (q : Ex × PF.St) => ∃ g0', q = ((.exit 0), ⟨[(5, .lst g0' (List.map sav r))], [(102, ⟨true, GConf.cells c2⟩)]⟩) ∧ Mg 1 g0') r q
def r28_held_0_inv (l2 : List (List UInt8)) (c2 : GConf) (v : (List (List UInt8)) × Int) (e : PF.St) : Prop := ∃ g0, e = r28_held_0_st l2 c2 v.1 v.2 g0 ∧ Mg 1 g0
theorem r28_held_0_sim (l2 : List (List UInt8)) (c2 : GConf) (out : List (List UInt8)) (i0 : Int) (g0 : Gr) (hg0 : Mg 1 g0) (s : PF.St) (hk : keep [1, 5, 6] [102] s = some (r28_held_0_st l2 c2 out i0 g0)) : Sim (r28_held_0 l2 c2 out i0) (Gv (r28_held_0_rel l2 c2)) (LM.loop ([1, 5, 6], [102], [5], B_r28_held_0) s) := by
  refine sim_loop M XE (r28_held_0_inv l2 c2) (r28_held_0_rel l2 c2) ?_ _ _ _ hk ⟨g0, rfl, hg0⟩
  clear hk hg0
  rintro S hS hw hw8 R hR ⟨out, i0⟩ env hp ⟨g0, he, hg0⟩
  change (⟨env, hp⟩ : PF.St) = r28_held_0_st l2 c2 out i0 g0 at he
  cases he
  show Sim (r28_held_0_step l2 c2 out i0) _ _
  unfold r28_held_0_step
  simp only [hw]
  refine au ?_
  refine Sim.ki hS (m := (List.length l2 : Int)) (by simp) ?_
  refine au (.ite Iff.rfl (fun hc2 => ?_) fun hc2 => ?_)
  · refine au ?_
    refine Sim.ix (by simp) (fun z0 hz0 => ?_)
    refine au ?_
    refine Sim.go (idx_map _ hz0) ?_
    refine au (cE hR (r28_cut_sim _ _) fun r2 => ?_)
    refine au ?_
    refine Sim.kl hS (ys := List.map sav [r2]) rfl ?_
    refine au ?_
    first | (refine Sim.goB (may_map (by intro _; rfl) hg0 _) ?_) | skip
    refine au ?_
    first | (refine Sim.goB (okE_map (by intro _; exact ⟨rfl, rfl, rfl⟩) _) ?_) | skip
    refine au ?_
    first | refine Sim.ite (by simp) (fun _ => ?_) (fun _ => Sim.no) | refine Sim.guard (fun _ => ?_)
    refine au ?_
    refine Sim.kl hS (ys := List.map sav (out ++ [r2])) (by simp) ?_
    refine au ?_
    exact Sim.ret ⟨_, _, rfl, rfl, ⟨_, rfl, Mg.own⟩⟩
  · refine au ?_
    exact Sim.ret ⟨_, rfl, ⟨_, rfl, hg0⟩⟩
noncomputable def r28_held (c0 : GConf) (l0 : List (List UInt8)) : Option ((List (List UInt8))) :=
  if (List.length l0 : Int) ≠ (wr (c0.N * c0.D)) then
    (r12_Empty c0).bind fun r0 =>
    some r0
  else
    (r28_held_0 l0 c0 ([] : List (List UInt8)) 0).bind fun r3 =>
    some r3
theorem r28_held_sim (c0 : GConf) (l0 : List (List UInt8)) : Sim (r28_held c0 l0) (Gv fun r q => q = (lav sav r, [])) (LM.call n_r28_held [GConf.av c0, lav sav l0] []) := by
  unfold r28_held
  refine sim_evR M XE rfl rfl fun S hS hw hw8 R hR => ?_
  simp only [hw]
  refine au ?_
  refine Sim.ki hS (m := (List.length l0 : Int)) (by simp) ?_
  refine au (.ite Iff.rfl (fun hc => ?_) fun hc => ?_)
  · refine au (cE hR (r12_Empty_sim _) fun r0 => ?_)
    exact au (.ret ⟨_, rfl, rfl⟩)
  · refine au ?_
    refine Sim.callL hR (r28_held_0_sim l0 c0 ([] : List (List UInt8)) 0 .full Mg.full _ rfl) ?_
    rintro r3 q ⟨g2, rfl, hg2⟩
    exact au (.ret ⟨_, rfl, rfl⟩)
noncomputable def r28_notes_0_step (l2 : List GEntry) (c2 : GConf) (out : List GEntry) (i0 : Int) : Option (((List GEntry) × Int) ⊕ ((List GEntry))) :=
  if i0 < (List.length l2 : Int) then
    (idx? l2 i0).bind fun z0 =>
    if 0 ≤ z0.From then
      (idx? l2 i0).bind fun z2 =>
      if z2.From < c2.N then
        (idx? l2 i0).bind fun z3 =>
        (idx? l2 i0).bind fun z4 =>
        (r05_Put z4.At).bind fun r0 =>
        if List.length out + List.length [(GEntry.mk z3.From r0)] ≤ lenMax then
          some (.inl ((out ++ [(GEntry.mk z3.From r0)]), (wr (i0 + 1))))
        else none
      else
        some (.inl (out, (wr (i0 + 1))))
    else
      some (.inl (out, (wr (i0 + 1))))
  else
    some (.inr out)
noncomputable def r28_notes_0 (l2 : List GEntry) (c2 : GConf) (out : List GEntry) (i0 : Int) : Option ((List GEntry)) :=
  loopO (fun s : (List GEntry) × Int => r28_notes_0_step l2 c2 s.1 s.2) (out, i0)
@[reducible] def r28_notes_0_st (l2 : List GEntry) (c2 : GConf) (out : List GEntry) (i0 : Int) (g0 : Gr) : PF.St := ⟨[(1, lav GEntry.av l2), (2, .ptr 102 0), (5, .lst g0 (List.map GEntry.av out)), (6, iav i0)], [(102, ⟨true, GConf.cells c2⟩)]⟩
def r28_notes_0_rel (l2 : List GEntry) (c2 : GConf) (r : ((List GEntry))) (q : Ex × PF.St) : Prop := (fun r (q : Ex × PF.St) => ∃ g0', q = ((.exit 0), ⟨[(5, .lst g0' (List.map GEntry.av r))], [(102, ⟨true, GConf.cells c2⟩)]⟩) ∧ Mg 2 g0') r q
def r28_notes_0_inv (l2 : List GEntry) (c2 : GConf) (v : (List GEntry) × Int) (e : PF.St) : Prop := ∃ g0, e = r28_notes_0_st l2 c2 v.1 v.2 g0 ∧ Mg 2 g0
theorem r28_notes_0_sim (l2 : List GEntry) (c2 : GConf) (out : List GEntry) (i0 : Int) (g0 : Gr) (hg0 : Mg 2 g0) (s : PF.St) (hk : keep [1, 2, 5, 6] [102] s = some (r28_notes_0_st l2 c2 out i0 g0)) : Sim (r28_notes_0 l2 c2 out i0) (Gv (r28_notes_0_rel l2 c2)) (LM.loop ([1, 2, 5, 6], [102], [5], B_r28_notes_0) s) := by
  refine sim_loop M XE (r28_notes_0_inv l2 c2) (r28_notes_0_rel l2 c2) ?_ _ _ _ hk ⟨g0, rfl, hg0⟩
  clear hk hg0
  rintro S hS hw hw8 R hR ⟨out, i0⟩ env hp ⟨g0, he, hg0⟩
  change (⟨env, hp⟩ : PF.St) = r28_notes_0_st l2 c2 out i0 g0 at he
  cases he
  show Sim (r28_notes_0_step l2 c2 out i0) _ _
  unfold r28_notes_0_step
  simp only [hw]
  refine au ?_
  refine Sim.ki hS (m := (List.length l2 : Int)) (by simp) ?_
  refine au (.ite Iff.rfl (fun hc => ?_) fun hc => ?_)
  · refine au ?_
    refine Sim.ix (by simp) (fun z0 hz0 => ?_)
    refine au ?_
    refine Sim.go (idx_map _ hz0) ?_
    refine au (.ite Iff.rfl (fun hc2 => ?_) fun hc2 => ?_)
    · refine au ?_
      refine Sim.ix (by simp) (fun z2 hz2 => ?_)
      refine au ?_
      refine Sim.go (idx_map _ hz2) ?_
      refine au (.ite Iff.rfl (fun hc3 => ?_) fun hc3 => ?_)
      · refine au ?_
        refine Sim.ix (by simp) (fun z3 hz3 => ?_)
        refine au ?_
        refine Sim.go (idx_map _ hz3) ?_
        refine au ?_
        refine Sim.ix (by simp) (fun z4 hz4 => ?_)
        refine au ?_
        refine Sim.go (idx_map _ hz4) ?_
        refine au (cE hR (r05_Put_sim _) fun r0 => ?_)
        refine au ?_
        refine Sim.kl hS (ys := List.map GEntry.av [(GEntry.mk z3.From r0)]) rfl ?_
        refine au ?_
        first | (refine Sim.goB (may_map (by intro _; rfl) hg0 _) ?_) | skip
        refine au ?_
        first | (refine Sim.goB (okE_map (by intro _; exact ⟨rfl, rfl, rfl⟩) _) ?_) | skip
        refine au ?_
        first | refine Sim.ite (by simp) (fun _ => ?_) (fun _ => Sim.no) | refine Sim.guard (fun _ => ?_)
        refine au ?_
        refine Sim.kl hS (ys := List.map GEntry.av (out ++ [(GEntry.mk z3.From r0)])) (by simp) ?_
        refine au ?_
        exact Sim.ret ⟨_, _, rfl, rfl, ⟨_, rfl, Mg.own⟩⟩
      · refine au ?_
        exact Sim.ret ⟨_, _, rfl, rfl, ⟨_, rfl, hg0⟩⟩
    · refine au ?_
      exact Sim.ret ⟨_, _, rfl, rfl, ⟨_, rfl, hg0⟩⟩
  · refine au ?_
    exact Sim.ret ⟨_, rfl, ⟨_, rfl, hg0⟩⟩
noncomputable def r28_notes (c0 : GConf) (l0 : List GEntry) : Option ((List GEntry)) :=
  (r28_notes_0 l0 c0 ([] : List GEntry) (max 0 (wr ((List.length l0 : Int) - 64)))).bind fun r2 =>
  some r2
theorem r28_notes_sim (c0 : GConf) (l0 : List GEntry) : Sim (r28_notes c0 l0) (Gv fun r q => q = (lav GEntry.av r, [])) (LM.call n_r28_notes [GConf.av c0, lav GEntry.av l0] []) := by
  unfold r28_notes
  refine sim_evR M XE rfl rfl fun S hS hw hw8 R hR => ?_
  simp only [hw]
  refine au ?_
  refine Sim.ki hS (m := (List.length l0 : Int)) (by simp) ?_
  refine au ?_
  refine Sim.callL hR (r28_notes_0_sim l0 c0 ([] : List GEntry) (max 0 (S.wr ((List.length l0 : Int) - 64))) .full Mg.full _ rfl) ?_
  rintro r2 q ⟨g2, rfl, hg2⟩
  exact au (.ret ⟨_, rfl, rfl⟩)
noncomputable def r09_Clean_0_step (x0 : Ar6 Int) (i0 : Int) (d2 : Ar6 Int) : Option ((Int × (Ar6 Int)) ⊕ ((Ar6 Int))) :=
  if i0 < 6 then
    if 0 ≤ i0 ∧ i0 < (6 : Nat) then
      (Ar6.get? (Ar6.mk d2.a0 d2.a1 d2.a2 d2.a3 d2.a4 d2.a5) (Int.toNat i0)).bind fun z0 =>
      (r01_Clamp z0 0 65535).bind fun r0 =>
      if 0 ≤ i0 ∧ i0 < (6 : Nat) then
        (Ar6.set? d2 (Int.toNat i0) r0).bind fun y0 =>
        some (.inl ((wr (i0 + 1)), y0))
      else none
    else none
  else
    some (.inr d2)
noncomputable def r09_Clean_0 (x0 : Ar6 Int) (i0 : Int) (d2 : Ar6 Int) : Option ((Ar6 Int)) :=
  loopO (fun s : Int × (Ar6 Int) => r09_Clean_0_step x0 s.1 s.2) (i0, d2)
@[reducible] def r09_Clean_0_st (x0 : Ar6 Int) (i0 : Int) (d2 : Ar6 Int) : PF.St := ⟨[(1, .ptr 101 0), (2, .ptr 102 0), (3, iav i0)], [(102, ⟨true, Ar6.cells iav x0⟩), (101, ⟨true, Ar6.cells iav d2⟩)]⟩
def r09_Clean_0_rel (x0 : Ar6 Int) (r : ((Ar6 Int))) (q : Ex × PF.St) : Prop := (fun r (q : Ex × PF.St) => q = ((.exit 0), ⟨[(1, .ptr 101 0), (2, .ptr 102 0)], [(102, ⟨true, Ar6.cells iav x0⟩), (101, ⟨true, Ar6.cells iav r⟩)]⟩)) r q
def r09_Clean_0_inv (x0 : Ar6 Int) (v : Int × (Ar6 Int)) (e : PF.St) : Prop := e = r09_Clean_0_st x0 v.1 v.2
theorem r09_Clean_0_sim (x0 : Ar6 Int) (i0 : Int) (d2 : Ar6 Int) (s : PF.St) (hk : keep [1, 2, 3] [101, 102] s = some (r09_Clean_0_st x0 i0 d2)) : Sim (r09_Clean_0 x0 i0 d2) (Gv (r09_Clean_0_rel x0)) (LM.loop ([1, 2, 3], [101, 102], [1, 2], B_r09_Clean_0) s) := by
  refine sim_loop M XE (r09_Clean_0_inv x0) (r09_Clean_0_rel x0) ?_ _ _ _ hk rfl
  clear hk
  rintro S hS hw hw8 R hR ⟨i0, d2⟩ env hp he
  change (⟨env, hp⟩ : PF.St) = r09_Clean_0_st x0 i0 d2 at he
  cases he
  show Sim (r09_Clean_0_step x0 i0 d2) _ _
  unfold r09_Clean_0_step
  simp only [hw]
  refine au (.ite Iff.rfl (fun hc => ?_) fun hc => ?_)
  · refine au ?_
    first | refine Sim.ite Iff.rfl (fun hb => ?_) (fun _ => Sim.no) | refine Sim.guard (fun hb => ?_)
    refine au ?_
    refine Sim.opt (f := iav) (by have hb' : (Int.toNat i0) < 6 := (by omega); generalize (Int.toNat i0) = j at hb' ⊢; rcases j with _|_|_|_|_|_|j <;> first | rfl | exact absurd hb' (by omega)) (fun z0 _ => ?_)
    refine au (cE hR (r01_Clamp_sim _ _ _) fun r0 => ?_)
    refine au ?_
    first | refine Sim.ite Iff.rfl (fun hb2 => ?_) (fun _ => Sim.no) | refine Sim.guard (fun hb2 => ?_)
    refine au ?_
    refine Sim.opt (f := fun y0 => [iav y0.a0, iav y0.a1, iav y0.a2, iav y0.a3, iav y0.a4, iav y0.a5]) (by have hb' : (Int.toNat i0) < 6 := (by omega); generalize (Int.toNat i0) = j at hb' ⊢; rcases j with _|_|_|_|_|_|j <;> first | rfl | exact absurd hb' (by omega)) (fun y0 _ => ?_)
    refine au ?_
    exact Sim.ret ⟨_, _, rfl, rfl, rfl⟩
  · exact au (.ret ⟨_, rfl, rfl⟩)
noncomputable def r09_Clean (d0 : Ar6 Int) : Option ((Ar6 Int)) :=
  (r09_Clean_0 (Ar6.mk 0 0 0 0 0 0) 0 d0).bind fun r2 =>
  some r2
theorem r09_Clean_sim (d0 : Ar6 Int) : Sim (r09_Clean d0) (Gv fun r q => q = (Ar6.av iav r, [])) (LM.call n_r09_Clean [Ar6.av iav d0] []) := by
  unfold r09_Clean
  refine sim_evR M XE rfl rfl fun S hS hw hw8 R hR => ?_
  refine au ?_
  refine Sim.callL hR (r09_Clean_0_sim (Ar6.mk 0 0 0 0 0 0) 0 d0 _ rfl) ?_
  rintro r2 q rfl
  exact au (.ret ⟨_, rfl, rfl⟩)
noncomputable def r28_Mend (L0 : GConf) (i0 : GMem) : Option GMem :=
  (r03_Plain L0).bind fun r0 =>
  if r0 ≠ 0 then
    some (GMem.mk 0 0 0 ([] : List UInt8) 0 ([] : List UInt8) ([] : List UInt8) 0 0 ([] : List UInt8) ([] : List UInt8) ([] : List UInt8) ([] : List UInt8) ([] : List UInt8) ([] : List UInt8) ([] : List GPort) ([] : List (List UInt8)) ([] : List GEntry) (Ar6.mk 0 0 0 0 0 0))
  else
    (r05_Put i0.Clock).bind fun r2 =>
    (r05_Put i0.Anchor).bind fun r3 =>
    (r01_Clamp i0.Since 0 L0.Period).bind fun r4 =>
    (r03_Length L0).bind fun r5 =>
    (r28_digits i0.Pipe r5 53).bind fun r6 =>
    (r03_Length L0).bind fun r7 =>
    (r01_Clamp i0.Age 0 r7).bind fun r8 =>
    (r03_Bits L0).bind fun r9 =>
    (r28_row i0.Vec r9 53).bind fun r10 =>
    (r03_Bits L0).bind fun r11 =>
    (r28_row i0.Agreed r11 49).bind fun r12 =>
    (r01_Mod i0.Number L0.Mod).bind fun r13 =>
    (r01_Clamp i0.Regular 0 2).bind fun r14 =>
    (r25_Mark L0 i0.Members ([] : List Int)).bind fun r15 =>
    (r25_Mark L0 i0.Seen ([] : List Int)).bind fun r16 =>
    (r23_Mark i0.Heard (List.length L0.Table : Int) ([] : List Int)).bind fun r17 =>
    (r23_Mark i0.Sent (List.length L0.Table : Int) ([] : List Int)).bind fun r18 =>
    (r28_cut i0.Out 16).bind fun r19 =>
    (r28_cut i0.Line 16).bind fun r20 =>
    (r28_ports L0 i0.Ports).bind fun r21 =>
    (r28_held L0 i0.Hold).bind fun r22 =>
    (r28_notes L0 i0.Log).bind fun r23 =>
    (r09_Clean i0.Diag).bind fun r24 =>
    some (GMem.mk r2 r3 r4 r6 r8 r10 r12 r13 r14 r15 r16 r17 r18 r19 r20 r21 r22 r23 r24)
theorem r28_Mend_sim (L0 : GConf) (i0 : GMem) : Sim (r28_Mend L0 i0) (Gv fun r q => q = (GMem.av r, [])) (LM.call n_r28_Mend [GConf.av L0, GMem.av i0] []) := by
  unfold r28_Mend
  refine sim_evR M XE rfl rfl fun S hS hw hw8 R hR => ?_
  refine au (cE hR (r03_Plain_sim _) fun r0 => ?_)
  refine au (.ite Iff.rfl (fun hc => ?_) fun hc => ?_)
  · exact au (.ret ⟨_, rfl, rfl⟩)
  · refine au (cE hR (r05_Put_sim _) fun r2 => ?_)
    refine au (cE hR (r05_Put_sim _) fun r3 => ?_)
    refine au (cE hR (r01_Clamp_sim _ _ _) fun r4 => ?_)
    refine au (cE hR (r03_Length_sim _) fun r5 => ?_)
    refine au (cE hR (r28_digits_sim _ _ _) fun r6 => ?_)
    refine au (cE hR (r03_Length_sim _) fun r7 => ?_)
    refine au (cE hR (r01_Clamp_sim _ _ _) fun r8 => ?_)
    refine au (cE hR (r03_Bits_sim _) fun r9 => ?_)
    refine au (cE hR (r28_row_sim _ _ _) fun r10 => ?_)
    refine au (cE hR (r03_Bits_sim _) fun r11 => ?_)
    refine au (cE hR (r28_row_sim _ _ _) fun r12 => ?_)
    refine au (cE hR (r01_Mod_sim _ _) fun r13 => ?_)
    refine au (cE hR (r01_Clamp_sim _ _ _) fun r14 => ?_)
    refine au (cE hR (r25_Mark_sim _ _ _) fun r15 => ?_)
    refine au (cE hR (r25_Mark_sim _ _ _) fun r16 => ?_)
    refine au ?_
    refine Sim.ki hS (m := (List.length L0.Table : Int)) (by simp) ?_
    refine au (cE hR (r23_Mark_sim _ _ _) fun r17 => ?_)
    refine au ?_
    refine Sim.ki hS (m := (List.length L0.Table : Int)) (by simp) ?_
    refine au (cE hR (r23_Mark_sim _ _ _) fun r18 => ?_)
    refine au (cE hR (r28_cut_sim _ _) fun r19 => ?_)
    refine au (cE hR (r28_cut_sim _ _) fun r20 => ?_)
    refine au (cE hR (r28_ports_sim _ _) fun r21 => ?_)
    refine au (cE hR (r28_held_sim _ _) fun r22 => ?_)
    refine au (cE hR (r28_notes_sim _ _) fun r23 => ?_)
    refine au (cE hR (r09_Clean_sim _) fun r24 => ?_)
    exact au (.ret ⟨_, rfl, rfl⟩)
noncomputable def r28_Blank (c0 : GConf) : Option GMem :=
  (r28_Mend c0 (GMem.mk 0 0 0 ([] : List UInt8) 0 ([] : List UInt8) ([] : List UInt8) 0 0 ([] : List UInt8) ([] : List UInt8) ([] : List UInt8) ([] : List UInt8) ([] : List UInt8) ([] : List UInt8) ([] : List GPort) ([] : List (List UInt8)) ([] : List GEntry) (Ar6.mk 0 0 0 0 0 0))).bind fun r0 =>
  (r03_Plain c0).bind fun r2 =>
  if r2 = 0 then
    some (GMem.mk r0.Clock r0.Anchor c0.Period r0.Pipe r0.Age r0.Vec r0.Agreed r0.Number r0.Regular r0.Members r0.Seen r0.Heard r0.Sent r0.Out r0.Line r0.Ports r0.Hold r0.Log r0.Diag)
  else
    some r0
theorem r28_Blank_sim (c0 : GConf) : Sim (r28_Blank c0) (Gv fun r q => q = (GMem.av r, [])) (LM.call n_r28_Blank [GConf.av c0] []) := by
  unfold r28_Blank
  refine sim_evR M XE rfl rfl fun S hS hw hw8 R hR => ?_
  refine au (cE hR (r28_Mend_sim _ _) fun r0 => ?_)
  refine au (cE hR (r03_Plain_sim _) fun r2 => ?_)
  refine au (.ite Iff.rfl (fun hc => ?_) fun hc => ?_)
  · exact au (.ret ⟨_, rfl, rfl⟩)
  · exact au (.ret ⟨_, rfl, rfl⟩)
noncomputable def conf_span_has (s0 : Gconf_span) (n0 : Int) : Option Bool :=
  if s0.f_low ≤ n0 then
    some (decide (n0 ≤ s0.f_high))
  else
    some false
theorem conf_span_has_sim (s0 : Gconf_span) (n0 : Int) : Sim (conf_span_has s0 n0) (Gv fun r q => q = (.bool r, [])) (LM.call n_conf_span_has [Gconf_span.av s0, iav n0] []) := by
  unfold conf_span_has
  refine sim_evR M XE rfl rfl fun S hS hw hw8 R hR => ?_
  refine au (.ite Iff.rfl (fun hc => ?_) fun hc => ?_)
  · exact au (.ret ⟨_, rfl, rfl⟩)
  · exact au (.ret ⟨_, rfl, rfl⟩)
noncomputable def conf_nodes (c0 : GConf) : Option Bool :=
  (conf_span_has (Gconf_span.mk 4 13) c0.N).bind fun r0 =>
  if r0 = true then
    (conf_span_has (Gconf_span.mk 0 4) c0.F).bind fun r2 =>
    if r2 = true then
      some (decide ((wr (3 * c0.F)) < c0.N))
    else
      some false
  else
    some false
theorem conf_nodes_sim (c0 : GConf) : Sim (conf_nodes c0) (Gv fun r q => q = (.bool r, [])) (LM.call n_conf_nodes [GConf.av c0] []) := by
  unfold conf_nodes
  refine sim_evR M XE rfl rfl fun S hS hw hw8 R hR => ?_
  simp only [hw]
  refine au (cE hR (conf_span_has_sim _ _) fun r0 => ?_)
  refine au (.iteB (fun hc => ?_) fun hc => ?_)
  · refine au (cE hR (conf_span_has_sim _ _) fun r2 => ?_)
    refine au (.iteB (fun hc2 => ?_) fun hc2 => ?_)
    · exact au (.ret ⟨_, rfl, rfl⟩)
    · exact au (.ret ⟨_, rfl, rfl⟩)
  · exact au (.ret ⟨_, rfl, rfl⟩)
noncomputable def conf_numbers_0_step (x0 : List Gs_nI_spanG) (x2 : Int) (c2 : GConf) (x3 : Int) : Option ((Int) ⊕ ((Bool) ⊕ (Unit))) :=
  if x3 < x2 then
    (idx? x0 x3).bind fun z0 =>
    (conf_span_has z0.f_span z0.f_n).bind fun r0 =>
    if (!r0) = true then
      some (.inr (.inl false))
    else
      some (.inl (wr (x3 + 1)))
  else
    some (.inr (.inr ()))
noncomputable def conf_numbers_0 (x0 : List Gs_nI_spanG) (x2 : Int) (c2 : GConf) (x3 : Int) : Option ((Bool) ⊕ (Unit)) :=
  loopO (fun s : Int => conf_numbers_0_step x0 x2 c2 s) x3
@[reducible] def conf_numbers_0_st (x0 : List Gs_nI_spanG) (x2 : Int) (c2 : GConf) (x3 : Int) (g0 : Gr) : PF.St := ⟨[(44, .lst g0 (List.map Gs_nI_spanG.av x0)), (45, iav x2), (46, iav x3)], [(101, ⟨true, GConf.cells c2⟩)]⟩
def conf_numbers_0_rel (x0 : List Gs_nI_spanG) (x2 : Int) (c2 : GConf) (r : ((Bool) ⊕ (Unit))) (q : Ex × PF.St) : Prop := (fun r (q : Ex × PF.St) => Sum.elim (fun r => (fun r (q : Ex × PF.St) => q = (Ex.ret, ⟨[(2, .bool r)], [(101, ⟨true, GConf.cells c2⟩)]⟩)) r q) (fun r => (fun r (q : Ex × PF.St) => q = ((.exit 0), ⟨[(2, .undef)], [(101, ⟨true, GConf.cells c2⟩)]⟩)) r q) r) r q
def conf_numbers_0_inv (x0 : List Gs_nI_spanG) (x2 : Int) (c2 : GConf) (v : Int) (e : PF.St) : Prop := ∃ g0, e = conf_numbers_0_st x0 x2 c2 v g0 ∧ Mg 3 g0
theorem conf_numbers_0_sim (x0 : List Gs_nI_spanG) (x2 : Int) (c2 : GConf) (x3 : Int) (g0 : Gr) (hg0 : Mg 3 g0) (s : PF.St) (hk : keep [44, 45, 46] [101] s = some (conf_numbers_0_st x0 x2 c2 x3 g0)) : Sim (conf_numbers_0 x0 x2 c2 x3) (Gv (conf_numbers_0_rel x0 x2 c2)) (LM.loop ([44, 45, 46], [101], [2], B_conf_numbers_0) s) := by
  refine sim_loop M XE (conf_numbers_0_inv x0 x2 c2) (conf_numbers_0_rel x0 x2 c2) ?_ _ _ _ hk ⟨g0, rfl, hg0⟩
  clear hk hg0
  rintro S hS hw hw8 R hR x3 env hp ⟨g0, he, hg0⟩
  change (⟨env, hp⟩ : PF.St) = conf_numbers_0_st x0 x2 c2 x3 g0 at he
  cases he
  show Sim (conf_numbers_0_step x0 x2 c2 x3) _ _
  unfold conf_numbers_0_step
  simp only [hw]
  refine au (.ite Iff.rfl (fun hc => ?_) fun hc => ?_)
  · refine au ?_
    refine Sim.ix (by simp) (fun z0 hz0 => ?_)
    refine au ?_
    refine Sim.go (idx_map _ hz0) ?_
    refine au (cE hR (conf_span_has_sim _ _) fun r0 => ?_)
    refine au (.iteB (fun hc2 => ?_) fun hc2 => ?_)
    · exact au (.ret ⟨_, rfl, rfl⟩)
    · refine au ?_
      exact Sim.ret ⟨_, _, rfl, rfl, ⟨_, rfl, hg0⟩⟩
  · exact au (.ret ⟨_, rfl, rfl⟩)
noncomputable def conf_numbers (c0 : GConf) : Option Bool :=
  (conf_numbers_0 [(Gs_nI_spanG.mk c0.Period (Gconf_span.mk (wr ((wr ((wr (6 * (wr (c0.F + 1)))) * c0.D)) + 1)) 400)), (Gs_nI_spanG.mk c0.Rate (Gconf_span.mk 1 64)), (Gs_nI_spanG.mk c0.Drift (Gconf_span.mk 0 (wr (c0.Rate - 1)))), (Gs_nI_spanG.mk c0.Offset (Gconf_span.mk 0 30000)), (Gs_nI_spanG.mk c0.Slot (Gconf_span.mk 1 30000)), (Gs_nI_spanG.mk c0.Mod (Gconf_span.mk 2 250)), (Gs_nI_spanG.mk c0.Fresh (Gconf_span.mk 1 100))] (List.length [(Gs_nI_spanG.mk c0.Period (Gconf_span.mk (wr ((wr ((wr (6 * (wr (c0.F + 1)))) * c0.D)) + 1)) 400)), (Gs_nI_spanG.mk c0.Rate (Gconf_span.mk 1 64)), (Gs_nI_spanG.mk c0.Drift (Gconf_span.mk 0 (wr (c0.Rate - 1)))), (Gs_nI_spanG.mk c0.Offset (Gconf_span.mk 0 30000)), (Gs_nI_spanG.mk c0.Slot (Gconf_span.mk 1 30000)), (Gs_nI_spanG.mk c0.Mod (Gconf_span.mk 2 250)), (Gs_nI_spanG.mk c0.Fresh (Gconf_span.mk 1 100))] : Int) c0 0).bind fun r2 =>
  Sum.elim
    (fun r3 =>
      some r3)
    (fun r4 =>
      some true)
    r2
theorem conf_numbers_sim (c0 : GConf) : Sim (conf_numbers c0) (Gv fun r q => q = (.bool r, [])) (LM.call n_conf_numbers [GConf.av c0] []) := by
  unfold conf_numbers
  refine sim_evR M XE rfl rfl fun S hS hw hw8 R hR => ?_
  simp only [hw]
  refine au ?_
  refine Sim.kl hS (ys := List.map Gs_nI_spanG.av [(Gs_nI_spanG.mk c0.Period (Gconf_span.mk (S.wr ((S.wr ((S.wr (6 * (S.wr (c0.F + 1)))) * c0.D)) + 1)) 400)), (Gs_nI_spanG.mk c0.Rate (Gconf_span.mk 1 64)), (Gs_nI_spanG.mk c0.Drift (Gconf_span.mk 0 (S.wr (c0.Rate - 1)))), (Gs_nI_spanG.mk c0.Offset (Gconf_span.mk 0 30000)), (Gs_nI_spanG.mk c0.Slot (Gconf_span.mk 1 30000)), (Gs_nI_spanG.mk c0.Mod (Gconf_span.mk 2 250)), (Gs_nI_spanG.mk c0.Fresh (Gconf_span.mk 1 100))]) rfl ?_
  refine au ?_
  refine Sim.ki hS (m := (List.length [(Gs_nI_spanG.mk c0.Period (Gconf_span.mk (S.wr ((S.wr ((S.wr (6 * (S.wr (c0.F + 1)))) * c0.D)) + 1)) 400)), (Gs_nI_spanG.mk c0.Rate (Gconf_span.mk 1 64)), (Gs_nI_spanG.mk c0.Drift (Gconf_span.mk 0 (S.wr (c0.Rate - 1)))), (Gs_nI_spanG.mk c0.Offset (Gconf_span.mk 0 30000)), (Gs_nI_spanG.mk c0.Slot (Gconf_span.mk 1 30000)), (Gs_nI_spanG.mk c0.Mod (Gconf_span.mk 2 250)), (Gs_nI_spanG.mk c0.Fresh (Gconf_span.mk 1 100))] : Int)) (by simp) ?_
  refine au ?_
  refine Sim.callL hR (conf_numbers_0_sim [(Gs_nI_spanG.mk c0.Period (Gconf_span.mk (S.wr ((S.wr ((S.wr (6 * (S.wr (c0.F + 1)))) * c0.D)) + 1)) 400)), (Gs_nI_spanG.mk c0.Rate (Gconf_span.mk 1 64)), (Gs_nI_spanG.mk c0.Drift (Gconf_span.mk 0 (S.wr (c0.Rate - 1)))), (Gs_nI_spanG.mk c0.Offset (Gconf_span.mk 0 30000)), (Gs_nI_spanG.mk c0.Slot (Gconf_span.mk 1 30000)), (Gs_nI_spanG.mk c0.Mod (Gconf_span.mk 2 250)), (Gs_nI_spanG.mk c0.Fresh (Gconf_span.mk 1 100))] (List.length [(Gs_nI_spanG.mk c0.Period (Gconf_span.mk (S.wr ((S.wr ((S.wr (6 * (S.wr (c0.F + 1)))) * c0.D)) + 1)) 400)), (Gs_nI_spanG.mk c0.Rate (Gconf_span.mk 1 64)), (Gs_nI_spanG.mk c0.Drift (Gconf_span.mk 0 (S.wr (c0.Rate - 1)))), (Gs_nI_spanG.mk c0.Offset (Gconf_span.mk 0 30000)), (Gs_nI_spanG.mk c0.Slot (Gconf_span.mk 1 30000)), (Gs_nI_spanG.mk c0.Mod (Gconf_span.mk 2 250)), (Gs_nI_spanG.mk c0.Fresh (Gconf_span.mk 1 100))] : Int) c0 0 .full Mg.full _ rfl) ?_
  rintro r2 q hr
  rcases r2 with r3 | r4
  · cases hr
    exact au (.ret ⟨_, rfl, rfl⟩)
  · cases hr
    exact au (.ret ⟨_, rfl, rfl⟩)
noncomputable def conf_table_0_step (x0 : List Int) (x2 : Int) (slots : Gconf_span) (c2 : GConf) (x3 : Int) (owns : Ar13 Int) : Option ((Int × (Ar13 Int)) ⊕ ((Bool × (Ar13 Int)) ⊕ ((Ar13 Int)))) :=
  if x3 < x2 then
    (idx? x0 x3).bind fun z0 =>
    if z0 < 0 then
      some (.inr (.inl (false, owns)))
    else
      if c2.N ≤ z0 then
        some (.inr (.inl (false, owns)))
      else
        if 0 ≤ z0 ∧ z0 < (13 : Nat) then
          (Ar13.get? (Ar13.mk owns.a0 owns.a1 owns.a2 owns.a3 owns.a4 owns.a5 owns.a6 owns.a7 owns.a8 owns.a9 owns.a10 owns.a11 owns.a12) (Int.toNat z0)).bind fun z2 =>
          if 0 ≤ z0 ∧ z0 < (13 : Nat) then
            (Ar13.set? owns (Int.toNat z0) (wr (z2 + 1))).bind fun y0 =>
            some (.inl ((wr (x3 + 1)), y0))
          else none
        else none
  else
    some (.inr (.inr owns))
noncomputable def conf_table_0 (x0 : List Int) (x2 : Int) (slots : Gconf_span) (c2 : GConf) (x3 : Int) (owns : Ar13 Int) : Option ((Bool × (Ar13 Int)) ⊕ ((Ar13 Int))) :=
  loopO (fun s : Int × (Ar13 Int) => conf_table_0_step x0 x2 slots c2 s.1 s.2) (x3, owns)
@[reducible] def conf_table_0_st (x0 : List Int) (x2 : Int) (slots : Gconf_span) (c2 : GConf) (x3 : Int) (owns : Ar13 Int) : PF.St := ⟨[(1, .ptr 101 0), (4, .ptr 104 0), (17, lav iav x0), (18, iav x2), (19, iav x3)], [(104, ⟨true, Ar13.cells iav owns⟩), (103, ⟨true, Gconf_span.cells slots⟩), (101, ⟨true, GConf.cells c2⟩)]⟩
def conf_table_0_rel (x0 : List Int) (x2 : Int) (slots : Gconf_span) (c2 : GConf) (r : ((Bool × (Ar13 Int)) ⊕ ((Ar13 Int)))) (q : Ex × PF.St) : Prop := (fun r (q : Ex × PF.St) => Sum.elim (fun r => (fun r (q : Ex × PF.St) => q = (Ex.ret, ⟨[(1, .ptr 101 0), (2, .bool r.1), (4, .ptr 104 0)], [(104, ⟨true, Ar13.cells iav r.2⟩), (103, ⟨true, Gconf_span.cells slots⟩), (101, ⟨true, GConf.cells c2⟩)]⟩)) r q) (fun r => (fun r (q : Ex × PF.St) => q = ((.exit 0), ⟨[(1, .ptr 101 0), (2, .undef), (4, .ptr 104 0)], [(104, ⟨true, Ar13.cells iav r⟩), (103, ⟨true, Gconf_span.cells slots⟩), (101, ⟨true, GConf.cells c2⟩)]⟩)) r q) r) r q
def conf_table_0_inv (x0 : List Int) (x2 : Int) (slots : Gconf_span) (c2 : GConf) (v : Int × (Ar13 Int)) (e : PF.St) : Prop := e = conf_table_0_st x0 x2 slots c2 v.1 v.2
theorem conf_table_0_sim (x0 : List Int) (x2 : Int) (slots : Gconf_span) (c2 : GConf) (x3 : Int) (owns : Ar13 Int) (s : PF.St) (hk : keep [1, 4, 17, 18, 19] [101, 103, 104] s = some (conf_table_0_st x0 x2 slots c2 x3 owns)) : Sim (conf_table_0 x0 x2 slots c2 x3 owns) (Gv (conf_table_0_rel x0 x2 slots c2)) (LM.loop ([1, 4, 17, 18, 19], [101, 103, 104], [1, 2, 4], B_conf_table_0) s) := by
  refine sim_loop M XE (conf_table_0_inv x0 x2 slots c2) (conf_table_0_rel x0 x2 slots c2) ?_ _ _ _ hk rfl
  clear hk
  rintro S hS hw hw8 R hR ⟨x3, owns⟩ env hp he
  change (⟨env, hp⟩ : PF.St) = conf_table_0_st x0 x2 slots c2 x3 owns at he
  cases he
  show Sim (conf_table_0_step x0 x2 slots c2 x3 owns) _ _
  unfold conf_table_0_step
  simp only [hw]
  refine au (.ite Iff.rfl (fun hc2 => ?_) fun hc2 => ?_)
  · refine au ?_
    refine Sim.ix (by simp) (fun z0 hz0 => ?_)
    refine au ?_
    refine Sim.go (idx_map _ hz0) ?_
    refine au (.ite Iff.rfl (fun hc3 => ?_) fun hc3 => ?_)
    · exact au (.ret ⟨_, rfl, rfl⟩)
    · refine au (.ite Iff.rfl (fun hc4 => ?_) fun hc4 => ?_)
      · exact au (.ret ⟨_, rfl, rfl⟩)
      · refine au ?_
        first | refine Sim.ite Iff.rfl (fun hb => ?_) (fun _ => Sim.no) | refine Sim.guard (fun hb => ?_)
        refine au ?_
        refine Sim.opt (f := iav) (by have hb' : (Int.toNat z0) < 13 := (by omega); generalize (Int.toNat z0) = j at hb' ⊢; rcases j with _|_|_|_|_|_|_|_|_|_|_|_|_|j <;> first | rfl | exact absurd hb' (by omega)) (fun z2 _ => ?_)
        refine au ?_
        first | refine Sim.ite Iff.rfl (fun hb2 => ?_) (fun _ => Sim.no) | refine Sim.guard (fun hb2 => ?_)
        refine au ?_
        refine Sim.opt (f := fun y0 => [iav y0.a0, iav y0.a1, iav y0.a2, iav y0.a3, iav y0.a4, iav y0.a5, iav y0.a6, iav y0.a7, iav y0.a8, iav y0.a9, iav y0.a10, iav y0.a11, iav y0.a12]) (by have hb' : (Int.toNat z0) < 13 := (by omega); generalize (Int.toNat z0) = j at hb' ⊢; rcases j with _|_|_|_|_|_|_|_|_|_|_|_|_|j <;> first | rfl | exact absurd hb' (by omega)) (fun y0 _ => ?_)
        refine au ?_
        exact Sim.ret ⟨_, _, rfl, rfl, rfl⟩
  · exact au (.ret ⟨_, rfl, rfl⟩)
noncomputable def conf_table_1_step (len : Nat) (x4 : Int) (owns2 : Ar13 Int) (slots2 : Gconf_span) (c3 : GConf) (x5 : Int) : Option ((Int) ⊕ ((Bool) ⊕ (Unit))) :=
  if x5 < x4 then
    if 0 ≤ x5 ∧ x5 < ((len : Nat) : Int) then
      (Ar13.get? (Ar13.mk owns2.a0 owns2.a1 owns2.a2 owns2.a3 owns2.a4 owns2.a5 owns2.a6 owns2.a7 owns2.a8 owns2.a9 owns2.a10 owns2.a11 owns2.a12) (Int.toNat x5)).bind fun z3 =>
      if z3 = 0 then
        some (.inr (.inl false))
      else
        some (.inl (wr (x5 + 1)))
    else none
  else
    some (.inr (.inr ()))
noncomputable def conf_table_1 (len : Nat) (x4 : Int) (owns2 : Ar13 Int) (slots2 : Gconf_span) (c3 : GConf) (x5 : Int) : Option ((Bool) ⊕ (Unit)) :=
  loopO (fun s : Int => conf_table_1_step len x4 owns2 slots2 c3 s) x5
@[reducible] def conf_table_1_st (len : Nat) (x4 : Int) (owns2 : Ar13 Int) (slots2 : Gconf_span) (c3 : GConf) (x5 : Int) : PF.St := ⟨[(39, .arr 104 0 len 1 false), (40, iav x4), (41, iav x5)], [(104, ⟨true, Ar13.cells iav owns2⟩), (103, ⟨true, Gconf_span.cells slots2⟩), (101, ⟨true, GConf.cells c3⟩)]⟩
def conf_table_1_rel (len : Nat) (x4 : Int) (owns2 : Ar13 Int) (slots2 : Gconf_span) (c3 : GConf) (r : ((Bool) ⊕ (Unit))) (q : Ex × PF.St) : Prop := (fun r (q : Ex × PF.St) => Sum.elim (fun r => (fun r (q : Ex × PF.St) => q = (Ex.ret, ⟨[(2, .bool r)], [(104, ⟨true, Ar13.cells iav owns2⟩), (103, ⟨true, Gconf_span.cells slots2⟩), (101, ⟨true, GConf.cells c3⟩)]⟩)) r q) (fun r => (fun r (q : Ex × PF.St) => q = ((.exit 2), ⟨[(2, .undef)], [(104, ⟨true, Ar13.cells iav owns2⟩), (103, ⟨true, Gconf_span.cells slots2⟩), (101, ⟨true, GConf.cells c3⟩)]⟩)) r q) r) r q
def conf_table_1_inv (len : Nat) (x4 : Int) (owns2 : Ar13 Int) (slots2 : Gconf_span) (c3 : GConf) (v : Int) (e : PF.St) : Prop := e = conf_table_1_st len x4 owns2 slots2 c3 v
theorem conf_table_1_sim (len : Nat) (x4 : Int) (owns2 : Ar13 Int) (slots2 : Gconf_span) (c3 : GConf) (x5 : Int) (s : PF.St) (hk : keep [39, 40, 41] [101, 103, 104] s = some (conf_table_1_st len x4 owns2 slots2 c3 x5)) : Sim (conf_table_1 len x4 owns2 slots2 c3 x5) (Gv (conf_table_1_rel len x4 owns2 slots2 c3)) (LM.loop ([39, 40, 41], [101, 103, 104], [2], B_conf_table_1) s) := by
  refine sim_loop M XE (conf_table_1_inv len x4 owns2 slots2 c3) (conf_table_1_rel len x4 owns2 slots2 c3) ?_ _ _ _ hk rfl
  clear hk
  rintro S hS hw hw8 R hR x5 env hp he
  change (⟨env, hp⟩ : PF.St) = conf_table_1_st len x4 owns2 slots2 c3 x5 at he
  cases he
  show Sim (conf_table_1_step len x4 owns2 slots2 c3 x5) _ _
  unfold conf_table_1_step
  simp only [hw]
  refine au (.ite Iff.rfl (fun hc5 => ?_) fun hc5 => ?_)
  · refine au ?_
    first | refine Sim.ite Iff.rfl (fun _ => ?_) (fun _ => Sim.no) | refine Sim.guard (fun _ => ?_)
    refine au ?_
    refine Sim.opt (f := iav) (by generalize (Int.toNat x5) = j; rcases j with _|_|_|_|_|_|_|_|_|_|_|_|_|j <;> first | rfl | exact (loadC_out (by simp only [List.length_cons, List.length_nil]; omega)).trans rfl | exact (storeC_none _ (by simp) _ _ (by simp only [List.length_cons, List.length_nil]; omega)).trans rfl) (fun z3 _ => ?_)
    refine au (.ite Iff.rfl (fun hc6 => ?_) fun hc6 => ?_)
    · exact au (.ret ⟨_, rfl, rfl⟩)
    · refine au ?_
      exact Sim.ret ⟨_, _, rfl, rfl, rfl⟩
  · exact au (.ret ⟨_, rfl, rfl⟩)
noncomputable def conf_table (c0 : GConf) : Option Bool :=
  (conf_span_has (Gconf_span.mk 1 32) (List.length c0.Table : Int)).bind fun r0 =>
  if (!r0) = true then
    some false
  else
    (conf_table_0 c0.Table (List.length c0.Table : Int) (Gconf_span.mk 1 32) c0 0 (Ar13.mk 0 0 0 0 0 0 0 0 0 0 0 0 0)).bind fun r2 =>
    Sum.elim
      (fun r3 =>
        some r3.1)
      (fun r4 =>
        if 0 ≤ c0.N ∧ c0.N ≤ (13 : Nat) then
          (conf_table_1 ((Int.toNat c0.N) - 0) ((((Int.toNat c0.N) - 0) : Nat) : Int) r4 (Gconf_span.mk 1 32) c0 0).bind fun r5 =>
          Sum.elim
            (fun r6 =>
              some r6)
            (fun r7 =>
              some true)
            r5
        else none)
      r2
theorem conf_table_sim (c0 : GConf) : Sim (conf_table c0) (Gv fun r q => q = (.bool r, [])) (LM.call n_conf_table [GConf.av c0] []) := by
  unfold conf_table
  refine sim_evR M XE rfl rfl fun S hS hw hw8 R hR => ?_
  refine au ?_
  refine Sim.ki hS (m := (List.length c0.Table : Int)) (by simp) ?_
  refine au (cE hR (conf_span_has_sim _ _) fun r0 => ?_)
  refine au (.iteB (fun hc => ?_) fun hc => ?_)
  · exact au (.ret ⟨_, rfl, rfl⟩)
  · refine au ?_
    refine Sim.ki hS (m := (List.length c0.Table : Int)) (by simp) ?_
    refine au ?_
    refine Sim.callL hR (conf_table_0_sim c0.Table (List.length c0.Table : Int) (Gconf_span.mk 1 32) c0 0 (Ar13.mk 0 0 0 0 0 0 0 0 0 0 0 0 0) _ rfl) ?_
    rintro r2 q hr
    rcases r2 with r3 | r4
    · cases hr
      exact au (.ret ⟨_, rfl, rfl⟩)
    · cases hr
      refine au ?_
      first | refine Sim.ite Iff.rfl (fun _ => ?_) (fun _ => Sim.no) | refine Sim.guard (fun _ => ?_)
      refine au ?_
      refine Sim.callL hR (conf_table_1_sim ((Int.toNat c0.N) - 0) ((((Int.toNat c0.N) - 0) : Nat) : Int) r4 (Gconf_span.mk 1 32) c0 0 _ rfl) ?_
      rintro r5 q hr
      rcases r5 with r6 | r7
      · cases hr
        exact au (.ret ⟨_, rfl, rfl⟩)
      · cases hr
        exact au (.ret ⟨_, rfl, rfl⟩)
noncomputable def conf_Plain (c0 : GConf) : Option Int :=
  (conf_nodes c0).bind fun r0 =>
  if (!r0) = true then
    some 7
  else
    (conf_span_has (Gconf_span.mk 1 4) c0.D).bind fun r2 =>
    if (!r2) = true then
      some 10
    else
      (conf_numbers c0).bind fun r3 =>
      if (!r3) = true then
        some 8
      else
        (conf_table c0).bind fun r4 =>
        if (!r4) = true then
          some 11
        else
          some 0
theorem conf_Plain_sim (c0 : GConf) : Sim (conf_Plain c0) (Gv fun r q => q = (iav r, [])) (LM.call n_conf_Plain [GConf.av c0] []) := by
  unfold conf_Plain
  refine sim_evR M XE rfl rfl fun S hS hw hw8 R hR => ?_
  refine au (cE hR (conf_nodes_sim _) fun r0 => ?_)
  refine au (.iteB (fun hc => ?_) fun hc => ?_)
  · exact au (.ret ⟨_, rfl, rfl⟩)
  · refine au (cE hR (conf_span_has_sim _ _) fun r2 => ?_)
    refine au (.iteB (fun hc2 => ?_) fun hc2 => ?_)
    · exact au (.ret ⟨_, rfl, rfl⟩)
    · refine au (cE hR (conf_numbers_sim _) fun r3 => ?_)
      refine au (.iteB (fun hc3 => ?_) fun hc3 => ?_)
      · exact au (.ret ⟨_, rfl, rfl⟩)
      · refine au (cE hR (conf_table_sim _) fun r4 => ?_)
        refine au (.iteB (fun hc4 => ?_) fun hc4 => ?_)
        · exact au (.ret ⟨_, rfl, rfl⟩)
        · exact au (.ret ⟨_, rfl, rfl⟩)
noncomputable def num_Mod (n0 : Int) (by0 : Int) : Option Int :=
  if by0 < 1 then
    some 0
  else
    if by0 = 0 then none else
    if (Int.tmod n0 by0) < 0 then
      some (wr ((Int.tmod n0 by0) + by0))
    else
      some (Int.tmod n0 by0)
theorem num_Mod_sim (n0 : Int) (by0 : Int) : Sim (num_Mod n0 by0) (Gv fun r q => q = (iav r, [])) (LM.call n_num_Mod [iav n0, iav by0] []) := by
  unfold num_Mod
  refine sim_evR M XE rfl rfl fun S hS hw hw8 R hR => ?_
  simp only [hw]
  refine au (.ite Iff.rfl (fun hc => ?_) fun hc => ?_)
  · exact au (.ret ⟨_, rfl, rfl⟩)
  · refine au ?_
    refine Sim.ite Iff.rfl (fun _ => Sim.no) (fun hc2 => ?_)
    refine au (.ite Iff.rfl (fun hc3 => ?_) fun hc3 => ?_)
    · exact au (.ret ⟨_, rfl, rfl⟩)
    · exact au (.ret ⟨_, rfl, rfl⟩)
noncomputable def ring_put (n0 : Int) : Option Int :=
  (num_Mod n0 65536).bind fun r0 =>
  some r0
theorem ring_put_sim (n0 : Int) : Sim (ring_put n0) (Gv fun r q => q = (iav r, [])) (LM.call n_ring_put [iav n0] []) := by
  unfold ring_put
  refine sim_evR M XE rfl rfl fun S hS hw hw8 R hR => ?_
  refine au (cE hR (num_Mod_sim _ _) fun r0 => ?_)
  exact au (.ret ⟨_, rfl, rfl⟩)
noncomputable def ring_Put (n0 : Int) : Option Int :=
  (ring_put n0).bind fun r0 =>
  some r0
theorem ring_Put_sim (n0 : Int) : Sim (ring_Put n0) (Gv fun r q => q = (iav r, [])) (LM.call n_ring_Put [iav n0] []) := by
  unfold ring_Put
  refine sim_evR M XE rfl rfl fun S hS hw hw8 R hR => ?_
  refine au (cE hR (ring_put_sim _) fun r0 => ?_)
  exact au (.ret ⟨_, rfl, rfl⟩)
noncomputable def num_Clamp (n0 : Int) (low : Int) (high : Int) : Option Int :=
  if n0 < low then
    some low
  else
    if high < low then
      some low
    else
      if high < n0 then
        some high
      else
        some n0
theorem num_Clamp_sim (n0 : Int) (low : Int) (high : Int) : Sim (num_Clamp n0 low high) (Gv fun r q => q = (iav r, [])) (LM.call n_num_Clamp [iav n0, iav low, iav high] []) := by
  unfold num_Clamp
  refine sim_evR M XE rfl rfl fun S hS hw hw8 R hR => ?_
  refine au (.ite Iff.rfl (fun hc => ?_) fun hc => ?_)
  · exact au (.ret ⟨_, rfl, rfl⟩)
  · refine au (.ite Iff.rfl (fun hc2 => ?_) fun hc2 => ?_)
    · exact au (.ret ⟨_, rfl, rfl⟩)
    · refine au (.ite Iff.rfl (fun hc3 => ?_) fun hc3 => ?_)
      · exact au (.ret ⟨_, rfl, rfl⟩)
      · exact au (.ret ⟨_, rfl, rfl⟩)
noncomputable def conf_Rounds (c0 : GConf) : Option Int :=
  (conf_Plain c0).bind fun r0 =>
  if r0 ≠ 0 then
    some 0
  else
    some (wr (3 * (wr (c0.F + 1))))
theorem conf_Rounds_sim (c0 : GConf) : Sim (conf_Rounds c0) (Gv fun r q => q = (iav r, [])) (LM.call n_conf_Rounds [GConf.av c0] []) := by
  unfold conf_Rounds
  refine sim_evR M XE rfl rfl fun S hS hw hw8 R hR => ?_
  simp only [hw]
  refine au (cE hR (conf_Plain_sim _) fun r0 => ?_)
  refine au (.ite Iff.rfl (fun hc => ?_) fun hc => ?_)
  · exact au (.ret ⟨_, rfl, rfl⟩)
  · exact au (.ret ⟨_, rfl, rfl⟩)
noncomputable def conf_Length (c0 : GConf) : Option Int :=
  (conf_Rounds c0).bind fun r0 =>
  some (wr (r0 * (max c0.D 0)))
theorem conf_Length_sim (c0 : GConf) : Sim (conf_Length c0) (Gv fun r q => q = (iav r, [])) (LM.call n_conf_Length [GConf.av c0] []) := by
  unfold conf_Length
  refine sim_evR M XE rfl rfl fun S hS hw hw8 R hR => ?_
  simp only [hw]
  refine au (cE hR (conf_Rounds_sim _) fun r0 => ?_)
  exact au (.ret ⟨_, rfl, rfl⟩)
noncomputable def diag_counters_clean_0_step (x0 : Ar6 Int) (x3 : Ar6 Int) (x2 : Int) (d2 : Ar6 Int) : Option ((Int × (Ar6 Int)) ⊕ ((Ar6 Int))) :=
  if x2 < 6 then
    if 0 ≤ x2 ∧ x2 < (6 : Nat) then
      (Ar6.get? (Ar6.mk x0.a0 x0.a1 x0.a2 x0.a3 x0.a4 x0.a5) (Int.toNat x2)).bind fun z0 =>
      (num_Clamp z0 0 65535).bind fun r0 =>
      if 0 ≤ x2 ∧ x2 < (6 : Nat) then
        (Ar6.set? d2 (Int.toNat x2) r0).bind fun y0 =>
        some (.inl ((wr (x2 + 1)), y0))
      else none
    else none
  else
    some (.inr d2)
noncomputable def diag_counters_clean_0 (x0 : Ar6 Int) (x3 : Ar6 Int) (x2 : Int) (d2 : Ar6 Int) : Option ((Ar6 Int)) :=
  loopO (fun s : Int × (Ar6 Int) => diag_counters_clean_0_step x0 x3 s.1 s.2) (x2, d2)
@[reducible] def diag_counters_clean_0_st (x0 : Ar6 Int) (x3 : Ar6 Int) (x2 : Int) (d2 : Ar6 Int) : PF.St := ⟨[(1, .ptr 101 0), (2, .ptr 102 0), (5, Ar6.av iav x0), (6, iav x2)], [(102, ⟨true, Ar6.cells iav x3⟩), (101, ⟨true, Ar6.cells iav d2⟩)]⟩
def diag_counters_clean_0_rel (x0 : Ar6 Int) (x3 : Ar6 Int) (r : ((Ar6 Int))) (q : Ex × PF.St) : Prop := (fun r (q : Ex × PF.St) => q = ((.exit 0), ⟨[(1, .ptr 101 0), (2, .ptr 102 0)], [(102, ⟨true, Ar6.cells iav x3⟩), (101, ⟨true, Ar6.cells iav r⟩)]⟩)) r q
def diag_counters_clean_0_inv (x0 : Ar6 Int) (x3 : Ar6 Int) (v : Int × (Ar6 Int)) (e : PF.St) : Prop := e = diag_counters_clean_0_st x0 x3 v.1 v.2
theorem diag_counters_clean_0_sim (x0 : Ar6 Int) (x3 : Ar6 Int) (x2 : Int) (d2 : Ar6 Int) (s : PF.St) (hk : keep [1, 2, 5, 6] [101, 102] s = some (diag_counters_clean_0_st x0 x3 x2 d2)) : Sim (diag_counters_clean_0 x0 x3 x2 d2) (Gv (diag_counters_clean_0_rel x0 x3)) (LM.loop ([1, 2, 5, 6], [101, 102], [1, 2], B_diag_counters_clean_0) s) := by
  refine sim_loop M XE (diag_counters_clean_0_inv x0 x3) (diag_counters_clean_0_rel x0 x3) ?_ _ _ _ hk rfl
  clear hk
  rintro S hS hw hw8 R hR ⟨x2, d2⟩ env hp he
  change (⟨env, hp⟩ : PF.St) = diag_counters_clean_0_st x0 x3 x2 d2 at he
  cases he
  show Sim (diag_counters_clean_0_step x0 x3 x2 d2) _ _
  unfold diag_counters_clean_0_step
  simp only [hw]
  refine au (.ite Iff.rfl (fun hc => ?_) fun hc => ?_)
  · refine au ?_
    first | refine Sim.ite Iff.rfl (fun hb => ?_) (fun _ => Sim.no) | refine Sim.guard (fun hb => ?_)
    refine au ?_
    refine Sim.opt (f := iav) (by have hb' : (Int.toNat x2) < 6 := (by omega); generalize (Int.toNat x2) = j at hb' ⊢; rcases j with _|_|_|_|_|_|j <;> first | rfl | exact absurd hb' (by omega)) (fun z0 _ => ?_)
    refine au (cE hR (num_Clamp_sim _ _ _) fun r0 => ?_)
    refine au ?_
    first | refine Sim.ite Iff.rfl (fun hb2 => ?_) (fun _ => Sim.no) | refine Sim.guard (fun hb2 => ?_)
    refine au ?_
    refine Sim.opt (f := fun y0 => [iav y0.a0, iav y0.a1, iav y0.a2, iav y0.a3, iav y0.a4, iav y0.a5]) (by have hb' : (Int.toNat x2) < 6 := (by omega); generalize (Int.toNat x2) = j at hb' ⊢; rcases j with _|_|_|_|_|_|j <;> first | rfl | exact absurd hb' (by omega)) (fun y0 _ => ?_)
    refine au ?_
    exact Sim.ret ⟨_, _, rfl, rfl, rfl⟩
  · exact au (.ret ⟨_, rfl, rfl⟩)
noncomputable def diag_counters_clean (d0 : Ar6 Int) : Option ((Ar6 Int)) :=
  (diag_counters_clean_0 d0 (Ar6.mk 0 0 0 0 0 0) 0 d0).bind fun r2 =>
  some r2
theorem diag_counters_clean_sim (d0 : Ar6 Int) : Sim (diag_counters_clean d0) (Gv fun r q => q = (Ar6.av iav r, [])) (LM.call n_diag_counters_clean [Ar6.av iav d0] []) := by
  unfold diag_counters_clean
  refine sim_evR M XE rfl rfl fun S hS hw hw8 R hR => ?_
  refine au ?_
  refine Sim.callL hR (diag_counters_clean_0_sim d0 (Ar6.mk 0 0 0 0 0 0) 0 d0 _ rfl) ?_
  rintro r2 q rfl
  exact au (.ret ⟨_, rfl, rfl⟩)
noncomputable def diag_Clean (d0 : Ar6 Int) : Option ((Ar6 Int)) :=
  (diag_counters_clean d0).bind fun r0 =>
  some r0
theorem diag_Clean_sim (d0 : Ar6 Int) : Sim (diag_Clean d0) (Gv fun r q => q = (Ar6.av iav r, [])) (LM.call n_diag_Clean [Ar6.av iav d0] []) := by
  unfold diag_Clean
  refine sim_evR M XE rfl rfl fun S hS hw hw8 R hR => ?_
  refine au (cE hR (diag_counters_clean_sim _) fun r0 => ?_)
  exact au (.ret ⟨_, rfl, rfl⟩)
noncomputable def pipe_Blank (c0 : GConf) : Option ((List UInt8)) :=
  (conf_Length c0).bind fun r0 =>
  (strings_Repeat ([48] : List UInt8) r0).bind fun r2 =>
  some r2
theorem pipe_Blank_sim (c0 : GConf) : Sim (pipe_Blank c0) (Gv fun r q => q = (.str r, [])) (LM.call n_pipe_Blank [GConf.av c0] []) := by
  unfold pipe_Blank
  refine sim_evR M XE rfl rfl fun S hS hw hw8 R hR => ?_
  refine au (cE hR (conf_Length_sim _) fun r0 => ?_)
  refine au (cE hR (strings_Repeat_sim _ _) fun r2 => ?_)
  exact au (.ret ⟨_, rfl, rfl⟩)
noncomputable def mem_digits_0_step (last2 : Int) (len : Nat) (len2 : Nat) (x0 : Int) (x2 : Int) (x3 : List Int) : Option ((Int × (List Int)) ⊕ ((List Int))) :=
  if x2 < x0 then
    if 0 ≤ x2 ∧ x2 < ((len2 : Nat) : Int) then
      (x3[(Int.toNat x2)]?).bind fun z0 =>
      if z0 < 48 then
        if 0 ≤ x2 ∧ x2 < ((len : Nat) : Int) then
          (mod? x3 (Int.toNat x2) (fun _ => 48)).bind fun l0 =>
          some (.inl ((wr (x2 + 1)), l0))
        else none
      else
        if last2 < z0 then
          if 0 ≤ x2 ∧ x2 < ((len : Nat) : Int) then
            (mod? x3 (Int.toNat x2) (fun _ => 48)).bind fun l2 =>
            some (.inl ((wr (x2 + 1)), l2))
          else none
        else
          some (.inl ((wr (x2 + 1)), x3))
    else none
  else
    some (.inr x3)
noncomputable def mem_digits_0 (last2 : Int) (len : Nat) (len2 : Nat) (x0 : Int) (x2 : Int) (x3 : List Int) : Option ((List Int)) :=
  loopO (fun s : Int × (List Int) => mem_digits_0_step last2 len len2 x0 s.1 s.2) (x2, x3)
@[reducible] def mem_digits_0_st (last2 : Int) (len : Nat) (len2 : Nat) (x0 : Int) (x2 : Int) (x3 : List Int) : PF.St := ⟨[(1, u8av last2), (5, .arr 109 0 len 1 false), (10, .arr 109 0 len2 1 false), (11, iav x0), (12, iav x2)], [(109, ⟨true, (List.map u8av x3)⟩)]⟩
def mem_digits_0_rel (last2 : Int) (len : Nat) (len2 : Nat) (x0 : Int) (r : ((List Int))) (q : Ex × PF.St) : Prop := (fun r (q : Ex × PF.St) => q = ((.exit 0), ⟨[(5, .arr 109 0 len 1 false)], [(109, ⟨true, (List.map u8av r)⟩)]⟩)) r q
def mem_digits_0_inv (last2 : Int) (len : Nat) (len2 : Nat) (x0 : Int) (v : Int × (List Int)) (e : PF.St) : Prop := e = mem_digits_0_st last2 len len2 x0 v.1 v.2
theorem mem_digits_0_sim (last2 : Int) (len : Nat) (len2 : Nat) (x0 : Int) (x2 : Int) (x3 : List Int) (s : PF.St) (hk : keep [1, 5, 10, 11, 12] [109] s = some (mem_digits_0_st last2 len len2 x0 x2 x3)) : Sim (mem_digits_0 last2 len len2 x0 x2 x3) (Gv (mem_digits_0_rel last2 len len2 x0)) (LM.loop ([1, 5, 10, 11, 12], [109], [5], B_mem_digits_0) s) := by
  refine sim_loop M XE (mem_digits_0_inv last2 len len2 x0) (mem_digits_0_rel last2 len len2 x0) ?_ _ _ _ hk rfl
  clear hk
  rintro S hS hw hw8 R hR ⟨x2, x3⟩ env hp he
  change (⟨env, hp⟩ : PF.St) = mem_digits_0_st last2 len len2 x0 x2 x3 at he
  cases he
  show Sim (mem_digits_0_step last2 len len2 x0 x2 x3) _ _
  unfold mem_digits_0_step
  simp only [hw]
  refine au (.ite Iff.rfl (fun hc => ?_) fun hc => ?_)
  · refine au ?_
    first | refine Sim.ite Iff.rfl (fun _ => ?_) (fun _ => Sim.no) | refine Sim.guard (fun _ => ?_)
    refine au ?_
    refine Sim.opt (load_map (f := u8av) (m := (Int.toNat x2)) (fun _ => rfl) (by omega)) (fun z0 _ => ?_)
    refine au (.ite Iff.rfl (fun hc2 => ?_) fun hc2 => ?_)
    · refine au ?_
      first | refine Sim.ite Iff.rfl (fun _ => ?_) (fun _ => Sim.no) | refine Sim.guard (fun _ => ?_)
      refine au ?_
      refine Sim.opt (store_map (u := (fun _ => 48)) (m := (Int.toNat x2)) (by omega) (fun _ => rfl)) (fun l0 _ => ?_)
      refine au ?_
      exact Sim.ret ⟨_, _, rfl, (keep_eq rfl rfl rfl (okH_flat (Flat.map (fun _ => rfl) _) (okH_nil _))), rfl⟩
    · refine au (.ite Iff.rfl (fun hc3 => ?_) fun hc3 => ?_)
      · refine au ?_
        first | refine Sim.ite Iff.rfl (fun _ => ?_) (fun _ => Sim.no) | refine Sim.guard (fun _ => ?_)
        refine au ?_
        refine Sim.opt (store_map (u := (fun _ => 48)) (m := (Int.toNat x2)) (by omega) (fun _ => rfl)) (fun l2 _ => ?_)
        refine au ?_
        exact Sim.ret ⟨_, _, rfl, (keep_eq rfl rfl rfl (okH_flat (Flat.map (fun _ => rfl) _) (okH_nil _))), rfl⟩
      · refine au ?_
        exact Sim.ret ⟨_, _, rfl, (keep_eq rfl rfl rfl (okH_flat (Flat.map (fun _ => rfl) _) (okH_nil _))), rfl⟩
  · refine au ?_
    refine Sim.go (keep_eq rfl rfl rfl (okH_flat (Flat.map (fun _ => rfl) _) (okH_nil _))) ?_
    exact au (.ret ⟨_, rfl, rfl⟩)
noncomputable def mem_digits (s0 : List UInt8) (last : Int) : Option ((List UInt8)) :=
  if List.length s0 ≤ lenMax then
    (mem_digits_0 last (List.length s0) (List.length s0) (((List.length s0) : Nat) : Int) 0 (intsOf s0)).bind fun r0 =>
    (sub? r0 0 (List.length s0)).bind fun y0 =>
    some (bytesOf y0)
  else none
theorem mem_digits_sim (s0 : List UInt8) (last : Int) : Sim (mem_digits s0 last) (Gv fun r q => q = (.str r, [])) (LM.call n_mem_digits [.str s0, u8av last] []) := by
  unfold mem_digits
  refine sim_evR M XE rfl rfl fun S hS hw hw8 R hR => ?_
  refine au ?_
  first | refine Sim.ite Iff.rfl (fun _ => ?_) (fun _ => Sim.no) | refine Sim.guard (fun _ => ?_)
  refine au ?_
  refine Sim.kl hS (byte_map s0) ?_
  refine au ?_
  refine Sim.callL hR (mem_digits_0_sim last (List.length s0) (List.length s0) (((List.length s0) : Nat) : Int) 0 (intsOf s0) _ (keep_eq rfl rfl rfl (okH_flat (Flat.map (fun _ => rfl) _) (okH_nil _)))) ?_
  rintro r0 q rfl
  refine au ?_
  refine Sim.sub (f := u8av) rfl (fun y0 hy0 => ?_)
  refine au ?_
  refine Sim.go (by rw [hy0]; exact bytes_mapM _) ?_
  exact au (.ret ⟨_, rfl, rfl⟩)
noncomputable def mem_cut (s0 : List UInt8) (most : Int) : Option ((List UInt8)) :=
  if 0 ≤ (min (List.length s0 : Int) most) ∧ (min (List.length s0 : Int) most) ≤ ((List.length s0) : Nat) then
    some (List.take (Int.toNat (min (List.length s0 : Int) most)) s0)
  else none
theorem mem_cut_sim (s0 : List UInt8) (most : Int) : Sim (mem_cut s0 most) (Gv fun r q => q = (.str r, [])) (LM.call n_mem_cut [.str s0, iav most] []) := by
  unfold mem_cut
  refine sim_evR M XE rfl rfl fun S hS hw hw8 R hR => ?_
  refine au ?_
  first | refine Sim.ite Iff.rfl (fun _ => ?_) (fun _ => Sim.no) | refine Sim.guard (fun _ => ?_)
  exact au (.ret ⟨_, rfl, rfl⟩)
noncomputable def mem_row (s0 : List UInt8) (n0 : Int) (last : Int) : Option ((List UInt8)) :=
  if (List.length s0 : Int) ≠ n0 then
    some ([] : List UInt8)
  else
    (mem_digits s0 last).bind fun r0 =>
    some r0
theorem mem_row_sim (s0 : List UInt8) (n0 : Int) (last : Int) : Sim (mem_row s0 n0 last) (Gv fun r q => q = (.str r, [])) (LM.call n_mem_row [.str s0, iav n0, u8av last] []) := by
  unfold mem_row
  refine sim_evR M XE rfl rfl fun S hS hw hw8 R hR => ?_
  refine au (.ite Iff.rfl (fun hc => ?_) fun hc => ?_)
  · exact au (.ret ⟨_, rfl, rfl⟩)
  · refine au (cE hR (mem_digits_sim _ _) fun r0 => ?_)
    exact au (.ret ⟨_, rfl, rfl⟩)
noncomputable def conf_Bits (c0 : GConf) : Option Int :=
  (conf_Plain c0).bind fun r0 =>
  if r0 ≠ 0 then
    some 0
  else
    some (wr (8 + c0.N))
theorem conf_Bits_sim (c0 : GConf) : Sim (conf_Bits c0) (Gv fun r q => q = (iav r, [])) (LM.call n_conf_Bits [GConf.av c0] []) := by
  unfold conf_Bits
  refine sim_evR M XE rfl rfl fun S hS hw hw8 R hR => ?_
  simp only [hw]
  refine au (cE hR (conf_Plain_sim _) fun r0 => ?_)
  refine au (.ite Iff.rfl (fun hc => ?_) fun hc => ?_)
  · exact au (.ret ⟨_, rfl, rfl⟩)
  · exact au (.ret ⟨_, rfl, rfl⟩)
noncomputable def slices_Index_int_int_0_step (s2 : List Int) (v2 : Int) (x0 : Int) (x2 : Int) : Option ((Int) ⊕ ((Int) ⊕ (Unit))) :=
  if x2 < x0 then
    (idx? s2 x2).bind fun z0 =>
    if v2 = z0 then
      some (.inr (.inl x2))
    else
      some (.inl (wr (x2 + 1)))
  else
    some (.inr (.inr ()))
noncomputable def slices_Index_int_int_0 (s2 : List Int) (v2 : Int) (x0 : Int) (x2 : Int) : Option ((Int) ⊕ (Unit)) :=
  loopO (fun s : Int => slices_Index_int_int_0_step s2 v2 x0 s) x2
@[reducible] def slices_Index_int_int_0_st (s2 : List Int) (v2 : Int) (x0 : Int) (x2 : Int) : PF.St := ⟨[(0, lav iav s2), (1, iav v2), (7, iav x0), (8, iav x2)], []⟩
def slices_Index_int_int_0_rel (s2 : List Int) (v2 : Int) (x0 : Int) (r : ((Int) ⊕ (Unit))) (q : Ex × PF.St) : Prop := (fun r (q : Ex × PF.St) => Sum.elim (fun r => (fun r (q : Ex × PF.St) => q = (Ex.ret, ⟨[(4, iav r)], []⟩)) r q) (fun r => (fun r (q : Ex × PF.St) => q = ((.exit 0), ⟨[(4, .undef)], []⟩)) r q) r) r q
def slices_Index_int_int_0_inv (s2 : List Int) (v2 : Int) (x0 : Int) (v : Int) (e : PF.St) : Prop := e = slices_Index_int_int_0_st s2 v2 x0 v
theorem slices_Index_int_int_0_sim (s2 : List Int) (v2 : Int) (x0 : Int) (x2 : Int) (s : PF.St) (hk : keep [0, 1, 7, 8] [] s = some (slices_Index_int_int_0_st s2 v2 x0 x2)) : Sim (slices_Index_int_int_0 s2 v2 x0 x2) (Gv (slices_Index_int_int_0_rel s2 v2 x0)) (LM.loop ([0, 1, 7, 8], [], [4], B_slices_Index_int_int_0) s) := by
  refine sim_loop M XE (slices_Index_int_int_0_inv s2 v2 x0) (slices_Index_int_int_0_rel s2 v2 x0) ?_ _ _ _ hk rfl
  clear hk
  rintro S hS hw hw8 R hR x2 env hp he
  change (⟨env, hp⟩ : PF.St) = slices_Index_int_int_0_st s2 v2 x0 x2 at he
  cases he
  show Sim (slices_Index_int_int_0_step s2 v2 x0 x2) _ _
  unfold slices_Index_int_int_0_step
  simp only [hw]
  refine au (.ite Iff.rfl (fun hc => ?_) fun hc => ?_)
  · refine au ?_
    refine Sim.ix (by simp) (fun z0 hz0 => ?_)
    refine au ?_
    refine Sim.go (idx_map _ hz0) ?_
    refine au (.ite Iff.rfl (fun hc2 => ?_) fun hc2 => ?_)
    · exact au (.ret ⟨_, rfl, rfl⟩)
    · refine au ?_
      exact Sim.ret ⟨_, _, rfl, rfl, rfl⟩
  · exact au (.ret ⟨_, rfl, rfl⟩)
noncomputable def slices_Index_int_int (s0 : List Int) (v0 : Int) : Option Int :=
  (slices_Index_int_int_0 s0 v0 (List.length s0 : Int) 0).bind fun r0 =>
  Sum.elim
    (fun r2 =>
      some r2)
    (fun r3 =>
      some (-1))
    r0
theorem slices_Index_int_int_sim (s0 : List Int) (v0 : Int) : Sim (slices_Index_int_int s0 v0) (Gv fun r q => q = (iav r, [])) (LM.call n_slices_Index_int_int [lav iav s0, iav v0] []) := by
  unfold slices_Index_int_int
  refine sim_evR M XE rfl rfl fun S hS hw hw8 R hR => ?_
  refine au ?_
  refine Sim.ki hS (m := (List.length s0 : Int)) (by simp) ?_
  refine au ?_
  refine Sim.callL hR (slices_Index_int_int_0_sim s0 v0 (List.length s0 : Int) 0 _ rfl) ?_
  rintro r0 q hr
  rcases r0 with r2 | r3
  · cases hr
    exact au (.ret ⟨_, rfl, rfl⟩)
  · cases hr
    exact au (.ret ⟨_, rfl, rfl⟩)
noncomputable def slices_Contains_int_int (s0 : List Int) (v0 : Int) : Option Bool :=
  (slices_Index_int_int s0 v0).bind fun r0 =>
  some (decide (0 ≤ r0))
theorem slices_Contains_int_int_sim (s0 : List Int) (v0 : Int) : Sim (slices_Contains_int_int s0 v0) (Gv fun r q => q = (.bool r, [])) (LM.call n_slices_Contains_int_int [lav iav s0, iav v0] []) := by
  unfold slices_Contains_int_int
  refine sim_evR M XE rfl rfl fun S hS hw hw8 R hR => ?_
  refine au (cE hR (slices_Index_int_int_sim _ _) fun r0 => ?_)
  exact au (.ret ⟨_, rfl, rfl⟩)
noncomputable def gate_Mark_0_step (marks2 : List UInt8) (at2 : List Int) (len : Nat) (x0 : Int) (x2 : Int) (x3 : List Int) : Option ((Int × (List Int)) ⊕ ((List Int))) :=
  if x2 < x0 then
    if 0 ≤ x2 ∧ x2 < ((len : Nat) : Int) then
      (mod? x3 (Int.toNat x2) (fun _ => 48)).bind fun l0 =>
      if x2 < (List.length marks2 : Int) then
        (idx? marks2 x2).bind fun b0 =>
        if (UInt8.toNat b0 : Int) = 49 then
          if 0 ≤ x2 ∧ x2 < ((len : Nat) : Int) then
            (mod? l0 (Int.toNat x2) (fun _ => 49)).bind fun l2 =>
            some (.inl ((wr (x2 + 1)), l2))
          else none
        else
          (slices_Contains_int_int at2 x2).bind fun r2 =>
          if r2 = true then
            if 0 ≤ x2 ∧ x2 < ((len : Nat) : Int) then
              (mod? l0 (Int.toNat x2) (fun _ => 49)).bind fun l3 =>
              some (.inl ((wr (x2 + 1)), l3))
            else none
          else
            some (.inl ((wr (x2 + 1)), l0))
      else
        (slices_Contains_int_int at2 x2).bind fun r3 =>
        if r3 = true then
          if 0 ≤ x2 ∧ x2 < ((len : Nat) : Int) then
            (mod? l0 (Int.toNat x2) (fun _ => 49)).bind fun l4 =>
            some (.inl ((wr (x2 + 1)), l4))
          else none
        else
          some (.inl ((wr (x2 + 1)), l0))
    else none
  else
    some (.inr x3)
noncomputable def gate_Mark_0 (marks2 : List UInt8) (at2 : List Int) (len : Nat) (x0 : Int) (x2 : Int) (x3 : List Int) : Option ((List Int)) :=
  loopO (fun s : Int × (List Int) => gate_Mark_0_step marks2 at2 len x0 s.1 s.2) (x2, x3)
@[reducible] def gate_Mark_0_st (marks2 : List UInt8) (at2 : List Int) (len : Nat) (x0 : Int) (x2 : Int) (x3 : List Int) : PF.St := ⟨[(0, .str marks2), (2, lav iav at2), (7, .arr 111 0 len 1 false), (13, iav x0), (14, iav x2)], [(111, ⟨true, (List.map u8av x3)⟩)]⟩
def gate_Mark_0_rel (marks2 : List UInt8) (at2 : List Int) (len : Nat) (x0 : Int) (r : ((List Int))) (q : Ex × PF.St) : Prop := (fun r (q : Ex × PF.St) => q = ((.exit 0), ⟨[(7, .arr 111 0 len 1 false)], [(111, ⟨true, (List.map u8av r)⟩)]⟩)) r q
def gate_Mark_0_inv (marks2 : List UInt8) (at2 : List Int) (len : Nat) (x0 : Int) (v : Int × (List Int)) (e : PF.St) : Prop := e = gate_Mark_0_st marks2 at2 len x0 v.1 v.2
theorem gate_Mark_0_sim (marks2 : List UInt8) (at2 : List Int) (len : Nat) (x0 : Int) (x2 : Int) (x3 : List Int) (s : PF.St) (hk : keep [0, 2, 7, 13, 14] [111] s = some (gate_Mark_0_st marks2 at2 len x0 x2 x3)) : Sim (gate_Mark_0 marks2 at2 len x0 x2 x3) (Gv (gate_Mark_0_rel marks2 at2 len x0)) (LM.loop ([0, 2, 7, 13, 14], [111], [7], B_gate_Mark_0) s) := by
  refine sim_loop M XE (gate_Mark_0_inv marks2 at2 len x0) (gate_Mark_0_rel marks2 at2 len x0) ?_ _ _ _ hk rfl
  clear hk
  rintro S hS hw hw8 R hR ⟨x2, x3⟩ env hp he
  change (⟨env, hp⟩ : PF.St) = gate_Mark_0_st marks2 at2 len x0 x2 x3 at he
  cases he
  show Sim (gate_Mark_0_step marks2 at2 len x0 x2 x3) _ _
  unfold gate_Mark_0_step
  simp only [hw]
  refine au (.ite Iff.rfl (fun hc => ?_) fun hc => ?_)
  · refine au ?_
    first | refine Sim.ite Iff.rfl (fun _ => ?_) (fun _ => Sim.no) | refine Sim.guard (fun _ => ?_)
    refine au ?_
    refine Sim.opt (store_map (u := (fun _ => 48)) (m := (Int.toNat x2)) (by omega) (fun _ => rfl)) (fun l0 _ => ?_)
    refine au (.ite Iff.rfl (fun hc2 => ?_) fun hc2 => ?_)
    · refine au ?_
      refine Sim.ix rfl (fun b0 hb0 => ?_)
      refine au ?_
      refine Sim.go hb0 ?_
      refine au (.ite Iff.rfl (fun hc3 => ?_) fun hc3 => ?_)
      · refine au ?_
        first | refine Sim.ite Iff.rfl (fun _ => ?_) (fun _ => Sim.no) | refine Sim.guard (fun _ => ?_)
        refine au ?_
        refine Sim.opt (store_map (u := (fun _ => 49)) (m := (Int.toNat x2)) (by omega) (fun _ => rfl)) (fun l2 _ => ?_)
        refine au ?_
        exact Sim.ret ⟨_, _, rfl, (keep_eq rfl rfl rfl (okH_flat (Flat.map (fun _ => rfl) _) (okH_nil _))), rfl⟩
      · refine au (cE hR (slices_Contains_int_int_sim _ _) fun r2 => ?_)
        refine au (.iteB (fun hc4 => ?_) fun hc4 => ?_)
        · refine au ?_
          first | refine Sim.ite Iff.rfl (fun _ => ?_) (fun _ => Sim.no) | refine Sim.guard (fun _ => ?_)
          refine au ?_
          refine Sim.opt (store_map (u := (fun _ => 49)) (m := (Int.toNat x2)) (by omega) (fun _ => rfl)) (fun l3 _ => ?_)
          refine au ?_
          exact Sim.ret ⟨_, _, rfl, (keep_eq rfl rfl rfl (okH_flat (Flat.map (fun _ => rfl) _) (okH_nil _))), rfl⟩
        · refine au ?_
          exact Sim.ret ⟨_, _, rfl, (keep_eq rfl rfl rfl (okH_flat (Flat.map (fun _ => rfl) _) (okH_nil _))), rfl⟩
    · refine au (cE hR (slices_Contains_int_int_sim _ _) fun r3 => ?_)
      refine au (.iteB (fun hc5 => ?_) fun hc5 => ?_)
      · refine au ?_
        first | refine Sim.ite Iff.rfl (fun _ => ?_) (fun _ => Sim.no) | refine Sim.guard (fun _ => ?_)
        refine au ?_
        refine Sim.opt (store_map (u := (fun _ => 49)) (m := (Int.toNat x2)) (by omega) (fun _ => rfl)) (fun l4 _ => ?_)
        refine au ?_
        exact Sim.ret ⟨_, _, rfl, (keep_eq rfl rfl rfl (okH_flat (Flat.map (fun _ => rfl) _) (okH_nil _))), rfl⟩
      · refine au ?_
        exact Sim.ret ⟨_, _, rfl, (keep_eq rfl rfl rfl (okH_flat (Flat.map (fun _ => rfl) _) (okH_nil _))), rfl⟩
  · refine au ?_
    refine Sim.go (keep_eq rfl rfl rfl (okH_flat (Flat.map (fun _ => rfl) _) (okH_nil _))) ?_
    exact au (.ret ⟨_, rfl, rfl⟩)
noncomputable def gate_Mark (marks : List UInt8) (n0 : Int) (at0 : List Int) : Option ((List UInt8)) :=
  (num_Clamp n0 0 64).bind fun r0 =>
  if 0 ≤ r0 ∧ r0 ≤ lenMax then
    (gate_Mark_0 marks at0 (Int.toNat r0) (((Int.toNat r0) : Nat) : Int) 0 (List.replicate (Int.toNat r0) 0)).bind fun r4 =>
    (sub? r4 0 (Int.toNat r0)).bind fun y0 =>
    some (bytesOf y0)
  else none
theorem gate_Mark_sim (marks : List UInt8) (n0 : Int) (at0 : List Int) : Sim (gate_Mark marks n0 at0) (Gv fun r q => q = (.str r, [])) (LM.call n_gate_Mark [.str marks, iav n0, lav iav at0] []) := by
  unfold gate_Mark
  refine sim_evR M XE rfl rfl fun S hS hw hw8 R hR => ?_
  refine au (cE hR (num_Clamp_sim _ _ _) fun r0 => ?_)
  refine au ?_
  first | refine Sim.ite Iff.rfl (fun _ => ?_) (fun _ => Sim.no) | refine Sim.guard (fun _ => ?_)
  refine au ?_
  refine Sim.kl hS (rep_map (f := u8av) 0 _ rfl _) ?_
  refine au ?_
  refine Sim.callL hR (gate_Mark_0_sim marks at0 (Int.toNat r0) (((Int.toNat r0) : Nat) : Int) 0 (List.replicate (Int.toNat r0) 0) _ (keep_eq rfl rfl rfl (okH_flat (Flat.map (fun _ => rfl) _) (okH_nil _)))) ?_
  rintro r4 q rfl
  refine au ?_
  refine Sim.sub (f := u8av) rfl (fun y0 hy0 => ?_)
  refine au ?_
  refine Sim.go (by rw [hy0]; exact bytes_mapM _) ?_
  exact au (.ret ⟨_, rfl, rfl⟩)
noncomputable def roster_Mark (c0 : GConf) (marks : List UInt8) (nodes : List Int) : Option ((List UInt8)) :=
  (gate_Mark marks c0.N nodes).bind fun r0 =>
  some r0
theorem roster_Mark_sim (c0 : GConf) (marks : List UInt8) (nodes : List Int) : Sim (roster_Mark c0 marks nodes) (Gv fun r q => q = (.str r, [])) (LM.call n_roster_Mark [GConf.av c0, .str marks, lav iav nodes] []) := by
  unfold roster_Mark
  refine sim_evR M XE rfl rfl fun S hS hw hw8 R hR => ?_
  refine au (cE hR (gate_Mark_sim _ _ _) fun r0 => ?_)
  exact au (.ret ⟨_, rfl, rfl⟩)
noncomputable def port_Blank_0_step (len : Nat) (x0 : Int) (c2 : GConf) (x2 : Int) (x3 : List GPort) : Option ((Int × (List GPort)) ⊕ ((List GPort))) :=
  if x2 < x0 then
    if 0 ≤ x2 ∧ x2 < ((len : Nat) : Int) then
      (mod? x3 (Int.toNat x2) (fun w0 => (GPort.mk w0.Text w0.Cycle c2.Fresh))).bind fun l0 =>
      some (.inl ((wr (x2 + 1)), l0))
    else none
  else
    some (.inr x3)
noncomputable def port_Blank_0 (len : Nat) (x0 : Int) (c2 : GConf) (x2 : Int) (x3 : List GPort) : Option ((List GPort)) :=
  loopO (fun s : Int × (List GPort) => port_Blank_0_step len x0 c2 s.1 s.2) (x2, x3)
@[reducible] def port_Blank_0_st (len : Nat) (x0 : Int) (c2 : GConf) (x2 : Int) (x3 : List GPort) : PF.St := ⟨[(1, .ptr 101 0), (3, .arr 110 0 len 3 true), (12, iav x0), (13, iav x2)], [(110, ⟨true, (List.flatMap GPort.cells x3)⟩), (101, ⟨true, GConf.cells c2⟩)]⟩
def port_Blank_0_rel (len : Nat) (x0 : Int) (c2 : GConf) (r : ((List GPort))) (q : Ex × PF.St) : Prop := (fun r (q : Ex × PF.St) => q = ((.exit 0), ⟨[(3, .arr 110 0 len 3 true)], [(110, ⟨true, (List.flatMap GPort.cells r)⟩), (101, ⟨true, GConf.cells c2⟩)]⟩)) r q
def port_Blank_0_inv (len : Nat) (x0 : Int) (c2 : GConf) (v : Int × (List GPort)) (e : PF.St) : Prop := e = port_Blank_0_st len x0 c2 v.1 v.2
theorem port_Blank_0_sim (len : Nat) (x0 : Int) (c2 : GConf) (x2 : Int) (x3 : List GPort) (s : PF.St) (hk : keep [1, 3, 12, 13] [101, 110] s = some (port_Blank_0_st len x0 c2 x2 x3)) : Sim (port_Blank_0 len x0 c2 x2 x3) (Gv (port_Blank_0_rel len x0 c2)) (LM.loop ([1, 3, 12, 13], [101, 110], [3], B_port_Blank_0) s) := by
  refine sim_loop M XE (port_Blank_0_inv len x0 c2) (port_Blank_0_rel len x0 c2) ?_ _ _ _ hk rfl
  clear hk
  rintro S hS hw hw8 R hR ⟨x2, x3⟩ env hp he
  change (⟨env, hp⟩ : PF.St) = port_Blank_0_st len x0 c2 x2 x3 at he
  cases he
  show Sim (port_Blank_0_step len x0 c2 x2 x3) _ _
  unfold port_Blank_0_step
  simp only [hw]
  refine au (.ite Iff.rfl (fun hc2 => ?_) fun hc2 => ?_)
  · refine au ?_
    first | refine Sim.ite Iff.rfl (fun _ => ?_) (fun _ => Sim.no) | refine Sim.guard (fun _ => ?_)
    refine au ?_
    refine Sim.opt (store_fm (u := (fun w0 => (GPort.mk w0.Text w0.Cycle c2.Fresh))) (k := 2) (e := 3) (m := (Int.toNat x2)) (fun _ => rfl) (by omega) (by simp) (fun _ => rfl)) (fun l0 _ => ?_)
    refine au ?_
    exact Sim.ret ⟨_, _, rfl, (keep_eq rfl rfl rfl (okH_flat (Flat.fm (fun _ => Flat.of rfl) _) (okH_cons rfl (okH_nil _)))), rfl⟩
  · refine au ?_
    refine Sim.go (keep_eq rfl rfl rfl (okH_flat (Flat.fm (fun _ => Flat.of rfl) _) (okH_cons rfl (okH_nil _)))) ?_
    exact au (.ret ⟨_, rfl, rfl⟩)
noncomputable def port_Blank (c0 : GConf) : Option ((List GPort)) :=
  (conf_Plain c0).bind fun r0 =>
  if r0 ≠ 0 then
    some ([] : List GPort)
  else
    if 0 ≤ c0.N ∧ c0.N ≤ lenMax then
      (port_Blank_0 (Int.toNat c0.N) (((Int.toNat c0.N) : Nat) : Int) c0 0 (List.replicate (Int.toNat c0.N) (GPort.mk ([] : List UInt8) 0 0))).bind fun r2 =>
      (sub? r2 0 (Int.toNat c0.N)).bind fun l2 =>
      some l2
    else none
theorem port_Blank_sim (c0 : GConf) : Sim (port_Blank c0) (Gv fun r q => q = (lav GPort.av r, [])) (LM.call n_port_Blank [GConf.av c0] []) := by
  unfold port_Blank
  refine sim_evR M XE rfl rfl fun S hS hw hw8 R hR => ?_
  refine au (cE hR (conf_Plain_sim _) fun r0 => ?_)
  refine au (.ite Iff.rfl (fun hc => ?_) fun hc => ?_)
  · exact au (.ret ⟨_, rfl, rfl⟩)
  · refine au ?_
    first | refine Sim.ite Iff.rfl (fun _ => ?_) (fun _ => Sim.no) | refine Sim.guard (fun _ => ?_)
    refine au ?_
    refine Sim.kl hS (rep_fm (f := GPort.cells) (GPort.mk ([] : List UInt8) 0 0) _ rfl _) ?_
    refine au ?_
    refine Sim.callL hR (port_Blank_0_sim (Int.toNat c0.N) (((Int.toNat c0.N) : Nat) : Int) c0 0 (List.replicate (Int.toNat c0.N) (GPort.mk ([] : List UInt8) 0 0)) _ (keep_eq rfl rfl rfl (okH_flat (Flat.fm (fun _ => Flat.of rfl) _) (okH_cons rfl (okH_nil _))))) ?_
    rintro r2 q rfl
    refine au ?_
    refine Sim.opt (elems_fm (g := GPort.av) (e := 3) (b := 0) (fun _ => rfl) (fun _ => rfl) (fun _ => rfl) (by decide) (by omega)) (fun l2 _ => ?_)
    exact au (.ret ⟨_, rfl, rfl⟩)
noncomputable def mem_lists_2 (s0 : List UInt8) : Option ((List UInt8)) :=
  (mem_cut s0 40).bind fun r0 =>
  some r0
theorem mem_lists_2_sim (s0 : List UInt8) : Sim (mem_lists_2 s0) (Gv fun r q => q = (.str r, [])) (LM.call n_mem_lists_2 [.str s0] []) := by
  unfold mem_lists_2
  refine sim_evR M XE rfl rfl fun S hS hw hw8 R hR => ?_
  refine au (cE hR (mem_cut_sim _ _) fun r0 => ?_)
  exact au (.ret ⟨_, rfl, rfl⟩)
noncomputable def hold_places (c0 : GConf) : Option Int :=
  (conf_Plain c0).bind fun r0 =>
  if r0 ≠ 0 then
    some 0
  else
    some (wr (c0.N * c0.D))
theorem hold_places_sim (c0 : GConf) : Sim (hold_places c0) (Gv fun r q => q = (iav r, [])) (LM.call n_hold_places [GConf.av c0] []) := by
  unfold hold_places
  refine sim_evR M XE rfl rfl fun S hS hw hw8 R hR => ?_
  simp only [hw]
  refine au (cE hR (conf_Plain_sim _) fun r0 => ?_)
  refine au (.ite Iff.rfl (fun hc => ?_) fun hc => ?_)
  · exact au (.ret ⟨_, rfl, rfl⟩)
  · exact au (.ret ⟨_, rfl, rfl⟩)
noncomputable def hold_Empty (c0 : GConf) : Option ((List (List UInt8))) :=
  (hold_places c0).bind fun r0 =>
  if 0 ≤ r0 ∧ r0 ≤ lenMax then
    (sub? (List.replicate (Int.toNat r0) ([] : List UInt8)) 0 (Int.toNat r0)).bind fun l0 =>
    some l0
  else none
theorem hold_Empty_sim (c0 : GConf) : Sim (hold_Empty c0) (Gv fun r q => q = (lav sav r, [])) (LM.call n_hold_Empty [GConf.av c0] []) := by
  unfold hold_Empty
  refine sim_evR M XE rfl rfl fun S hS hw hw8 R hR => ?_
  refine au (cE hR (hold_places_sim _) fun r0 => ?_)
  refine au ?_
  first | refine Sim.ite Iff.rfl (fun _ => ?_) (fun _ => Sim.no) | refine Sim.guard (fun _ => ?_)
  refine au ?_
  refine Sim.kl hS (rep_map (f := sav) ([] : List UInt8) _ rfl _) ?_
  refine au ?_
  refine Sim.opt (elems_map (f := sav) (b := 0) (fun _ => ⟨rfl, rfl⟩) (by omega)) (fun l0 _ => ?_)
  exact au (.ret ⟨_, rfl, rfl⟩)
noncomputable def mem_notes_0_step (x0 : List GEntry) (x2 : Int) (c2 : GConf) (out : List GEntry) (x3 : Int) : Option (((List GEntry) × Int) ⊕ ((List GEntry))) :=
  if x3 < x2 then
    (idx? x0 x3).bind fun z0 =>
    if z0.From < 0 then
      some (.inl (out, (wr (x3 + 1))))
    else
      if c2.N ≤ z0.From then
        some (.inl (out, (wr (x3 + 1))))
      else
        (ring_Put z0.At).bind fun r0 =>
        if List.length out + List.length [(GEntry.mk z0.From r0)] ≤ lenMax then
          some (.inl ((out ++ [(GEntry.mk z0.From r0)]), (wr (x3 + 1))))
        else none
  else
    some (.inr out)
noncomputable def mem_notes_0 (x0 : List GEntry) (x2 : Int) (c2 : GConf) (out : List GEntry) (x3 : Int) : Option ((List GEntry)) :=
  loopO (fun s : (List GEntry) × Int => mem_notes_0_step x0 x2 c2 s.1 s.2) (out, x3)
@[reducible] def mem_notes_0_st (x0 : List GEntry) (x2 : Int) (c2 : GConf) (out : List GEntry) (x3 : Int) (g0 : Gr) : PF.St := ⟨[(2, .ptr 102 0), (5, .lst g0 (List.map GEntry.av out)), (13, lav GEntry.av x0), (14, iav x2), (15, iav x3)], [(102, ⟨true, GConf.cells c2⟩)]⟩
def mem_notes_0_rel (x0 : List GEntry) (x2 : Int) (c2 : GConf) (r : ((List GEntry))) (q : Ex × PF.St) : Prop := (fun r (q : Ex × PF.St) => ∃ g0', q = ((.exit 0), ⟨[(5, .lst g0' (List.map GEntry.av r))], [(102, ⟨true, GConf.cells c2⟩)]⟩) ∧ Mg 2 g0') r q
def mem_notes_0_inv (x0 : List GEntry) (x2 : Int) (c2 : GConf) (v : (List GEntry) × Int) (e : PF.St) : Prop := ∃ g0, e = mem_notes_0_st x0 x2 c2 v.1 v.2 g0 ∧ Mg 2 g0
theorem mem_notes_0_sim (x0 : List GEntry) (x2 : Int) (c2 : GConf) (out : List GEntry) (x3 : Int) (g0 : Gr) (hg0 : Mg 2 g0) (s : PF.St) (hk : keep [2, 5, 13, 14, 15] [102] s = some (mem_notes_0_st x0 x2 c2 out x3 g0)) : Sim (mem_notes_0 x0 x2 c2 out x3) (Gv (mem_notes_0_rel x0 x2 c2)) (LM.loop ([2, 5, 13, 14, 15], [102], [5], B_mem_notes_0) s) := by
  refine sim_loop M XE (mem_notes_0_inv x0 x2 c2) (mem_notes_0_rel x0 x2 c2) ?_ _ _ _ hk ⟨g0, rfl, hg0⟩
  clear hk hg0
  rintro S hS hw hw8 R hR ⟨out, x3⟩ env hp ⟨g0, he, hg0⟩
  change (⟨env, hp⟩ : PF.St) = mem_notes_0_st x0 x2 c2 out x3 g0 at he
  cases he
  show Sim (mem_notes_0_step x0 x2 c2 out x3) _ _
  unfold mem_notes_0_step
  simp only [hw]
  refine au (.ite Iff.rfl (fun hc => ?_) fun hc => ?_)
  · refine au ?_
    refine Sim.ix (by simp) (fun z0 hz0 => ?_)
    refine au ?_
    refine Sim.go (idx_map _ hz0) ?_
    refine au (.ite Iff.rfl (fun hc2 => ?_) fun hc2 => ?_)
    · refine au ?_
      exact Sim.ret ⟨_, _, rfl, rfl, ⟨_, rfl, hg0⟩⟩
    · refine au (.ite Iff.rfl (fun hc3 => ?_) fun hc3 => ?_)
      · refine au ?_
        exact Sim.ret ⟨_, _, rfl, rfl, ⟨_, rfl, hg0⟩⟩
      · refine au (cE hR (ring_Put_sim _) fun r0 => ?_)
        refine au ?_
        refine Sim.kl hS (ys := List.map GEntry.av [(GEntry.mk z0.From r0)]) rfl ?_
        refine au ?_
        first | (refine Sim.goB (may_map (by intro _; rfl) hg0 _) ?_) | skip
        refine au ?_
        first | (refine Sim.goB (okE_map (by intro _; exact ⟨rfl, rfl, rfl⟩) _) ?_) | skip
        refine au ?_
        first | refine Sim.ite (by simp) (fun _ => ?_) (fun _ => Sim.no) | refine Sim.guard (fun _ => ?_)
        refine au ?_
        refine Sim.kl hS (ys := List.map GEntry.av (out ++ [(GEntry.mk z0.From r0)])) (by simp) ?_
        refine au ?_
        exact Sim.ret ⟨_, _, rfl, rfl, ⟨_, rfl, Mg.own⟩⟩
  · refine au ?_
    exact Sim.ret ⟨_, rfl, ⟨_, rfl, hg0⟩⟩
noncomputable def mem_notes (c0 : GConf) (l0 : List GEntry) : Option ((List GEntry)) :=
  if 0 ≤ (max 0 (wr ((List.length l0 : Int) - 64))) ∧ (max 0 (wr ((List.length l0 : Int) - 64))) ≤ ((List.length l0) : Nat) then
    (mem_notes_0 (List.drop (Int.toNat (max 0 (wr ((List.length l0 : Int) - 64)))) l0) (List.length (List.drop (Int.toNat (max 0 (wr ((List.length l0 : Int) - 64)))) l0) : Int) c0 ([] : List GEntry) 0).bind fun r2 =>
    some r2
  else none
theorem mem_notes_sim (c0 : GConf) (l0 : List GEntry) : Sim (mem_notes c0 l0) (Gv fun r q => q = (lav GEntry.av r, [])) (LM.call n_mem_notes [GConf.av c0, lav GEntry.av l0] []) := by
  unfold mem_notes
  refine sim_evR M XE rfl rfl fun S hS hw hw8 R hR => ?_
  simp only [hw]
  refine au ?_
  refine Sim.ki hS (m := (List.length l0 : Int)) (by simp) ?_
  refine au ?_
  first | (refine Sim.goB (headE_map (by intro _; rfl) _) ?_) | skip
  refine au ?_
  refine Sim.kn hS (m := (List.length l0)) (by simp) ?_
  refine au ?_
  first | refine Sim.ite Iff.rfl (fun _ => ?_) (fun _ => Sim.no) | refine Sim.guard (fun _ => ?_)
  refine au ?_
  refine Sim.kl hS (ys := List.map GEntry.av (List.drop (Int.toNat (max 0 (S.wr ((List.length l0 : Int) - 64)))) l0)) (by simp only [PF.cut, List.map_drop, List.map_take]) ?_
  refine au ?_
  refine Sim.ki hS (m := (List.length (List.drop (Int.toNat (max 0 (S.wr ((List.length l0 : Int) - 64)))) l0) : Int)) (by simp) ?_
  refine au ?_
  refine Sim.callL hR (mem_notes_0_sim (List.drop (Int.toNat (max 0 (S.wr ((List.length l0 : Int) - 64)))) l0) (List.length (List.drop (Int.toNat (max 0 (S.wr ((List.length l0 : Int) - 64)))) l0) : Int) c0 ([] : List GEntry) 0 .full Mg.full _ rfl) ?_
  rintro r2 q ⟨g2, rfl, hg2⟩
  exact au (.ret ⟨_, rfl, rfl⟩)
noncomputable def mem_numbers (L0 : GConf) (o0 : GMem) : Option GMem :=
  (ring_Put o0.Clock).bind fun r0 =>
  (ring_Put o0.Anchor).bind fun r2 =>
  (num_Clamp o0.Since 0 L0.Period).bind fun r3 =>
  (conf_Length L0).bind fun r4 =>
  (num_Clamp o0.Age 0 r4).bind fun r5 =>
  (num_Mod o0.Number L0.Mod).bind fun r6 =>
  (num_Clamp o0.Regular 0 2).bind fun r7 =>
  (diag_Clean o0.Diag).bind fun r8 =>
  some (GMem.mk r0 r2 r3 o0.Pipe r5 o0.Vec o0.Agreed r6 r7 o0.Members o0.Seen o0.Heard o0.Sent o0.Out o0.Line o0.Ports o0.Hold o0.Log r8)
theorem mem_numbers_sim (L0 : GConf) (o0 : GMem) : Sim (mem_numbers L0 o0) (Gv fun r q => q = (.tup [], [⟨true, GMem.cells r⟩])) (LM.call n_mem_numbers [GConf.av L0, .ptr 0 0] [⟨true, GMem.cells o0⟩]) := by
  unfold mem_numbers
  refine sim_evR M XE rfl rfl fun S hS hw hw8 R hR => ?_
  refine au (cE hR (ring_Put_sim _) fun r0 => ?_)
  refine au (cE hR (ring_Put_sim _) fun r2 => ?_)
  refine au (cE hR (num_Clamp_sim _ _ _) fun r3 => ?_)
  refine au (cE hR (conf_Length_sim _) fun r4 => ?_)
  refine au (cE hR (num_Clamp_sim _ _ _) fun r5 => ?_)
  refine au (cE hR (num_Mod_sim _ _) fun r6 => ?_)
  refine au (cE hR (num_Clamp_sim _ _ _) fun r7 => ?_)
  refine au (cE hR (diag_Clean_sim _) fun r8 => ?_)
  exact au (.ret ⟨_, rfl, rfl⟩)
noncomputable def mem_texts (L0 : GConf) (o0 : GMem) : Option GMem :=
  (pipe_Blank L0).bind fun r0 =>
  if List.length o0.Pipe + List.length r0 ≤ 9223372036854775807 then
    (conf_Length L0).bind fun r2 =>
    (mem_cut (o0.Pipe ++ r0) r2).bind fun r3 =>
    (mem_digits r3 53).bind fun r4 =>
    (conf_Bits L0).bind fun r5 =>
    (mem_row o0.Vec r5 53).bind fun r6 =>
    (conf_Bits L0).bind fun r7 =>
    (mem_row o0.Agreed r7 49).bind fun r8 =>
    (roster_Mark L0 o0.Members ([] : List Int)).bind fun r9 =>
    (roster_Mark L0 o0.Seen ([] : List Int)).bind fun r10 =>
    (gate_Mark o0.Heard (List.length L0.Table : Int) ([] : List Int)).bind fun r11 =>
    (gate_Mark o0.Sent (List.length L0.Table : Int) ([] : List Int)).bind fun r12 =>
    (mem_cut o0.Out 16).bind fun r13 =>
    (mem_cut o0.Line 16).bind fun r14 =>
    some (GMem.mk o0.Clock o0.Anchor o0.Since r4 o0.Age r6 r8 o0.Number o0.Regular r9 r10 r11 r12 r13 r14 o0.Ports o0.Hold o0.Log o0.Diag)
  else none
theorem mem_texts_sim (L0 : GConf) (o0 : GMem) : Sim (mem_texts L0 o0) (Gv fun r q => q = (.tup [], [⟨true, GMem.cells r⟩])) (LM.call n_mem_texts [GConf.av L0, .ptr 0 0] [⟨true, GMem.cells o0⟩]) := by
  unfold mem_texts
  refine sim_evR M XE rfl rfl fun S hS hw hw8 R hR => ?_
  refine au (cE hR (pipe_Blank_sim _) fun r0 => ?_)
  refine au ?_
  first | refine Sim.ite Iff.rfl (fun _ => ?_) (fun _ => Sim.no) | refine Sim.guard (fun _ => ?_)
  refine au (cE hR (conf_Length_sim _) fun r2 => ?_)
  refine au (cE hR (mem_cut_sim _ _) fun r3 => ?_)
  refine au (cE hR (mem_digits_sim _ _) fun r4 => ?_)
  refine au (cE hR (conf_Bits_sim _) fun r5 => ?_)
  refine au (cE hR (mem_row_sim _ _ _) fun r6 => ?_)
  refine au (cE hR (conf_Bits_sim _) fun r7 => ?_)
  refine au (cE hR (mem_row_sim _ _ _) fun r8 => ?_)
  refine au (cE hR (roster_Mark_sim _ _ _) fun r9 => ?_)
  refine au (cE hR (roster_Mark_sim _ _ _) fun r10 => ?_)
  refine au ?_
  refine Sim.ki hS (m := (List.length L0.Table : Int)) (by simp) ?_
  refine au (cE hR (gate_Mark_sim _ _ _) fun r11 => ?_)
  refine au ?_
  refine Sim.ki hS (m := (List.length L0.Table : Int)) (by simp) ?_
  refine au (cE hR (gate_Mark_sim _ _ _) fun r12 => ?_)
  refine au (cE hR (mem_cut_sim _ _) fun r13 => ?_)
  refine au (cE hR (mem_cut_sim _ _) fun r14 => ?_)
  exact au (.ret ⟨_, rfl, rfl⟩)
noncomputable def mem_lists_1 (p0 : GPort) (o0 : GConf) : Option (GPort × GConf) :=
  (mem_cut p0.Text 16).bind fun r0 =>
  (num_Mod p0.Cycle o0.Mod).bind fun r2 =>
  (num_Clamp p0.Age 0 o0.Fresh).bind fun r3 =>
  some ((GPort.mk r0 r2 r3), o0)
theorem mem_lists_1_sim (p0 : GPort) (o0 : GConf) : Sim (mem_lists_1 p0 o0) (Gv fun r q => q = (GPort.av r.1, [⟨true, GConf.cells r.2⟩])) (LM.call n_mem_lists_1 [GPort.av p0, .ptr 0 0] [⟨true, GConf.cells o0⟩]) := by
  unfold mem_lists_1
  refine sim_evR M XE rfl rfl fun S hS hw hw8 R hR => ?_
  refine au (cE hR (mem_cut_sim _ _) fun r0 => ?_)
  refine au (cE hR (num_Mod_sim _ _) fun r2 => ?_)
  refine au (cE hR (num_Clamp_sim _ _ _) fun r3 => ?_)
  exact au (.ret ⟨_, rfl, rfl⟩)
noncomputable def mem_each_api_Port_0_step (len : Nat) (x0 : List GPort) (x2 : Int) (x3 : Int) (o2 : GConf) (x4 : List GPort) : Option ((Int × GConf × (List GPort)) ⊕ (GConf × (List GPort))) :=
  if x3 < x2 then
    (idx? x0 x3).bind fun z0 =>
    (mem_lists_1 z0 o2).bind fun r2 =>
    if 0 ≤ x3 ∧ x3 < ((len : Nat) : Int) then
      (mod? x4 (Int.toNat x3) (fun _ => r2.1)).bind fun l2 =>
      some (.inl ((wr (x3 + 1)), r2.2, l2))
    else none
  else
    some (.inr (o2, x4))
noncomputable def mem_each_api_Port_0 (len : Nat) (x0 : List GPort) (x2 : Int) (x3 : Int) (o2 : GConf) (x4 : List GPort) : Option (GConf × (List GPort)) :=
  loopO (fun s : Int × GConf × (List GPort) => mem_each_api_Port_0_step len x0 x2 s.1 s.2.1 s.2.2) (x3, o2, x4)
@[reducible] def mem_each_api_Port_0_st (len : Nat) (x0 : List GPort) (x2 : Int) (x3 : Int) (o2 : GConf) (x4 : List GPort) : PF.St := ⟨[(2, .fn n_mem_lists_1 [.ptr 0 0]), (9, .arr 1720 0 len 3 true), (19, lav GPort.av x0), (20, iav x2), (21, iav x3)], [(0, ⟨true, GConf.cells o2⟩), (1720, ⟨true, (List.flatMap GPort.cells x4)⟩)]⟩
def mem_each_api_Port_0_rel (len : Nat) (x0 : List GPort) (x2 : Int) (r : (GConf × (List GPort))) (q : Ex × PF.St) : Prop := (fun r (q : Ex × PF.St) => q = ((.exit 0), ⟨[(9, .arr 1720 0 len 3 true)], [(0, ⟨true, GConf.cells r.1⟩), (1720, ⟨true, (List.flatMap GPort.cells r.2)⟩)]⟩)) r q
def mem_each_api_Port_0_inv (len : Nat) (x0 : List GPort) (x2 : Int) (v : Int × GConf × (List GPort)) (e : PF.St) : Prop := e = mem_each_api_Port_0_st len x0 x2 v.1 v.2.1 v.2.2
theorem mem_each_api_Port_0_sim (len : Nat) (x0 : List GPort) (x2 : Int) (x3 : Int) (o2 : GConf) (x4 : List GPort) (s : PF.St) (hk : keep [2, 9, 19, 20, 21] [1720, 1721, 1722, 1723] s = some (mem_each_api_Port_0_st len x0 x2 x3 o2 x4)) : Sim (mem_each_api_Port_0 len x0 x2 x3 o2 x4) (Gv (mem_each_api_Port_0_rel len x0 x2)) (LM.loop ([2, 9, 19, 20, 21], [1720, 1721, 1722, 1723], [9], B_mem_each_api_Port_0) s) := by
  refine sim_loop M XE (mem_each_api_Port_0_inv len x0 x2) (mem_each_api_Port_0_rel len x0 x2) ?_ _ _ _ hk rfl
  clear hk
  rintro S hS hw hw8 R hR ⟨x3, o2, x4⟩ env hp he
  change (⟨env, hp⟩ : PF.St) = mem_each_api_Port_0_st len x0 x2 x3 o2 x4 at he
  cases he
  show Sim (mem_each_api_Port_0_step len x0 x2 x3 o2 x4) _ _
  unfold mem_each_api_Port_0_step
  simp only [hw]
  refine au (.ite Iff.rfl (fun hc2 => ?_) fun hc2 => ?_)
  · refine au ?_
    refine Sim.ix (by simp) (fun z0 hz0 => ?_)
    refine au ?_
    refine Sim.go (idx_map _ hz0) ?_
    refine au (cE hR (mem_lists_1_sim _ _) fun r2 => ?_)
    refine au ?_
    first | refine Sim.ite Iff.rfl (fun _ => ?_) (fun _ => Sim.no) | refine Sim.guard (fun _ => ?_)
    refine au ?_
    refine Sim.opt (store_fm (u := (fun _ => r2.1)) (k := 0) (e := 3) (m := (Int.toNat x3)) (fun _ => rfl) (by omega) (by simp) (fun _ => rfl)) (fun l2 _ => ?_)
    refine au ?_
    exact Sim.ret ⟨_, _, rfl, (keep_eq rfl rfl rfl (okH_cons rfl (okH_flat (Flat.fm (fun _ => Flat.of rfl) _) (okH_nil _)))), rfl⟩
  · refine au ?_
    refine Sim.go (keep_eq rfl rfl rfl (okH_cons rfl (okH_flat (Flat.fm (fun _ => Flat.of rfl) _) (okH_nil _)))) ?_
    exact au (.ret ⟨_, rfl, rfl⟩)
noncomputable def mem_each_api_Port (l0 : List GPort) (n0 : Int) (other : List GPort) (o0 : GConf) : Option ((List GPort) × GConf) :=
  if (List.length l0 : Int) ≠ n0 then
    some (other, o0)
  else
    (slices_Clone_api_Port_api_Port l0).bind fun r0 =>
    (mem_each_api_Port_0 (List.length r0) l0 (List.length l0 : Int) 0 o0 r0).bind fun r3 =>
    (sub? r3.2 0 (List.length r0)).bind fun l3 =>
    some (l3, r3.1)
theorem mem_each_api_Port_sim (l0 : List GPort) (n0 : Int) (other : List GPort) (o0 : GConf) : Sim (mem_each_api_Port l0 n0 other o0) (Gv fun r q => q = (lav GPort.av r.1, [⟨true, GConf.cells r.2⟩])) (LM.call n_mem_each_api_Port [lav GPort.av l0, iav n0, .fn n_mem_lists_1 [.ptr 0 0], lav GPort.av other] [⟨true, GConf.cells o0⟩]) := by
  unfold mem_each_api_Port
  refine sim_evR M XE rfl rfl fun S hS hw hw8 R hR => ?_
  refine au ?_
  refine Sim.ki hS (m := (List.length l0 : Int)) (by simp) ?_
  refine au (.ite Iff.rfl (fun hc => ?_) fun hc => ?_)
  · exact au (.ret ⟨_, rfl, rfl⟩)
  · refine au (cE hR (slices_Clone_api_Port_api_Port_sim l0 .no) fun r0 => ?_)
    refine au ?_
    refine Sim.kfl (Flat.ren (Flat.fm (fun _ => Flat.of rfl) _) _) ?_
    refine au ?_
    refine Sim.ki hS (m := (List.length l0 : Int)) (by simp) ?_
    refine au ?_
    refine Sim.callL hR (mem_each_api_Port_0_sim (List.length r0) l0 (List.length l0 : Int) 0 o0 r0 _ (keep_eq rfl rfl rfl (okH_cons rfl (okH_flat (Flat.fm (fun _ => Flat.of rfl) _) (okH_nil _))))) ?_
    rintro r3 q rfl
    refine au ?_
    refine Sim.opt (elems_fm (g := GPort.av) (e := 3) (b := 0) (fun _ => rfl) (fun _ => rfl) (fun _ => rfl) (by decide) (by omega)) (fun l3 _ => ?_)
    exact au (.ret ⟨_, rfl, rfl⟩)
noncomputable def mem_each_string_0_step (len : Nat) (x0 : List (List UInt8)) (x2 : Int) (x3 : Int) (x4 : List (List UInt8)) : Option ((Int × (List (List UInt8))) ⊕ ((List (List UInt8)))) :=
  if x3 < x2 then
    (idx? x0 x3).bind fun z0 =>
    (mem_lists_2 z0).bind fun r2 =>
    if 0 ≤ x3 ∧ x3 < ((len : Nat) : Int) then
      (mod? x4 (Int.toNat x3) (fun _ => r2)).bind fun l2 =>
      some (.inl ((wr (x3 + 1)), l2))
    else none
  else
    some (.inr x4)
noncomputable def mem_each_string_0 (len : Nat) (x0 : List (List UInt8)) (x2 : Int) (x3 : Int) (x4 : List (List UInt8)) : Option ((List (List UInt8))) :=
  loopO (fun s : Int × (List (List UInt8)) => mem_each_string_0_step len x0 x2 s.1 s.2) (x3, x4)
@[reducible] def mem_each_string_0_st (len : Nat) (x0 : List (List UInt8)) (x2 : Int) (x3 : Int) (x4 : List (List UInt8)) : PF.St := ⟨[(2, .fn n_mem_lists_2 []), (9, .arr 1720 0 len 1 false), (19, lav sav x0), (20, iav x2), (21, iav x3)], [(1720, ⟨true, (List.map sav x4)⟩)]⟩
def mem_each_string_0_rel (len : Nat) (x0 : List (List UInt8)) (x2 : Int) (r : ((List (List UInt8)))) (q : Ex × PF.St) : Prop := (fun r (q : Ex × PF.St) => q = ((.exit 0), ⟨[(9, .arr 1720 0 len 1 false)], [(1720, ⟨true, (List.map sav r)⟩)]⟩)) r q
def mem_each_string_0_inv (len : Nat) (x0 : List (List UInt8)) (x2 : Int) (v : Int × (List (List UInt8))) (e : PF.St) : Prop := e = mem_each_string_0_st len x0 x2 v.1 v.2
theorem mem_each_string_0_sim (len : Nat) (x0 : List (List UInt8)) (x2 : Int) (x3 : Int) (x4 : List (List UInt8)) (s : PF.St) (hk : keep [2, 9, 19, 20, 21] [1720, 1721, 1722, 1723] s = some (mem_each_string_0_st len x0 x2 x3 x4)) : Sim (mem_each_string_0 len x0 x2 x3 x4) (Gv (mem_each_string_0_rel len x0 x2)) (LM.loop ([2, 9, 19, 20, 21], [1720, 1721, 1722, 1723], [9], B_mem_each_string_0) s) := by
  refine sim_loop M XE (mem_each_string_0_inv len x0 x2) (mem_each_string_0_rel len x0 x2) ?_ _ _ _ hk rfl
  clear hk
  rintro S hS hw hw8 R hR ⟨x3, x4⟩ env hp he
  change (⟨env, hp⟩ : PF.St) = mem_each_string_0_st len x0 x2 x3 x4 at he
  cases he
  show Sim (mem_each_string_0_step len x0 x2 x3 x4) _ _
  unfold mem_each_string_0_step
  simp only [hw]
  refine au (.ite Iff.rfl (fun hc2 => ?_) fun hc2 => ?_)
  · refine au ?_
    refine Sim.ix (by simp) (fun z0 hz0 => ?_)
    refine au ?_
    refine Sim.go (idx_map _ hz0) ?_
    refine au (cE hR (mem_lists_2_sim _) fun r2 => ?_)
    refine au ?_
    first | refine Sim.ite Iff.rfl (fun _ => ?_) (fun _ => Sim.no) | refine Sim.guard (fun _ => ?_)
    refine au ?_
    refine Sim.opt (store_map (u := (fun _ => r2)) (m := (Int.toNat x3)) (by omega) (fun _ => rfl)) (fun l2 _ => ?_)
    refine au ?_
    exact Sim.ret ⟨_, _, rfl, (keep_eq rfl rfl rfl (okH_flat (Flat.map (fun _ => rfl) _) (okH_nil _))), rfl⟩
  · refine au ?_
    refine Sim.go (keep_eq rfl rfl rfl (okH_flat (Flat.map (fun _ => rfl) _) (okH_nil _))) ?_
    exact au (.ret ⟨_, rfl, rfl⟩)
noncomputable def mem_each_string (l0 : List (List UInt8)) (n0 : Int) (other : List (List UInt8)) : Option ((List (List UInt8))) :=
  if (List.length l0 : Int) ≠ n0 then
    some other
  else
    (slices_Clone_string_string l0).bind fun r0 =>
    (mem_each_string_0 (List.length r0) l0 (List.length l0 : Int) 0 r0).bind fun r3 =>
    (sub? r3 0 (List.length r0)).bind fun l3 =>
    some l3
theorem mem_each_string_sim (l0 : List (List UInt8)) (n0 : Int) (other : List (List UInt8)) : Sim (mem_each_string l0 n0 other) (Gv fun r q => q = (lav sav r, [])) (LM.call n_mem_each_string [lav sav l0, iav n0, .fn n_mem_lists_2 [], lav sav other] []) := by
  unfold mem_each_string
  refine sim_evR M XE rfl rfl fun S hS hw hw8 R hR => ?_
  refine au ?_
  refine Sim.ki hS (m := (List.length l0 : Int)) (by simp) ?_
  refine au (.ite Iff.rfl (fun hc => ?_) fun hc => ?_)
  · exact au (.ret ⟨_, rfl, rfl⟩)
  · refine au (cE hR (slices_Clone_string_string_sim l0 .no) fun r0 => ?_)
    refine au ?_
    refine Sim.kfl (Flat.ren (Flat.map (fun _ => rfl) _) _) ?_
    refine au ?_
    refine Sim.ki hS (m := (List.length l0 : Int)) (by simp) ?_
    refine au ?_
    refine Sim.callL hR (mem_each_string_0_sim (List.length r0) l0 (List.length l0 : Int) 0 r0 _ (keep_eq rfl rfl rfl (okH_flat (Flat.map (fun _ => rfl) _) (okH_nil _)))) ?_
    rintro r3 q rfl
    refine au ?_
    refine Sim.opt (elems_map (f := sav) (b := 0) (fun _ => ⟨rfl, rfl⟩) (by omega)) (fun l3 _ => ?_)
    exact au (.ret ⟨_, rfl, rfl⟩)
noncomputable def mem_lists (c0 : GConf) (o0 : GMem) : Option GMem :=
  (port_Blank c0).bind fun r0 =>
  (mem_each_api_Port o0.Ports c0.N r0 c0).bind fun r2 =>
  (hold_Empty r2.2).bind fun r3 =>
  (mem_each_string o0.Hold (wr (r2.2.N * r2.2.D)) r3).bind fun r4 =>
  (mem_notes r2.2 o0.Log).bind fun r5 =>
  some (GMem.mk o0.Clock o0.Anchor o0.Since o0.Pipe o0.Age o0.Vec o0.Agreed o0.Number o0.Regular o0.Members o0.Seen o0.Heard o0.Sent o0.Out o0.Line r2.1 r4 r5 o0.Diag)
theorem mem_lists_sim (c0 : GConf) (o0 : GMem) : Sim (mem_lists c0 o0) (Gv fun r q => q = (.tup [], [⟨true, GMem.cells r⟩])) (LM.call n_mem_lists [GConf.av c0, .ptr 0 0] [⟨true, GMem.cells o0⟩]) := by
  unfold mem_lists
  refine sim_evR M XE rfl rfl fun S hS hw hw8 R hR => ?_
  simp only [hw]
  refine au (cE hR (port_Blank_sim _) fun r0 => ?_)
  refine au (cE hR (mem_each_api_Port_sim _ _ _ _) fun r2 => ?_)
  refine au (cE hR (hold_Empty_sim _) fun r3 => ?_)
  refine au (cE hR (mem_each_string_sim _ _ _) fun r4 => ?_)
  refine au (cE hR (mem_notes_sim _ _) fun r5 => ?_)
  exact au (.ret ⟨_, rfl, rfl⟩)
noncomputable def mem_Mend (c0 : GConf) (m0 : GMem) : Option GMem :=
  (conf_Plain c0).bind fun r0 =>
  if r0 ≠ 0 then
    some (GMem.mk 0 0 0 ([] : List UInt8) 0 ([] : List UInt8) ([] : List UInt8) 0 0 ([] : List UInt8) ([] : List UInt8) ([] : List UInt8) ([] : List UInt8) ([] : List UInt8) ([] : List UInt8) ([] : List GPort) ([] : List (List UInt8)) ([] : List GEntry) (Ar6.mk 0 0 0 0 0 0))
  else
    (mem_numbers c0 m0).bind fun r2 =>
    (mem_texts c0 r2).bind fun r3 =>
    (mem_lists c0 r3).bind fun r4 =>
    some r4
theorem mem_Mend_sim (c0 : GConf) (m0 : GMem) : Sim (mem_Mend c0 m0) (Gv fun r q => q = (GMem.av r, [])) (LM.call n_mem_Mend [GConf.av c0, GMem.av m0] []) := by
  unfold mem_Mend
  refine sim_evR M XE rfl rfl fun S hS hw hw8 R hR => ?_
  refine au (cE hR (conf_Plain_sim _) fun r0 => ?_)
  refine au (.ite Iff.rfl (fun hc => ?_) fun hc => ?_)
  · exact au (.ret ⟨_, rfl, rfl⟩)
  · refine au (cE hR (mem_numbers_sim _ _) fun r2 => ?_)
    refine au (cE hR (mem_texts_sim _ _) fun r3 => ?_)
    refine au (cE hR (mem_lists_sim _ _) fun r4 => ?_)
    exact au (.ret ⟨_, rfl, rfl⟩)
noncomputable def num_fits (width : Int) : Option Bool :=
  if 1 ≤ width then
    some (decide (width ≤ 4))
  else
    some false
theorem num_fits_sim (width : Int) : Sim (num_fits width) (Gv fun r q => q = (.bool r, [])) (LM.call n_num_fits [iav width] []) := by
  unfold num_fits
  refine sim_evR M XE rfl rfl fun S hS hw hw8 R hR => ?_
  refine au (.ite Iff.rfl (fun hc => ?_) fun hc => ?_)
  · exact au (.ret ⟨_, rfl, rfl⟩)
  · exact au (.ret ⟨_, rfl, rfl⟩)
noncomputable def num_Put_0_step (n2 : Int) (len : Nat) (x0 : Int) (x2 : Int) (x3 : List Int) : Option ((Int × (List Int)) ⊕ ((List Int))) :=
  if x2 < x0 then
    if (wr (8 * x2)) < 0 then none else
    if 0 ≤ x2 ∧ x2 < ((len : Nat) : Int) then
      (mod? x3 (Int.toNat x2) (fun _ => (w8 (shrI .i64 n2 (wr (8 * x2)))))).bind fun l0 =>
      some (.inl ((wr (x2 + 1)), l0))
    else none
  else
    some (.inr x3)
noncomputable def num_Put_0 (n2 : Int) (len : Nat) (x0 : Int) (x2 : Int) (x3 : List Int) : Option ((List Int)) :=
  loopO (fun s : Int × (List Int) => num_Put_0_step n2 len x0 s.1 s.2) (x2, x3)
@[reducible] def num_Put_0_st (n2 : Int) (len : Nat) (x0 : Int) (x2 : Int) (x3 : List Int) : PF.St := ⟨[(0, iav n2), (6, .arr 121 0 len 1 false), (22, iav x0), (23, iav x2)], [(121, ⟨true, (List.map u8av x3)⟩)]⟩
def num_Put_0_rel (n2 : Int) (len : Nat) (x0 : Int) (r : ((List Int))) (q : Ex × PF.St) : Prop := (fun r (q : Ex × PF.St) => q = ((.exit 0), ⟨[(6, .arr 121 0 len 1 false)], [(121, ⟨true, (List.map u8av r)⟩)]⟩)) r q
def num_Put_0_inv (n2 : Int) (len : Nat) (x0 : Int) (v : Int × (List Int)) (e : PF.St) : Prop := e = num_Put_0_st n2 len x0 v.1 v.2
theorem num_Put_0_sim (n2 : Int) (len : Nat) (x0 : Int) (x2 : Int) (x3 : List Int) (s : PF.St) (hk : keep [0, 6, 22, 23] [121] s = some (num_Put_0_st n2 len x0 x2 x3)) : Sim (num_Put_0 n2 len x0 x2 x3) (Gv (num_Put_0_rel n2 len x0)) (LM.loop ([0, 6, 22, 23], [121], [6], B_num_Put_0) s) := by
  refine sim_loop M XE (num_Put_0_inv n2 len x0) (num_Put_0_rel n2 len x0) ?_ _ _ _ hk rfl
  clear hk
  rintro S hS hw hw8 R hR ⟨x2, x3⟩ env hp he
  change (⟨env, hp⟩ : PF.St) = num_Put_0_st n2 len x0 x2 x3 at he
  cases he
  show Sim (num_Put_0_step n2 len x0 x2 x3) _ _
  unfold num_Put_0_step
  simp only [hw, hw8]
  refine au (.ite Iff.rfl (fun hc5 => ?_) fun hc5 => ?_)
  · refine au ?_
    refine Sim.ite Iff.rfl (fun _ => Sim.no) (fun hc6 => ?_)
    refine au ?_
    first | refine Sim.ite Iff.rfl (fun _ => ?_) (fun _ => Sim.no) | refine Sim.guard (fun _ => ?_)
    refine au ?_
    refine Sim.opt (store_map (u := (fun _ => (S.w8 (shrI .i64 n2 (S.wr (8 * x2)))))) (m := (Int.toNat x2)) (by omega) (fun _ => rfl)) (fun l0 _ => ?_)
    refine au ?_
    exact Sim.ret ⟨_, _, rfl, (keep_eq rfl rfl rfl (okH_flat (Flat.map (fun _ => rfl) _) (okH_nil _))), rfl⟩
  · refine au ?_
    refine Sim.go (keep_eq rfl rfl rfl (okH_flat (Flat.map (fun _ => rfl) _) (okH_nil _))) ?_
    exact au (.ret ⟨_, rfl, rfl⟩)
noncomputable def num_Put (n0 : Int) (width : Int) : Option ((List UInt8) × Int) :=
  (num_fits width).bind fun r0 =>
  if (!r0) = true then
    some (([] : List UInt8), 2)
  else
    if n0 < 0 then
      some (([] : List UInt8), 6)
    else
      if (wr (8 * width)) < 0 then none else
      if (shrI .i64 n0 (wr (8 * width))) ≠ 0 then
        some (([] : List UInt8), 6)
      else
        if 0 ≤ width ∧ width ≤ lenMax then
          (num_Put_0 n0 (Int.toNat width) width 0 (List.replicate (Int.toNat width) 0)).bind fun r2 =>
          (sub? r2 0 (Int.toNat width)).bind fun y0 =>
          some ((bytesOf y0), 0)
        else none
theorem num_Put_sim (n0 : Int) (width : Int) : Sim (num_Put n0 width) (Gv fun r q => q = (.tup [.str r.1, iav r.2], [])) (LM.call n_num_Put [iav n0, iav width] []) := by
  unfold num_Put
  refine sim_evR M XE rfl rfl fun S hS hw hw8 R hR => ?_
  simp only [hw]
  refine au (cE hR (num_fits_sim _) fun r0 => ?_)
  refine au (.iteB (fun hc => ?_) fun hc => ?_)
  · exact au (.ret ⟨_, rfl, rfl⟩)
  · refine au (.ite Iff.rfl (fun hc2 => ?_) fun hc2 => ?_)
    · exact au (.ret ⟨_, rfl, rfl⟩)
    · refine au ?_
      refine Sim.ite Iff.rfl (fun _ => Sim.no) (fun hc3 => ?_)
      refine au (.ite Iff.rfl (fun hc4 => ?_) fun hc4 => ?_)
      · exact au (.ret ⟨_, rfl, rfl⟩)
      · refine au ?_
        first | refine Sim.ite Iff.rfl (fun _ => ?_) (fun _ => Sim.no) | refine Sim.guard (fun _ => ?_)
        refine au ?_
        refine Sim.kl hS (rep_map (f := u8av) 0 _ rfl _) ?_
        refine au ?_
        refine Sim.callL hR (num_Put_0_sim n0 (Int.toNat width) width 0 (List.replicate (Int.toNat width) 0) _ (keep_eq rfl rfl rfl (okH_flat (Flat.map (fun _ => rfl) _) (okH_nil _)))) ?_
        rintro r2 q rfl
        refine au ?_
        refine Sim.sub (f := u8av) rfl (fun y0 hy0 => ?_)
        refine au ?_
        refine Sim.go (by rw [hy0]; exact bytes_mapM _) ?_
        exact au (.ret ⟨_, rfl, rfl⟩)
noncomputable def image_writer_number_0_step (width2 : Int) (x0 : List Int) (x2 : Int) (x3 : Int) (o2 : Gimage_memory) : Option ((Int × Gimage_memory) ⊕ Gimage_memory) :=
  if x3 < x2 then
    (idx? x0 x3).bind fun z0 =>
    (num_Put z0 width2).bind fun r0 =>
    if List.length o2.f_writer.f_out + List.length (intsOf r0.1) ≤ lenMax then
      some (.inl ((wr (x3 + 1)), (Gimage_memory.mk (Gimage_writer.mk (o2.f_writer.f_out ++ (intsOf r0.1))))))
    else none
  else
    some (.inr o2)
noncomputable def image_writer_number_0 (width2 : Int) (x0 : List Int) (x2 : Int) (x3 : Int) (o2 : Gimage_memory) : Option Gimage_memory :=
  loopO (fun s : Int × Gimage_memory => image_writer_number_0_step width2 x0 x2 s.1 s.2) (x3, o2)
@[reducible] def image_writer_number_0_st (width2 : Int) (x0 : List Int) (x2 : Int) (x3 : Int) (o2 : Gimage_memory) (g3 : Gr) (g4 : Gr) : PF.St := ⟨[(0, .ptr 0 0), (1, iav width2), (10, .lst g3 (List.map iav x0)), (11, iav x2), (12, iav x3)], [(0, ⟨true, [.lst g4 (List.map u8av o2.f_writer.f_out)]⟩)]⟩
def image_writer_number_0_rel (width2 : Int) (x0 : List Int) (x2 : Int) (r : Gimage_memory) (q : Ex × PF.St) : Prop := (fun r (q : Ex × PF.St) => ∃ g0', q = ((.exit 0), ⟨[], [(0, ⟨true, [.lst g0' (List.map u8av r.f_writer.f_out)]⟩)]⟩) ∧ Mg 1 g0') r q
def image_writer_number_0_inv (width2 : Int) (x0 : List Int) (x2 : Int) (v : Int × Gimage_memory) (e : PF.St) : Prop := ∃ g3, ∃ g4, e = image_writer_number_0_st width2 x0 x2 v.1 v.2 g3 g4 ∧ Mg 1 g4
theorem image_writer_number_0_sim (width2 : Int) (x0 : List Int) (x2 : Int) (x3 : Int) (o2 : Gimage_memory) (g3 : Gr) (g4 : Gr) (hg4 : Mg 1 g4) (s : PF.St) (hk : keep [0, 1, 10, 11, 12] [] s = some (image_writer_number_0_st width2 x0 x2 x3 o2 g3 g4)) : Sim (image_writer_number_0 width2 x0 x2 x3 o2) (Gv (image_writer_number_0_rel width2 x0 x2)) (LM.loop ([0, 1, 10, 11, 12], [], [], B_image_writer_number_0) s) := by
  refine sim_loop M XE (image_writer_number_0_inv width2 x0 x2) (image_writer_number_0_rel width2 x0 x2) ?_ _ _ _ hk ⟨g3, g4, rfl, hg4⟩
  clear hk hg4
  rintro S hS hw hw8 R hR ⟨x3, o2⟩ env hp ⟨g3, g4, he, hg4⟩
  change (⟨env, hp⟩ : PF.St) = image_writer_number_0_st width2 x0 x2 x3 o2 g3 g4 at he
  cases he
  show Sim (image_writer_number_0_step width2 x0 x2 x3 o2) _ _
  unfold image_writer_number_0_step
  simp only [hw]
  refine au (.ite Iff.rfl (fun hc => ?_) fun hc => ?_)
  · refine au ?_
    refine Sim.ix (by simp) (fun z0 hz0 => ?_)
    refine au ?_
    refine Sim.go (idx_map _ hz0) ?_
    refine au (cE hR (num_Put_sim _ _) fun r0 => ?_)
    refine au ?_
    rw [byte_map r0.1]
    refine au ?_
    first | (refine Sim.goB (may_map (by intro _; rfl) hg4 _) ?_) | skip
    refine au ?_
    first | (refine Sim.goB (okE_map (by intro _; exact ⟨rfl, rfl, rfl⟩) _) ?_) | skip
    refine au ?_
    first | refine Sim.ite (by simp) (fun _ => ?_) (fun _ => Sim.no) | refine Sim.guard (fun _ => ?_)
    refine au ?_
    refine Sim.kl hS (ys := List.map u8av (o2.f_writer.f_out ++ (intsOf r0.1))) (by simp) ?_
    refine au ?_
    exact Sim.ret ⟨_, _, rfl, rfl, ⟨_, _, rfl, Mg.own⟩⟩
  · refine au ?_
    exact Sim.ret ⟨_, rfl, ⟨_, rfl, hg4⟩⟩
noncomputable def image_writer_number (width : Int) (all : List Int) (o0 : Gimage_memory) : Option Gimage_memory :=
  (image_writer_number_0 width all (List.length all : Int) 0 o0).bind fun r2 =>
  some r2
theorem image_writer_number_sim (width : Int) (all : List Int) (o0 : Gimage_memory) (g0 : Gr) (hg0 : Mg 1 g0) (g2 : Gr) (hg2 : Mg 1 g2) : Sim (image_writer_number width all o0) (Gv fun r q => ∃ g0, q = (.tup [], [⟨true, [.lst g0 (List.map u8av r.f_writer.f_out)]⟩]) ∧ Mg 1 g0) (LM.call n_image_writer_number [.ptr 0 0, iav width, .lst g0 (List.map iav all)] [⟨true, [.lst g2 (List.map u8av o0.f_writer.f_out)]⟩]) := by
  unfold image_writer_number
  refine sim_evR M XE rfl rfl fun S hS hw hw8 R hR => ?_
  refine au ?_
  refine Sim.ki hS (m := (List.length all : Int)) (by simp) ?_
  refine au ?_
  refine Sim.callL hR (image_writer_number_0_sim width all (List.length all : Int) 0 o0 (Gr.cp g0) g2 hg2 _ rfl) ?_
  rintro r2 q ⟨g5, rfl, hg5⟩
  refine au ?_
  exact Sim.ret ⟨_, rfl, ⟨_, rfl, hg5⟩⟩
noncomputable def image_writer_raw_0_step (x0 : List (List UInt8)) (x2 : Int) (x3 : Int) (o2 : Gimage_memory) : Option ((Int × Gimage_memory) ⊕ Gimage_memory) :=
  if x3 < x2 then
    (idx? x0 x3).bind fun z0 =>
    if List.length o2.f_writer.f_out + List.length (intsOf z0) ≤ lenMax then
      some (.inl ((wr (x3 + 1)), (Gimage_memory.mk (Gimage_writer.mk (o2.f_writer.f_out ++ (intsOf z0))))))
    else none
  else
    some (.inr o2)
noncomputable def image_writer_raw_0 (x0 : List (List UInt8)) (x2 : Int) (x3 : Int) (o2 : Gimage_memory) : Option Gimage_memory :=
  loopO (fun s : Int × Gimage_memory => image_writer_raw_0_step x0 x2 s.1 s.2) (x3, o2)
@[reducible] def image_writer_raw_0_st (x0 : List (List UInt8)) (x2 : Int) (x3 : Int) (o2 : Gimage_memory) (g3 : Gr) (g4 : Gr) : PF.St := ⟨[(0, .ptr 0 0), (6, .lst g3 (List.map sav x0)), (7, iav x2), (8, iav x3)], [(0, ⟨true, [.lst g4 (List.map u8av o2.f_writer.f_out)]⟩)]⟩
def image_writer_raw_0_rel (x0 : List (List UInt8)) (x2 : Int) (r : Gimage_memory) (q : Ex × PF.St) : Prop := (fun r (q : Ex × PF.St) => ∃ g0', q = ((.exit 0), ⟨[], [(0, ⟨true, [.lst g0' (List.map u8av r.f_writer.f_out)]⟩)]⟩) ∧ Mg 1 g0') r q
def image_writer_raw_0_inv (x0 : List (List UInt8)) (x2 : Int) (v : Int × Gimage_memory) (e : PF.St) : Prop := ∃ g3, ∃ g4, e = image_writer_raw_0_st x0 x2 v.1 v.2 g3 g4 ∧ Mg 1 g4
theorem image_writer_raw_0_sim (x0 : List (List UInt8)) (x2 : Int) (x3 : Int) (o2 : Gimage_memory) (g3 : Gr) (g4 : Gr) (hg4 : Mg 1 g4) (s : PF.St) (hk : keep [0, 6, 7, 8] [] s = some (image_writer_raw_0_st x0 x2 x3 o2 g3 g4)) : Sim (image_writer_raw_0 x0 x2 x3 o2) (Gv (image_writer_raw_0_rel x0 x2)) (LM.loop ([0, 6, 7, 8], [], [], B_image_writer_raw_0) s) := by
  refine sim_loop M XE (image_writer_raw_0_inv x0 x2) (image_writer_raw_0_rel x0 x2) ?_ _ _ _ hk ⟨g3, g4, rfl, hg4⟩
  clear hk hg4
  rintro S hS hw hw8 R hR ⟨x3, o2⟩ env hp ⟨g3, g4, he, hg4⟩
  change (⟨env, hp⟩ : PF.St) = image_writer_raw_0_st x0 x2 x3 o2 g3 g4 at he
  cases he
  show Sim (image_writer_raw_0_step x0 x2 x3 o2) _ _
  unfold image_writer_raw_0_step
  simp only [hw]
  refine au (.ite Iff.rfl (fun hc => ?_) fun hc => ?_)
  · refine au ?_
    refine Sim.ix (by simp) (fun z0 hz0 => ?_)
    refine au ?_
    refine Sim.go (idx_map _ hz0) ?_
    refine au ?_
    rw [byte_map z0]
    refine au ?_
    first | (refine Sim.goB (may_map (by intro _; rfl) hg4 _) ?_) | skip
    refine au ?_
    first | (refine Sim.goB (okE_map (by intro _; exact ⟨rfl, rfl, rfl⟩) _) ?_) | skip
    refine au ?_
    first | refine Sim.ite (by simp) (fun _ => ?_) (fun _ => Sim.no) | refine Sim.guard (fun _ => ?_)
    refine au ?_
    refine Sim.kl hS (ys := List.map u8av (o2.f_writer.f_out ++ (intsOf z0))) (by simp) ?_
    refine au ?_
    exact Sim.ret ⟨_, _, rfl, rfl, ⟨_, _, rfl, Mg.own⟩⟩
  · refine au ?_
    exact Sim.ret ⟨_, rfl, ⟨_, rfl, hg4⟩⟩
noncomputable def image_writer_raw (all : List (List UInt8)) (o0 : Gimage_memory) : Option Gimage_memory :=
  (image_writer_raw_0 all (List.length all : Int) 0 o0).bind fun r0 =>
  some r0
theorem image_writer_raw_sim (all : List (List UInt8)) (o0 : Gimage_memory) (g0 : Gr) (hg0 : Mg 1 g0) (g2 : Gr) (hg2 : Mg 1 g2) : Sim (image_writer_raw all o0) (Gv fun r q => ∃ g0, q = (.tup [], [⟨true, [.lst g0 (List.map u8av r.f_writer.f_out)]⟩]) ∧ Mg 1 g0) (LM.call n_image_writer_raw [.ptr 0 0, .lst g0 (List.map sav all)] [⟨true, [.lst g2 (List.map u8av o0.f_writer.f_out)]⟩]) := by
  unfold image_writer_raw
  refine sim_evR M XE rfl rfl fun S hS hw hw8 R hR => ?_
  refine au ?_
  refine Sim.ki hS (m := (List.length all : Int)) (by simp) ?_
  refine au ?_
  refine Sim.callL hR (image_writer_raw_0_sim all (List.length all : Int) 0 o0 (Gr.cp g0) g2 hg2 _ rfl) ?_
  rintro r0 q ⟨g5, rfl, hg5⟩
  refine au ?_
  exact Sim.ret ⟨_, rfl, ⟨_, rfl, hg5⟩⟩
noncomputable def image_writer_maybe_0_step (x0 : List (List UInt8)) (x2 : Int) (x3 : Int) (o2 : Gimage_memory) : Option ((Int × Gimage_memory) ⊕ Gimage_memory) :=
  if x3 < x2 then
    (idx? x0 x3).bind fun z0 =>
    if z0 = ([] : List UInt8) then
      (image_writer_number 1 [0] o2).bind fun r0 =>
      some (.inl ((wr (x3 + 1)), r0))
    else
      (image_writer_number 1 [1] o2).bind fun r2 =>
      (image_writer_raw [z0] r2).bind fun r3 =>
      some (.inl ((wr (x3 + 1)), r3))
  else
    some (.inr o2)
noncomputable def image_writer_maybe_0 (x0 : List (List UInt8)) (x2 : Int) (x3 : Int) (o2 : Gimage_memory) : Option Gimage_memory :=
  loopO (fun s : Int × Gimage_memory => image_writer_maybe_0_step x0 x2 s.1 s.2) (x3, o2)
@[reducible] def image_writer_maybe_0_st (x0 : List (List UInt8)) (x2 : Int) (x3 : Int) (o2 : Gimage_memory) (g3 : Gr) (g4 : Gr) : PF.St := ⟨[(0, .ptr 0 0), (6, .lst g3 (List.map sav x0)), (7, iav x2), (8, iav x3)], [(0, ⟨true, [.lst g4 (List.map u8av o2.f_writer.f_out)]⟩)]⟩
def image_writer_maybe_0_rel (x0 : List (List UInt8)) (x2 : Int) (r : Gimage_memory) (q : Ex × PF.St) : Prop := (fun r (q : Ex × PF.St) => ∃ g0', q = ((.exit 0), ⟨[], [(0, ⟨true, [.lst g0' (List.map u8av r.f_writer.f_out)]⟩)]⟩) ∧ Mg 1 g0') r q
def image_writer_maybe_0_inv (x0 : List (List UInt8)) (x2 : Int) (v : Int × Gimage_memory) (e : PF.St) : Prop := ∃ g3, ∃ g4, e = image_writer_maybe_0_st x0 x2 v.1 v.2 g3 g4 ∧ Mg 1 g4
theorem image_writer_maybe_0_sim (x0 : List (List UInt8)) (x2 : Int) (x3 : Int) (o2 : Gimage_memory) (g3 : Gr) (g4 : Gr) (hg4 : Mg 1 g4) (s : PF.St) (hk : keep [0, 6, 7, 8] [] s = some (image_writer_maybe_0_st x0 x2 x3 o2 g3 g4)) : Sim (image_writer_maybe_0 x0 x2 x3 o2) (Gv (image_writer_maybe_0_rel x0 x2)) (LM.loop ([0, 6, 7, 8], [], [], B_image_writer_maybe_0) s) := by
  refine sim_loop M XE (image_writer_maybe_0_inv x0 x2) (image_writer_maybe_0_rel x0 x2) ?_ _ _ _ hk ⟨g3, g4, rfl, hg4⟩
  clear hk hg4
  rintro S hS hw hw8 R hR ⟨x3, o2⟩ env hp ⟨g3, g4, he, hg4⟩
  change (⟨env, hp⟩ : PF.St) = image_writer_maybe_0_st x0 x2 x3 o2 g3 g4 at he
  cases he
  show Sim (image_writer_maybe_0_step x0 x2 x3 o2) _ _
  unfold image_writer_maybe_0_step
  simp only [hw]
  refine au (.ite Iff.rfl (fun hc => ?_) fun hc => ?_)
  · refine au ?_
    refine Sim.ix (by simp) (fun z0 hz0 => ?_)
    refine au ?_
    refine Sim.go (idx_map _ hz0) ?_
    refine au (.ite Iff.rfl (fun hc2 => ?_) fun hc2 => ?_)
    · refine au ?_
      refine Sim.kl hS (ys := List.map iav [0]) rfl ?_
      refine au ?_
      refine Sim.callR hR (image_writer_number_sim _ _ _ .full Mg.full g4 hg4) ?_
      rintro r0 q ⟨g5, rfl, hg5⟩
      refine au ?_
      exact Sim.ret ⟨_, _, rfl, rfl, ⟨_, _, rfl, hg5⟩⟩
    · refine au ?_
      refine Sim.kl hS (ys := List.map iav [1]) rfl ?_
      refine au ?_
      refine Sim.callR hR (image_writer_number_sim _ _ _ .full Mg.full g4 hg4) ?_
      rintro r2 q ⟨g6, rfl, hg6⟩
      refine au ?_
      refine Sim.kl hS (ys := List.map sav [z0]) rfl ?_
      refine au ?_
      refine Sim.callR hR (image_writer_raw_sim _ _ .full Mg.full g6 hg6) ?_
      rintro r3 q ⟨g7, rfl, hg7⟩
      refine au ?_
      exact Sim.ret ⟨_, _, rfl, rfl, ⟨_, _, rfl, hg7⟩⟩
  · refine au ?_
    exact Sim.ret ⟨_, rfl, ⟨_, rfl, hg4⟩⟩
noncomputable def image_writer_maybe (all : List (List UInt8)) (o0 : Gimage_memory) : Option Gimage_memory :=
  (image_writer_maybe_0 all (List.length all : Int) 0 o0).bind fun r4 =>
  some r4
theorem image_writer_maybe_sim (all : List (List UInt8)) (o0 : Gimage_memory) (g0 : Gr) (hg0 : Mg 1 g0) (g2 : Gr) (hg2 : Mg 1 g2) : Sim (image_writer_maybe all o0) (Gv fun r q => ∃ g0, q = (.tup [], [⟨true, [.lst g0 (List.map u8av r.f_writer.f_out)]⟩]) ∧ Mg 1 g0) (LM.call n_image_writer_maybe [.ptr 0 0, .lst g0 (List.map sav all)] [⟨true, [.lst g2 (List.map u8av o0.f_writer.f_out)]⟩]) := by
  unfold image_writer_maybe
  refine sim_evR M XE rfl rfl fun S hS hw hw8 R hR => ?_
  refine au ?_
  refine Sim.ki hS (m := (List.length all : Int)) (by simp) ?_
  refine au ?_
  refine Sim.callL hR (image_writer_maybe_0_sim all (List.length all : Int) 0 o0 (Gr.cp g0) g2 hg2 _ rfl) ?_
  rintro r4 q ⟨g8, rfl, hg8⟩
  refine au ?_
  exact Sim.ret ⟨_, rfl, ⟨_, rfl, hg8⟩⟩
noncomputable def image_writer_text_0_step (x0 : List (List UInt8)) (x2 : Int) (x3 : Int) (o2 : Gimage_memory) : Option ((Int × Gimage_memory) ⊕ Gimage_memory) :=
  if x3 < x2 then
    (idx? x0 x3).bind fun z0 =>
    (image_writer_number 1 [(List.length z0 : Int)] o2).bind fun r0 =>
    (image_writer_raw [z0] r0).bind fun r2 =>
    some (.inl ((wr (x3 + 1)), r2))
  else
    some (.inr o2)
noncomputable def image_writer_text_0 (x0 : List (List UInt8)) (x2 : Int) (x3 : Int) (o2 : Gimage_memory) : Option Gimage_memory :=
  loopO (fun s : Int × Gimage_memory => image_writer_text_0_step x0 x2 s.1 s.2) (x3, o2)
@[reducible] def image_writer_text_0_st (x0 : List (List UInt8)) (x2 : Int) (x3 : Int) (o2 : Gimage_memory) (g3 : Gr) (g4 : Gr) : PF.St := ⟨[(0, .ptr 0 0), (6, .lst g3 (List.map sav x0)), (7, iav x2), (8, iav x3)], [(0, ⟨true, [.lst g4 (List.map u8av o2.f_writer.f_out)]⟩)]⟩
def image_writer_text_0_rel (x0 : List (List UInt8)) (x2 : Int) (r : Gimage_memory) (q : Ex × PF.St) : Prop := (fun r (q : Ex × PF.St) => ∃ g0', q = ((.exit 0), ⟨[], [(0, ⟨true, [.lst g0' (List.map u8av r.f_writer.f_out)]⟩)]⟩) ∧ Mg 1 g0') r q
def image_writer_text_0_inv (x0 : List (List UInt8)) (x2 : Int) (v : Int × Gimage_memory) (e : PF.St) : Prop := ∃ g3, ∃ g4, e = image_writer_text_0_st x0 x2 v.1 v.2 g3 g4 ∧ Mg 1 g4
theorem image_writer_text_0_sim (x0 : List (List UInt8)) (x2 : Int) (x3 : Int) (o2 : Gimage_memory) (g3 : Gr) (g4 : Gr) (hg4 : Mg 1 g4) (s : PF.St) (hk : keep [0, 6, 7, 8] [] s = some (image_writer_text_0_st x0 x2 x3 o2 g3 g4)) : Sim (image_writer_text_0 x0 x2 x3 o2) (Gv (image_writer_text_0_rel x0 x2)) (LM.loop ([0, 6, 7, 8], [], [], B_image_writer_text_0) s) := by
  refine sim_loop M XE (image_writer_text_0_inv x0 x2) (image_writer_text_0_rel x0 x2) ?_ _ _ _ hk ⟨g3, g4, rfl, hg4⟩
  clear hk hg4
  rintro S hS hw hw8 R hR ⟨x3, o2⟩ env hp ⟨g3, g4, he, hg4⟩
  change (⟨env, hp⟩ : PF.St) = image_writer_text_0_st x0 x2 x3 o2 g3 g4 at he
  cases he
  show Sim (image_writer_text_0_step x0 x2 x3 o2) _ _
  unfold image_writer_text_0_step
  simp only [hw]
  refine au (.ite Iff.rfl (fun hc => ?_) fun hc => ?_)
  · refine au ?_
    refine Sim.ix (by simp) (fun z0 hz0 => ?_)
    refine au ?_
    refine Sim.go (idx_map _ hz0) ?_
    refine au ?_
    refine Sim.kl hS (ys := List.map iav [(List.length z0 : Int)]) rfl ?_
    refine au ?_
    refine Sim.callR hR (image_writer_number_sim _ _ _ .full Mg.full g4 hg4) ?_
    rintro r0 q ⟨g5, rfl, hg5⟩
    refine au ?_
    refine Sim.kl hS (ys := List.map sav [z0]) rfl ?_
    refine au ?_
    refine Sim.callR hR (image_writer_raw_sim _ _ .full Mg.full g5 hg5) ?_
    rintro r2 q ⟨g6, rfl, hg6⟩
    refine au ?_
    exact Sim.ret ⟨_, _, rfl, rfl, ⟨_, _, rfl, hg6⟩⟩
  · refine au ?_
    exact Sim.ret ⟨_, rfl, ⟨_, rfl, hg4⟩⟩
noncomputable def image_writer_text (all : List (List UInt8)) (o0 : Gimage_memory) : Option Gimage_memory :=
  (image_writer_text_0 all (List.length all : Int) 0 o0).bind fun r3 =>
  some r3
theorem image_writer_text_sim (all : List (List UInt8)) (o0 : Gimage_memory) (g0 : Gr) (hg0 : Mg 1 g0) (g2 : Gr) (hg2 : Mg 1 g2) : Sim (image_writer_text all o0) (Gv fun r q => ∃ g0, q = (.tup [], [⟨true, [.lst g0 (List.map u8av r.f_writer.f_out)]⟩]) ∧ Mg 1 g0) (LM.call n_image_writer_text [.ptr 0 0, .lst g0 (List.map sav all)] [⟨true, [.lst g2 (List.map u8av o0.f_writer.f_out)]⟩]) := by
  unfold image_writer_text
  refine sim_evR M XE rfl rfl fun S hS hw hw8 R hR => ?_
  refine au ?_
  refine Sim.ki hS (m := (List.length all : Int)) (by simp) ?_
  refine au ?_
  refine Sim.callL hR (image_writer_text_0_sim all (List.length all : Int) 0 o0 (Gr.cp g0) g2 hg2 _ rfl) ?_
  rintro r3 q ⟨g7, rfl, hg7⟩
  refine au ?_
  exact Sim.ret ⟨_, rfl, ⟨_, rfl, hg7⟩⟩
noncomputable def image_writer_text_v1_0_step (x0 : List (List UInt8)) (x2 : Int) (x3 : Int) (o2 : Gimage_memory) : Option ((Int × Gimage_memory) ⊕ Gimage_memory) :=
  if x3 < x2 then
    (idx? x0 x3).bind fun z0 =>
    (image_writer_number 1 [(List.length z0 : Int)] o2).bind fun r0 =>
    (image_writer_raw [z0] r0).bind fun r2 =>
    some (.inl ((wr (x3 + 1)), r2))
  else
    some (.inr o2)
noncomputable def image_writer_text_v1_0 (x0 : List (List UInt8)) (x2 : Int) (x3 : Int) (o2 : Gimage_memory) : Option Gimage_memory :=
  loopO (fun s : Int × Gimage_memory => image_writer_text_v1_0_step x0 x2 s.1 s.2) (x3, o2)
@[reducible] def image_writer_text_v1_0_st (x0 : List (List UInt8)) (x2 : Int) (x3 : Int) (o2 : Gimage_memory) (g2 : Gr) : PF.St := ⟨[(0, .ptr 0 0), (6, lav sav x0), (7, iav x2), (8, iav x3)], [(0, ⟨true, [.lst g2 (List.map u8av o2.f_writer.f_out)]⟩)]⟩
def image_writer_text_v1_0_rel (x0 : List (List UInt8)) (x2 : Int) (r : Gimage_memory) (q : Ex × PF.St) : Prop := (fun r (q : Ex × PF.St) => ∃ g0', q = ((.exit 0), ⟨[], [(0, ⟨true, [.lst g0' (List.map u8av r.f_writer.f_out)]⟩)]⟩) ∧ Mg 1 g0') r q
def image_writer_text_v1_0_inv (x0 : List (List UInt8)) (x2 : Int) (v : Int × Gimage_memory) (e : PF.St) : Prop := ∃ g2, e = image_writer_text_v1_0_st x0 x2 v.1 v.2 g2 ∧ Mg 1 g2
theorem image_writer_text_v1_0_sim (x0 : List (List UInt8)) (x2 : Int) (x3 : Int) (o2 : Gimage_memory) (g2 : Gr) (hg2 : Mg 1 g2) (s : PF.St) (hk : keep [0, 6, 7, 8] [] s = some (image_writer_text_v1_0_st x0 x2 x3 o2 g2)) : Sim (image_writer_text_v1_0 x0 x2 x3 o2) (Gv (image_writer_text_v1_0_rel x0 x2)) (LM.loop ([0, 6, 7, 8], [], [], B_image_writer_text_0) s) := by
  refine sim_loop M XE (image_writer_text_v1_0_inv x0 x2) (image_writer_text_v1_0_rel x0 x2) ?_ _ _ _ hk ⟨g2, rfl, hg2⟩
  clear hk hg2
  rintro S hS hw hw8 R hR ⟨x3, o2⟩ env hp ⟨g2, he, hg2⟩
  change (⟨env, hp⟩ : PF.St) = image_writer_text_v1_0_st x0 x2 x3 o2 g2 at he
  cases he
  show Sim (image_writer_text_v1_0_step x0 x2 x3 o2) _ _
  unfold image_writer_text_v1_0_step
  simp only [hw]
  refine au (.ite Iff.rfl (fun hc => ?_) fun hc => ?_)
  · refine au ?_
    refine Sim.ix (by simp) (fun z0 hz0 => ?_)
    refine au ?_
    refine Sim.go (idx_map _ hz0) ?_
    refine au ?_
    refine Sim.kl hS (ys := List.map iav [(List.length z0 : Int)]) rfl ?_
    refine au ?_
    refine Sim.callR hR (image_writer_number_sim _ _ _ .full Mg.full g2 hg2) ?_
    rintro r0 q ⟨g3, rfl, hg3⟩
    refine au ?_
    refine Sim.kl hS (ys := List.map sav [z0]) rfl ?_
    refine au ?_
    refine Sim.callR hR (image_writer_raw_sim _ _ .full Mg.full g3 hg3) ?_
    rintro r2 q ⟨g4, rfl, hg4⟩
    refine au ?_
    exact Sim.ret ⟨_, _, rfl, rfl, ⟨_, rfl, hg4⟩⟩
  · refine au ?_
    exact Sim.ret ⟨_, rfl, ⟨_, rfl, hg2⟩⟩
noncomputable def image_writer_text_v1 (all : List (List UInt8)) (o0 : Gimage_memory) : Option Gimage_memory :=
  (image_writer_text_v1_0 all (List.length all : Int) 0 o0).bind fun r3 =>
  some r3
theorem image_writer_text_v1_sim (all : List (List UInt8)) (o0 : Gimage_memory) (g0 : Gr) (hg0 : Mg 1 g0) : Sim (image_writer_text_v1 all o0) (Gv fun r q => ∃ g0, q = (.tup [], [⟨true, [.lst g0 (List.map u8av r.f_writer.f_out)]⟩]) ∧ Mg 1 g0) (LM.call n_image_writer_text [.ptr 0 0, lav sav all] [⟨true, [.lst g0 (List.map u8av o0.f_writer.f_out)]⟩]) := by
  unfold image_writer_text_v1
  refine sim_evR M XE rfl rfl fun S hS hw hw8 R hR => ?_
  refine au ?_
  refine Sim.ki hS (m := (List.length all : Int)) (by simp) ?_
  refine au ?_
  refine Sim.callL hR (image_writer_text_v1_0_sim all (List.length all : Int) 0 o0 g0 hg0 _ rfl) ?_
  rintro r3 q ⟨g5, rfl, hg5⟩
  refine au ?_
  exact Sim.ret ⟨_, rfl, ⟨_, rfl, hg5⟩⟩
noncomputable def image_writer_number_v1_0_step (width2 : Int) (x0 : Int) (o4 : GMem) (x2 : Int) (o3 : Gimage_memory) : Option ((Int × Gimage_memory) ⊕ Gimage_memory) :=
  if x2 < x0 then
    if 0 ≤ x2 ∧ x2 < (6 : Int) then
      (Ar6.get? (Ar6.mk o4.Diag.a0 o4.Diag.a1 o4.Diag.a2 o4.Diag.a3 o4.Diag.a4 o4.Diag.a5) (Int.toNat x2)).bind fun z0 =>
      (num_Put z0 width2).bind fun r0 =>
      if List.length o3.f_writer.f_out + List.length (intsOf r0.1) ≤ lenMax then
        some (.inl ((wr (x2 + 1)), (Gimage_memory.mk (Gimage_writer.mk (o3.f_writer.f_out ++ (intsOf r0.1))))))
      else none
    else none
  else
    some (.inr o3)
noncomputable def image_writer_number_v1_0 (width2 : Int) (x0 : Int) (o4 : GMem) (x2 : Int) (o3 : Gimage_memory) : Option Gimage_memory :=
  loopO (fun s : Int × Gimage_memory => image_writer_number_v1_0_step width2 x0 o4 s.1 s.2) (x2, o3)
@[reducible] def image_writer_number_v1_0_st (width2 : Int) (x0 : Int) (o4 : GMem) (x2 : Int) (o3 : Gimage_memory) (g2 : Gr) : PF.St := ⟨[(0, .ptr 0 0), (1, iav width2), (10, .arr 1 18 6 1 false), (11, iav x0), (12, iav x2)], [(0, ⟨true, [.lst g2 (List.map u8av o3.f_writer.f_out)]⟩), (1, ⟨true, GMem.cells o4⟩)]⟩
def image_writer_number_v1_0_rel (width2 : Int) (x0 : Int) (o4 : GMem) (r : Gimage_memory) (q : Ex × PF.St) : Prop := (fun r (q : Ex × PF.St) => ∃ g0', q = ((.exit 0), ⟨[], [(0, ⟨true, [.lst g0' (List.map u8av r.f_writer.f_out)]⟩), (1, ⟨true, GMem.cells o4⟩)]⟩) ∧ Mg 1 g0') r q
def image_writer_number_v1_0_inv (width2 : Int) (x0 : Int) (o4 : GMem) (v : Int × Gimage_memory) (e : PF.St) : Prop := ∃ g2, e = image_writer_number_v1_0_st width2 x0 o4 v.1 v.2 g2 ∧ Mg 1 g2
theorem image_writer_number_v1_0_sim (width2 : Int) (x0 : Int) (o4 : GMem) (x2 : Int) (o3 : Gimage_memory) (g2 : Gr) (hg2 : Mg 1 g2) (s : PF.St) (hk : keep [0, 1, 10, 11, 12] [] s = some (image_writer_number_v1_0_st width2 x0 o4 x2 o3 g2)) : Sim (image_writer_number_v1_0 width2 x0 o4 x2 o3) (Gv (image_writer_number_v1_0_rel width2 x0 o4)) (LM.loop ([0, 1, 10, 11, 12], [], [], B_image_writer_number_0) s) := by
  refine sim_loop M XE (image_writer_number_v1_0_inv width2 x0 o4) (image_writer_number_v1_0_rel width2 x0 o4) ?_ _ _ _ hk ⟨g2, rfl, hg2⟩
  clear hk hg2
  rintro S hS hw hw8 R hR ⟨x2, o3⟩ env hp ⟨g2, he, hg2⟩
  change (⟨env, hp⟩ : PF.St) = image_writer_number_v1_0_st width2 x0 o4 x2 o3 g2 at he
  cases he
  show Sim (image_writer_number_v1_0_step width2 x0 o4 x2 o3) _ _
  unfold image_writer_number_v1_0_step
  simp only [hw]
  refine au (.ite Iff.rfl (fun hc => ?_) fun hc => ?_)
  · refine au ?_
    first | refine Sim.ite Iff.rfl (fun _ => ?_) (fun _ => Sim.no) | refine Sim.guard (fun _ => ?_)
    refine au ?_
    refine Sim.opt (f := iav) (by generalize (Int.toNat x2) = j; rcases j with _|_|_|_|_|_|j <;> first | rfl | exact (loadC_out (by simp only [List.length_cons, List.length_nil]; omega)).trans rfl | exact (storeC_none _ (by simp) _ _ (by simp only [List.length_cons, List.length_nil]; omega)).trans rfl) (fun z0 _ => ?_)
    refine au (cE hR (num_Put_sim _ _) fun r0 => ?_)
    refine au ?_
    rw [byte_map r0.1]
    refine au ?_
    first | (refine Sim.goB (may_map (by intro _; rfl) hg2 _) ?_) | skip
    refine au ?_
    first | (refine Sim.goB (okE_map (by intro _; exact ⟨rfl, rfl, rfl⟩) _) ?_) | skip
    refine au ?_
    first | refine Sim.ite (by simp) (fun _ => ?_) (fun _ => Sim.no) | refine Sim.guard (fun _ => ?_)
    refine au ?_
    refine Sim.kl hS (ys := List.map u8av (o3.f_writer.f_out ++ (intsOf r0.1))) (by simp) ?_
    refine au ?_
    exact Sim.ret ⟨_, _, rfl, rfl, ⟨_, rfl, Mg.own⟩⟩
  · refine au ?_
    exact Sim.ret ⟨_, rfl, ⟨_, rfl, hg2⟩⟩
noncomputable def image_writer_number_v1 (width : Int) (o0 : Gimage_memory) (o2 : GMem) : Option (Gimage_memory × GMem) :=
  (image_writer_number_v1_0 width (6 : Int) o2 0 o0).bind fun r2 =>
  some (r2, o2)
theorem image_writer_number_v1_sim (width : Int) (o0 : Gimage_memory) (o2 : GMem) (g0 : Gr) (hg0 : Mg 1 g0) : Sim (image_writer_number_v1 width o0 o2) (Gv fun r q => ∃ g0, q = (.tup [], [⟨true, [.lst g0 (List.map u8av r.1.f_writer.f_out)]⟩, ⟨true, GMem.cells r.2⟩]) ∧ Mg 1 g0) (LM.call n_image_writer_number [.ptr 0 0, iav width, .arr 1 18 6 1 false] [⟨true, [.lst g0 (List.map u8av o0.f_writer.f_out)]⟩, ⟨true, GMem.cells o2⟩]) := by
  unfold image_writer_number_v1
  refine sim_evR M XE rfl rfl fun S hS hw hw8 R hR => ?_
  refine au ?_
  refine Sim.callL hR (image_writer_number_v1_0_sim width (6 : Int) o2 0 o0 g0 hg0 _ rfl) ?_
  rintro r2 q ⟨g3, rfl, hg3⟩
  refine au ?_
  exact Sim.ret ⟨_, rfl, ⟨_, rfl, hg3⟩⟩
noncomputable def image_memory_lists_0_step (r0 : List GPort) (a0 : Int) (t0 : GMem) (y0 : Int) (o2 : Gimage_memory) : Option ((Int × Gimage_memory) ⊕ Gimage_memory) :=
  if y0 < a0 then
    (idx? r0 y0).bind fun z0 =>
    (image_writer_text [z0.Text] o2).bind fun r2 =>
    (image_writer_number 1 [z0.Cycle, z0.Age] r2).bind fun r3 =>
    some (.inl ((wr (y0 + 1)), r3))
  else
    some (.inr o2)
noncomputable def image_memory_lists_0 (r0 : List GPort) (a0 : Int) (t0 : GMem) (y0 : Int) (o2 : Gimage_memory) : Option Gimage_memory :=
  loopO (fun s : Int × Gimage_memory => image_memory_lists_0_step r0 a0 t0 s.1 s.2) (y0, o2)
@[reducible] def image_memory_lists_0_st (r0 : List GPort) (a0 : Int) (t0 : GMem) (y0 : Int) (o2 : Gimage_memory) (g2 : Gr) : PF.St := ⟨[(0, .ptr 0 0), (3, .ptr 103 0), (9, lav GPort.av r0), (10, iav a0), (11, iav y0)], [(103, ⟨true, GMem.cells t0⟩), (0, ⟨true, [.lst g2 (List.map u8av o2.f_writer.f_out)]⟩)]⟩
def image_memory_lists_0_rel (r0 : List GPort) (a0 : Int) (t0 : GMem) (r : Gimage_memory) (q : Ex × PF.St) : Prop := (fun r (q : Ex × PF.St) => ∃ g0', q = ((.exit 0), ⟨[(0, .ptr 0 0), (3, .ptr 103 0)], [(103, ⟨true, GMem.cells t0⟩), (0, ⟨true, [.lst g0' (List.map u8av r.f_writer.f_out)]⟩)]⟩) ∧ Mg 1 g0') r q
def image_memory_lists_0_inv (r0 : List GPort) (a0 : Int) (t0 : GMem) (v : Int × Gimage_memory) (e : PF.St) : Prop := ∃ g2, e = image_memory_lists_0_st r0 a0 t0 v.1 v.2 g2 ∧ Mg 1 g2
theorem image_memory_lists_0_sim (r0 : List GPort) (a0 : Int) (t0 : GMem) (y0 : Int) (o2 : Gimage_memory) (g2 : Gr) (hg2 : Mg 1 g2) (s : PF.St) (hk : keep [0, 3, 9, 10, 11] [103] s = some (image_memory_lists_0_st r0 a0 t0 y0 o2 g2)) : Sim (image_memory_lists_0 r0 a0 t0 y0 o2) (Gv (image_memory_lists_0_rel r0 a0 t0)) (LM.loop ([0, 3, 9, 10, 11], [103], [0, 3], B_image_memory_lists_0) s) := by
  refine sim_loop M XE (image_memory_lists_0_inv r0 a0 t0) (image_memory_lists_0_rel r0 a0 t0) ?_ _ _ _ hk ⟨g2, rfl, hg2⟩
  clear hk hg2
  rintro S hS hw hw8 R hR ⟨y0, o2⟩ env hp ⟨g2, he, hg2⟩
  change (⟨env, hp⟩ : PF.St) = image_memory_lists_0_st r0 a0 t0 y0 o2 g2 at he
  cases he
  show Sim (image_memory_lists_0_step r0 a0 t0 y0 o2) _ _
  unfold image_memory_lists_0_step
  simp only [hw]
  refine au (.ite Iff.rfl (fun hc => ?_) fun hc => ?_)
  · refine au ?_
    refine Sim.ix (by simp) (fun z0 hz0 => ?_)
    refine au ?_
    refine Sim.go (idx_map _ hz0) ?_
    refine au ?_
    refine Sim.kl hS (ys := List.map sav [z0.Text]) rfl ?_
    refine au ?_
    refine Sim.callR hR (image_writer_text_sim _ _ .full Mg.full g2 hg2) ?_
    rintro r2 q ⟨g3, rfl, hg3⟩
    refine au ?_
    refine Sim.kl hS (ys := List.map iav [z0.Cycle, z0.Age]) rfl ?_
    refine au ?_
    refine Sim.callR hR (image_writer_number_sim _ _ _ .full Mg.full g3 hg3) ?_
    rintro r3 q ⟨g4, rfl, hg4⟩
    refine au ?_
    exact Sim.ret ⟨_, _, rfl, rfl, ⟨_, rfl, hg4⟩⟩
  · refine au ?_
    exact Sim.ret ⟨_, rfl, ⟨_, rfl, hg2⟩⟩
noncomputable def image_memory_lists_1_step (x0 : List GEntry) (x2 : Int) (t2 : GMem) (x3 : Int) (o3 : Gimage_memory) : Option ((Int × Gimage_memory) ⊕ Gimage_memory) :=
  if x3 < x2 then
    (idx? x0 x3).bind fun z2 =>
    (image_writer_number 1 [z2.From] o3).bind fun r7 =>
    (image_writer_number 2 [z2.At] r7).bind fun r8 =>
    some (.inl ((wr (x3 + 1)), r8))
  else
    some (.inr o3)
noncomputable def image_memory_lists_1 (x0 : List GEntry) (x2 : Int) (t2 : GMem) (x3 : Int) (o3 : Gimage_memory) : Option Gimage_memory :=
  loopO (fun s : Int × Gimage_memory => image_memory_lists_1_step x0 x2 t2 s.1 s.2) (x3, o3)
@[reducible] def image_memory_lists_1_st (x0 : List GEntry) (x2 : Int) (t2 : GMem) (x3 : Int) (o3 : Gimage_memory) (g8 : Gr) : PF.St := ⟨[(0, .ptr 0 0), (3, .ptr 103 0), (47, lav GEntry.av x0), (48, iav x2), (49, iav x3)], [(103, ⟨true, GMem.cells t2⟩), (0, ⟨true, [.lst g8 (List.map u8av o3.f_writer.f_out)]⟩)]⟩
def image_memory_lists_1_rel (x0 : List GEntry) (x2 : Int) (t2 : GMem) (r : Gimage_memory) (q : Ex × PF.St) : Prop := (fun r (q : Ex × PF.St) => ∃ g0', q = ((.exit 2), ⟨[(0, .ptr 0 0), (3, .ptr 103 0)], [(103, ⟨true, GMem.cells t2⟩), (0, ⟨true, [.lst g0' (List.map u8av r.f_writer.f_out)]⟩)]⟩) ∧ Mg 1 g0') r q
def image_memory_lists_1_inv (x0 : List GEntry) (x2 : Int) (t2 : GMem) (v : Int × Gimage_memory) (e : PF.St) : Prop := ∃ g8, e = image_memory_lists_1_st x0 x2 t2 v.1 v.2 g8 ∧ Mg 1 g8
theorem image_memory_lists_1_sim (x0 : List GEntry) (x2 : Int) (t2 : GMem) (x3 : Int) (o3 : Gimage_memory) (g8 : Gr) (hg8 : Mg 1 g8) (s : PF.St) (hk : keep [0, 3, 47, 48, 49] [103] s = some (image_memory_lists_1_st x0 x2 t2 x3 o3 g8)) : Sim (image_memory_lists_1 x0 x2 t2 x3 o3) (Gv (image_memory_lists_1_rel x0 x2 t2)) (LM.loop ([0, 3, 47, 48, 49], [103], [0, 3], B_image_memory_lists_1) s) := by
  refine sim_loop M XE (image_memory_lists_1_inv x0 x2 t2) (image_memory_lists_1_rel x0 x2 t2) ?_ _ _ _ hk ⟨g8, rfl, hg8⟩
  clear hk hg8
  rintro S hS hw hw8 R hR ⟨x3, o3⟩ env hp ⟨g8, he, hg8⟩
  change (⟨env, hp⟩ : PF.St) = image_memory_lists_1_st x0 x2 t2 x3 o3 g8 at he
  cases he
  show Sim (image_memory_lists_1_step x0 x2 t2 x3 o3) _ _
  unfold image_memory_lists_1_step
  simp only [hw]
  refine au (.ite Iff.rfl (fun hc2 => ?_) fun hc2 => ?_)
  · refine au ?_
    refine Sim.ix (by simp) (fun z2 hz2 => ?_)
    refine au ?_
    refine Sim.go (idx_map _ hz2) ?_
    refine au ?_
    refine Sim.kl hS (ys := List.map iav [z2.From]) rfl ?_
    refine au ?_
    refine Sim.callR hR (image_writer_number_sim _ _ _ .full Mg.full g8 hg8) ?_
    rintro r7 q ⟨g9, rfl, hg9⟩
    refine au ?_
    refine Sim.kl hS (ys := List.map iav [z2.At]) rfl ?_
    refine au ?_
    refine Sim.callR hR (image_writer_number_sim _ _ _ .full Mg.full g9 hg9) ?_
    rintro r8 q ⟨g10, rfl, hg10⟩
    refine au ?_
    exact Sim.ret ⟨_, _, rfl, rfl, ⟨_, rfl, hg10⟩⟩
  · refine au ?_
    exact Sim.ret ⟨_, rfl, ⟨_, rfl, hg8⟩⟩
noncomputable def image_memory_lists (i0 : GMem) (o0 : Gimage_memory) : Option Gimage_memory :=
  (image_memory_lists_0 i0.Ports (List.length i0.Ports : Int) i0 0 o0).bind fun r4 =>
  (image_writer_text_v1 i0.Hold r4).bind fun r5 =>
  (image_writer_number 1 [(List.length i0.Log : Int)] r5).bind fun r6 =>
  (image_memory_lists_1 i0.Log (List.length i0.Log : Int) i0 0 r6).bind fun r9 =>
  (image_writer_number_v1 2 r9 i0).bind fun r10 =>
  some r10.1
theorem image_memory_lists_sim (i0 : GMem) (o0 : Gimage_memory) (g0 : Gr) (hg0 : Mg 1 g0) : Sim (image_memory_lists i0 o0) (Gv fun r q => ∃ g0, q = (.tup [], [⟨true, [.lst g0 (List.map u8av r.f_writer.f_out)]⟩]) ∧ Mg 1 g0) (LM.call n_image_memory_lists [.ptr 0 0, GMem.av i0] [⟨true, [.lst g0 (List.map u8av o0.f_writer.f_out)]⟩]) := by
  unfold image_memory_lists
  refine sim_evR M XE rfl rfl fun S hS hw hw8 R hR => ?_
  refine au ?_
  refine Sim.ki hS (m := (List.length i0.Ports : Int)) (by simp) ?_
  refine au ?_
  refine Sim.callL hR (image_memory_lists_0_sim i0.Ports (List.length i0.Ports : Int) i0 0 o0 g0 hg0 _ rfl) ?_
  rintro r4 q ⟨g5, rfl, hg5⟩
  refine au ?_
  refine Sim.callR hR (image_writer_text_v1_sim _ _ g5 hg5) ?_
  rintro r5 q ⟨g6, rfl, hg6⟩
  refine au ?_
  refine Sim.ki hS (m := (List.length i0.Log : Int)) (by simp) ?_
  refine au ?_
  refine Sim.kl hS (ys := List.map iav [(List.length i0.Log : Int)]) rfl ?_
  refine au ?_
  refine Sim.callR hR (image_writer_number_sim _ _ _ .full Mg.full g6 hg6) ?_
  rintro r6 q ⟨g7, rfl, hg7⟩
  refine au ?_
  refine Sim.ki hS (m := (List.length i0.Log : Int)) (by simp) ?_
  refine au ?_
  refine Sim.callL hR (image_memory_lists_1_sim i0.Log (List.length i0.Log : Int) i0 0 r6 g7 hg7 _ rfl) ?_
  rintro r9 q ⟨g11, rfl, hg11⟩
  refine au ?_
  refine Sim.callR hR (image_writer_number_v1_sim _ _ _ g11 hg11) ?_
  rintro r10 q ⟨g12, rfl, hg12⟩
  refine au ?_
  exact Sim.ret ⟨_, rfl, ⟨_, rfl, hg12⟩⟩
noncomputable def image_Write (L0 : GConf) (i0 : GMem) : Option ((List UInt8)) :=
  (conf_Plain L0).bind fun r0 =>
  if r0 ≠ 0 then
    some ([] : List UInt8)
  else
    (mem_Mend L0 i0).bind fun r2 =>
    (image_writer_number 2 [r2.Clock, r2.Anchor, r2.Since] (Gimage_memory.mk (Gimage_writer.mk ([] : List Int)))).bind fun r3 =>
    (image_writer_number 1 [r2.Age, r2.Number, r2.Regular] r3).bind fun r4 =>
    (image_writer_raw [r2.Pipe] r4).bind fun r5 =>
    (image_writer_maybe [r2.Vec, r2.Agreed] r5).bind fun r6 =>
    (image_writer_raw [r2.Members, r2.Seen, r2.Heard, r2.Sent] r6).bind fun r7 =>
    (image_writer_text [r2.Out, r2.Line] r7).bind fun r8 =>
    (image_memory_lists r2 r8).bind fun r9 =>
    some (bytesOf r9.f_writer.f_out)
theorem image_Write_sim (L0 : GConf) (i0 : GMem) : Sim (image_Write L0 i0) (Gv fun r q => q = (.str r, [])) (LM.call n_image_Write [GConf.av L0, GMem.av i0] []) := by
  unfold image_Write
  refine sim_evR M XE rfl rfl fun S hS hw hw8 R hR => ?_
  refine au (cE hR (conf_Plain_sim _) fun r0 => ?_)
  refine au (.ite Iff.rfl (fun hc => ?_) fun hc => ?_)
  · exact au (.ret ⟨_, rfl, rfl⟩)
  · refine au (cE hR (mem_Mend_sim _ _) fun r2 => ?_)
    refine au ?_
    refine Sim.kl hS (ys := List.map iav [r2.Clock, r2.Anchor, r2.Since]) rfl ?_
    refine au ?_
    refine Sim.callR hR (image_writer_number_sim _ _ _ .full Mg.full .full Mg.full) ?_
    rintro r3 q ⟨g0, rfl, hg0⟩
    refine au ?_
    refine Sim.kl hS (ys := List.map iav [r2.Age, r2.Number, r2.Regular]) rfl ?_
    refine au ?_
    refine Sim.callR hR (image_writer_number_sim _ _ _ .full Mg.full g0 hg0) ?_
    rintro r4 q ⟨g2, rfl, hg2⟩
    refine au ?_
    refine Sim.kl hS (ys := List.map sav [r2.Pipe]) rfl ?_
    refine au ?_
    refine Sim.callR hR (image_writer_raw_sim _ _ .full Mg.full g2 hg2) ?_
    rintro r5 q ⟨g3, rfl, hg3⟩
    refine au ?_
    refine Sim.kl hS (ys := List.map sav [r2.Vec, r2.Agreed]) rfl ?_
    refine au ?_
    refine Sim.callR hR (image_writer_maybe_sim _ _ .full Mg.full g3 hg3) ?_
    rintro r6 q ⟨g4, rfl, hg4⟩
    refine au ?_
    refine Sim.kl hS (ys := List.map sav [r2.Members, r2.Seen, r2.Heard, r2.Sent]) rfl ?_
    refine au ?_
    refine Sim.callR hR (image_writer_raw_sim _ _ .full Mg.full g4 hg4) ?_
    rintro r7 q ⟨g5, rfl, hg5⟩
    refine au ?_
    refine Sim.kl hS (ys := List.map sav [r2.Out, r2.Line]) rfl ?_
    refine au ?_
    refine Sim.callR hR (image_writer_text_sim _ _ .full Mg.full g5 hg5) ?_
    rintro r8 q ⟨g6, rfl, hg6⟩
    refine au ?_
    refine Sim.callR hR (image_memory_lists_sim _ _ g6 hg6) ?_
    rintro r9 q ⟨g7, rfl, hg7⟩
    refine au ?_
    refine Sim.go (bytes_mapM _) ?_
    exact au (.ret ⟨_, rfl, rfl⟩)
noncomputable def num_Get_0_step (s2 : List UInt8) (at2 : Int) (x0 : Int) (n0 : Int) (x2 : Int) : Option ((Int × Int) ⊕ Int) :=
  if x2 < x0 then
    (idx? s2 (wr (at2 + x2))).bind fun b0 =>
    if (wr (8 * x2)) < 0 then none else
    some (.inl ((orI .i64 n0 (shlI .i64 (wr (UInt8.toNat b0 : Int)) (wr (8 * x2)))), (wr (x2 + 1))))
  else
    some (.inr n0)
noncomputable def num_Get_0 (s2 : List UInt8) (at2 : Int) (x0 : Int) (n0 : Int) (x2 : Int) : Option Int :=
  loopO (fun s : Int × Int => num_Get_0_step s2 at2 x0 s.1 s.2) (n0, x2)
@[reducible] def num_Get_0_st (s2 : List UInt8) (at2 : Int) (x0 : Int) (n0 : Int) (x2 : Int) : PF.St := ⟨[(0, .str s2), (1, iav at2), (8, iav n0), (29, iav x0), (30, iav x2)], []⟩
def num_Get_0_rel (s2 : List UInt8) (at2 : Int) (x0 : Int) (r : Int) (q : Ex × PF.St) : Prop := (fun r (q : Ex × PF.St) => q = ((.exit 0), ⟨[(8, iav r)], []⟩)) r q
def num_Get_0_inv (s2 : List UInt8) (at2 : Int) (x0 : Int) (v : Int × Int) (e : PF.St) : Prop := e = num_Get_0_st s2 at2 x0 v.1 v.2
theorem num_Get_0_sim (s2 : List UInt8) (at2 : Int) (x0 : Int) (n0 : Int) (x2 : Int) (s : PF.St) (hk : keep [0, 1, 8, 29, 30] [] s = some (num_Get_0_st s2 at2 x0 n0 x2)) : Sim (num_Get_0 s2 at2 x0 n0 x2) (Gv (num_Get_0_rel s2 at2 x0)) (LM.loop ([0, 1, 8, 29, 30], [], [8], B_num_Get_0) s) := by
  refine sim_loop M XE (num_Get_0_inv s2 at2 x0) (num_Get_0_rel s2 at2 x0) ?_ _ _ _ hk rfl
  clear hk
  rintro S hS hw hw8 R hR ⟨n0, x2⟩ env hp he
  change (⟨env, hp⟩ : PF.St) = num_Get_0_st s2 at2 x0 n0 x2 at he
  cases he
  show Sim (num_Get_0_step s2 at2 x0 n0 x2) _ _
  unfold num_Get_0_step
  simp only [hw]
  refine au (.ite Iff.rfl (fun hc5 => ?_) fun hc5 => ?_)
  · refine au ?_
    refine Sim.ix rfl (fun b0 hb0 => ?_)
    refine au ?_
    refine Sim.go hb0 ?_
    refine au ?_
    refine Sim.ite Iff.rfl (fun _ => Sim.no) (fun hc6 => ?_)
    refine au ?_
    exact Sim.ret ⟨_, _, rfl, rfl, rfl⟩
  · exact au (.ret ⟨_, rfl, rfl⟩)
noncomputable def num_Get (s0 : List UInt8) (at0 : Int) (width : Int) : Option (Int × Int) :=
  (num_fits width).bind fun r0 =>
  if (!r0) = true then
    some (0, 2)
  else
    if at0 < 0 then
      some (0, 2)
    else
      if (List.length s0 : Int) < at0 then
        some (0, 5)
      else
        if (wr ((List.length s0 : Int) - at0)) < width then
          some (0, 5)
        else
          (num_Get_0 s0 at0 width 0 0).bind fun r2 =>
          some (r2, 0)
theorem num_Get_sim (s0 : List UInt8) (at0 : Int) (width : Int) : Sim (num_Get s0 at0 width) (Gv fun r q => q = (.tup [iav r.1, iav r.2], [])) (LM.call n_num_Get [.str s0, iav at0, iav width] []) := by
  unfold num_Get
  refine sim_evR M XE rfl rfl fun S hS hw hw8 R hR => ?_
  simp only [hw]
  refine au (cE hR (num_fits_sim _) fun r0 => ?_)
  refine au (.iteB (fun hc => ?_) fun hc => ?_)
  · exact au (.ret ⟨_, rfl, rfl⟩)
  · refine au (.ite Iff.rfl (fun hc2 => ?_) fun hc2 => ?_)
    · exact au (.ret ⟨_, rfl, rfl⟩)
    · refine au (.ite Iff.rfl (fun hc3 => ?_) fun hc3 => ?_)
      · exact au (.ret ⟨_, rfl, rfl⟩)
      · refine au (.ite Iff.rfl (fun hc4 => ?_) fun hc4 => ?_)
        · exact au (.ret ⟨_, rfl, rfl⟩)
        · refine au ?_
          refine Sim.callL hR (num_Get_0_sim s0 at0 width 0 0 _ rfl) ?_
          rintro r2 q rfl
          exact au (.ret ⟨_, rfl, rfl⟩)
noncomputable def image_reader_byte (o0 : Gimage_recall) : Option (Int × Gimage_recall) :=
  (num_Get o0.f_reader.f_s o0.f_reader.f_at 1).bind fun r0 =>
  if r0.2 ≠ 0 then
    some (0, (Gimage_recall.mk (Gimage_reader.mk o0.f_reader.f_s (wr (o0.f_reader.f_at + 1))) o0.f_c))
  else
    some (r0.1, (Gimage_recall.mk (Gimage_reader.mk o0.f_reader.f_s (wr (o0.f_reader.f_at + 1))) o0.f_c))
theorem image_reader_byte_sim (o0 : Gimage_recall) : Sim (image_reader_byte o0) (Gv fun r q => q = (iav r.1, [⟨true, Gimage_recall.cells r.2⟩])) (LM.call n_image_reader_byte [.ptr 0 0] [⟨true, Gimage_recall.cells o0⟩]) := by
  unfold image_reader_byte
  refine sim_evR M XE rfl rfl fun S hS hw hw8 R hR => ?_
  simp only [hw]
  refine au (cE hR (num_Get_sim _ _ _) fun r0 => ?_)
  refine au (.ite Iff.rfl (fun hc => ?_) fun hc => ?_)
  · exact au (.ret ⟨_, rfl, rfl⟩)
  · exact au (.ret ⟨_, rfl, rfl⟩)
noncomputable def image_reader_word (o0 : Gimage_recall) : Option (Int × Gimage_recall) :=
  (image_reader_byte o0).bind fun r0 =>
  (image_reader_byte r0.2).bind fun r2 =>
  some ((wr (r0.1 + (wr (256 * r2.1)))), r2.2)
theorem image_reader_word_sim (o0 : Gimage_recall) : Sim (image_reader_word o0) (Gv fun r q => q = (iav r.1, [⟨true, Gimage_recall.cells r.2⟩])) (LM.call n_image_reader_word [.ptr 0 0] [⟨true, Gimage_recall.cells o0⟩]) := by
  unfold image_reader_word
  refine sim_evR M XE rfl rfl fun S hS hw hw8 R hR => ?_
  simp only [hw]
  refine au (cE hR (image_reader_byte_sim _) fun r0 => ?_)
  refine au (cE hR (image_reader_byte_sim _) fun r2 => ?_)
  exact au (.ret ⟨_, rfl, rfl⟩)
noncomputable def image_recall_numbers (o0 : Gimage_recall) (o2 : GMem) : Option (Gimage_recall × GMem) :=
  (image_reader_word o0).bind fun r0 =>
  (image_reader_word r0.2).bind fun r2 =>
  (image_reader_word r2.2).bind fun r3 =>
  (image_reader_byte r3.2).bind fun r4 =>
  (image_reader_byte r4.2).bind fun r5 =>
  (image_reader_byte r5.2).bind fun r6 =>
  some (r6.2, (GMem.mk r0.1 r2.1 r3.1 o2.Pipe r4.1 o2.Vec o2.Agreed r5.1 r6.1 o2.Members o2.Seen o2.Heard o2.Sent o2.Out o2.Line o2.Ports o2.Hold o2.Log o2.Diag))
theorem image_recall_numbers_sim (o0 : Gimage_recall) (o2 : GMem) (g0 : Gr) (hg0 : Mg 3 g0) (g2 : Gr) (hg2 : Mg 1 g2) (g3 : Gr) (hg3 : Mg 2 g3) : Sim (image_recall_numbers o0 o2) (Gv fun r q => ∃ g0, ∃ g1, ∃ g2, q = (.tup [], [⟨true, Gimage_recall.cells r.1⟩, ⟨true, [iav r.2.Clock, iav r.2.Anchor, iav r.2.Since, .str r.2.Pipe, iav r.2.Age, .str r.2.Vec, .str r.2.Agreed, iav r.2.Number, iav r.2.Regular, .str r.2.Members, .str r.2.Seen, .str r.2.Heard, .str r.2.Sent, .str r.2.Out, .str r.2.Line, .lst g0 (List.map GPort.av r.2.Ports), .lst g1 (List.map sav r.2.Hold), .lst g2 (List.map GEntry.av r.2.Log), iav r.2.Diag.a0, iav r.2.Diag.a1, iav r.2.Diag.a2, iav r.2.Diag.a3, iav r.2.Diag.a4, iav r.2.Diag.a5]⟩]) ∧ Mg 3 g0 ∧ Mg 1 g1 ∧ Mg 2 g2) (LM.call n_image_recall_numbers [.ptr 0 0, .ptr 1 0] [⟨true, Gimage_recall.cells o0⟩, ⟨true, [iav o2.Clock, iav o2.Anchor, iav o2.Since, .str o2.Pipe, iav o2.Age, .str o2.Vec, .str o2.Agreed, iav o2.Number, iav o2.Regular, .str o2.Members, .str o2.Seen, .str o2.Heard, .str o2.Sent, .str o2.Out, .str o2.Line, .lst g0 (List.map GPort.av o2.Ports), .lst g2 (List.map sav o2.Hold), .lst g3 (List.map GEntry.av o2.Log), iav o2.Diag.a0, iav o2.Diag.a1, iav o2.Diag.a2, iav o2.Diag.a3, iav o2.Diag.a4, iav o2.Diag.a5]⟩]) := by
  unfold image_recall_numbers
  refine sim_evR M XE rfl rfl fun S hS hw hw8 R hR => ?_
  refine au (cE hR (image_reader_word_sim _) fun r0 => ?_)
  refine au (cE hR (image_reader_word_sim _) fun r2 => ?_)
  refine au (cE hR (image_reader_word_sim _) fun r3 => ?_)
  refine au (cE hR (image_reader_byte_sim _) fun r4 => ?_)
  refine au (cE hR (image_reader_byte_sim _) fun r5 => ?_)
  refine au (cE hR (image_reader_byte_sim _) fun r6 => ?_)
  refine au ?_
  exact Sim.ret ⟨_, rfl, ⟨_, _, _, rfl, hg0, hg2, hg3⟩⟩
noncomputable def image_reader_raw_0_step (len : Nat) (x0 : Int) (x2 : Int) (x3 : List Int) (o2 : Gimage_recall) : Option ((Int × (List Int) × Gimage_recall) ⊕ ((List Int) × Gimage_recall)) :=
  if x2 < x0 then
    (image_reader_byte o2).bind fun r0 =>
    if 0 ≤ x2 ∧ x2 < ((len : Nat) : Int) then
      (mod? x3 (Int.toNat x2) (fun _ => (w8 r0.1))).bind fun l0 =>
      some (.inl ((wr (x2 + 1)), l0, r0.2))
    else none
  else
    some (.inr (x3, o2))
noncomputable def image_reader_raw_0 (len : Nat) (x0 : Int) (x2 : Int) (x3 : List Int) (o2 : Gimage_recall) : Option ((List Int) × Gimage_recall) :=
  loopO (fun s : Int × (List Int) × Gimage_recall => image_reader_raw_0_step len x0 s.1 s.2.1 s.2.2) (x2, x3, o2)
@[reducible] def image_reader_raw_0_st (len : Nat) (x0 : Int) (x2 : Int) (x3 : List Int) (o2 : Gimage_recall) : PF.St := ⟨[(0, .ptr 0 0), (5, .arr 108 0 len 1 false), (10, iav x0), (11, iav x2)], [(108, ⟨true, (List.map u8av x3)⟩), (0, ⟨true, Gimage_recall.cells o2⟩)]⟩
def image_reader_raw_0_rel (len : Nat) (x0 : Int) (r : ((List Int) × Gimage_recall)) (q : Ex × PF.St) : Prop := (fun r (q : Ex × PF.St) => q = ((.exit 0), ⟨[(5, .arr 108 0 len 1 false)], [(108, ⟨true, (List.map u8av r.1)⟩), (0, ⟨true, Gimage_recall.cells r.2⟩)]⟩)) r q
def image_reader_raw_0_inv (len : Nat) (x0 : Int) (v : Int × (List Int) × Gimage_recall) (e : PF.St) : Prop := e = image_reader_raw_0_st len x0 v.1 v.2.1 v.2.2
theorem image_reader_raw_0_sim (len : Nat) (x0 : Int) (x2 : Int) (x3 : List Int) (o2 : Gimage_recall) (s : PF.St) (hk : keep [0, 5, 10, 11] [108] s = some (image_reader_raw_0_st len x0 x2 x3 o2)) : Sim (image_reader_raw_0 len x0 x2 x3 o2) (Gv (image_reader_raw_0_rel len x0)) (LM.loop ([0, 5, 10, 11], [108], [5], B_image_reader_raw_0) s) := by
  refine sim_loop M XE (image_reader_raw_0_inv len x0) (image_reader_raw_0_rel len x0) ?_ _ _ _ hk rfl
  clear hk
  rintro S hS hw hw8 R hR ⟨x2, x3, o2⟩ env hp he
  change (⟨env, hp⟩ : PF.St) = image_reader_raw_0_st len x0 x2 x3 o2 at he
  cases he
  show Sim (image_reader_raw_0_step len x0 x2 x3 o2) _ _
  unfold image_reader_raw_0_step
  simp only [hw, hw8]
  refine au (.ite Iff.rfl (fun hc => ?_) fun hc => ?_)
  · refine au (cE hR (image_reader_byte_sim _) fun r0 => ?_)
    refine au ?_
    first | refine Sim.ite Iff.rfl (fun _ => ?_) (fun _ => Sim.no) | refine Sim.guard (fun _ => ?_)
    refine au ?_
    refine Sim.opt (store_map (u := (fun _ => (S.w8 r0.1))) (m := (Int.toNat x2)) (by omega) (fun _ => rfl)) (fun l0 _ => ?_)
    refine au ?_
    exact Sim.ret ⟨_, _, rfl, (keep_eq rfl rfl rfl (okH_flat (Flat.map (fun _ => rfl) _) (okH_cons rfl (okH_nil _)))), rfl⟩
  · refine au ?_
    refine Sim.go (keep_eq rfl rfl rfl (okH_flat (Flat.map (fun _ => rfl) _) (okH_cons rfl (okH_nil _)))) ?_
    exact au (.ret ⟨_, rfl, rfl⟩)
noncomputable def image_reader_raw (n0 : Int) (o0 : Gimage_recall) : Option ((List UInt8) × Gimage_recall) :=
  if 0 ≤ n0 ∧ n0 ≤ lenMax then
    (image_reader_raw_0 (Int.toNat n0) (((Int.toNat n0) : Nat) : Int) 0 (List.replicate (Int.toNat n0) 0) o0).bind fun r2 =>
    (sub? r2.1 0 (Int.toNat n0)).bind fun y0 =>
    some ((bytesOf y0), r2.2)
  else none
theorem image_reader_raw_sim (n0 : Int) (o0 : Gimage_recall) : Sim (image_reader_raw n0 o0) (Gv fun r q => q = (.str r.1, [⟨true, Gimage_recall.cells r.2⟩])) (LM.call n_image_reader_raw [.ptr 0 0, iav n0] [⟨true, Gimage_recall.cells o0⟩]) := by
  unfold image_reader_raw
  refine sim_evR M XE rfl rfl fun S hS hw hw8 R hR => ?_
  refine au ?_
  first | refine Sim.ite Iff.rfl (fun _ => ?_) (fun _ => Sim.no) | refine Sim.guard (fun _ => ?_)
  refine au ?_
  refine Sim.kl hS (rep_map (f := u8av) 0 _ rfl _) ?_
  refine au ?_
  refine Sim.callL hR (image_reader_raw_0_sim (Int.toNat n0) (((Int.toNat n0) : Nat) : Int) 0 (List.replicate (Int.toNat n0) 0) o0 _ (keep_eq rfl rfl rfl (okH_flat (Flat.map (fun _ => rfl) _) (okH_cons rfl (okH_nil _))))) ?_
  rintro r2 q rfl
  refine au ?_
  refine Sim.sub (f := u8av) rfl (fun y0 hy0 => ?_)
  refine au ?_
  refine Sim.go (by rw [hy0]; exact bytes_mapM _) ?_
  exact au (.ret ⟨_, rfl, rfl⟩)
noncomputable def image_reader_maybe (n0 : Int) (o0 : Gimage_recall) : Option ((List UInt8) × Gimage_recall) :=
  (image_reader_byte o0).bind fun r0 =>
  if (Int.tmod r0.1 2) = 0 then
    some (([] : List UInt8), r0.2)
  else
    (image_reader_raw n0 r0.2).bind fun r2 =>
    some (r2.1, r2.2)
theorem image_reader_maybe_sim (n0 : Int) (o0 : Gimage_recall) : Sim (image_reader_maybe n0 o0) (Gv fun r q => q = (.str r.1, [⟨true, Gimage_recall.cells r.2⟩])) (LM.call n_image_reader_maybe [.ptr 0 0, iav n0] [⟨true, Gimage_recall.cells o0⟩]) := by
  unfold image_reader_maybe
  refine sim_evR M XE rfl rfl fun S hS hw hw8 R hR => ?_
  refine au (cE hR (image_reader_byte_sim _) fun r0 => ?_)
  refine au (.ite Iff.rfl (fun hc => ?_) fun hc => ?_)
  · exact au (.ret ⟨_, rfl, rfl⟩)
  · refine au (cE hR (image_reader_raw_sim _ _) fun r2 => ?_)
    exact au (.ret ⟨_, rfl, rfl⟩)
noncomputable def image_reader_text (most : Int) (o0 : Gimage_recall) : Option ((List UInt8) × Gimage_recall) :=
  (image_reader_byte o0).bind fun r0 =>
  if (wr (most + 1)) = 0 then none else
  (image_reader_raw (Int.tmod r0.1 (wr (most + 1))) r0.2).bind fun r2 =>
  some (r2.1, r2.2)
theorem image_reader_text_sim (most : Int) (o0 : Gimage_recall) : Sim (image_reader_text most o0) (Gv fun r q => q = (.str r.1, [⟨true, Gimage_recall.cells r.2⟩])) (LM.call n_image_reader_text [.ptr 0 0, iav most] [⟨true, Gimage_recall.cells o0⟩]) := by
  unfold image_reader_text
  refine sim_evR M XE rfl rfl fun S hS hw hw8 R hR => ?_
  simp only [hw]
  refine au (cE hR (image_reader_byte_sim _) fun r0 => ?_)
  refine au ?_
  refine Sim.ite Iff.rfl (fun _ => Sim.no) (fun hc => ?_)
  refine au (cE hR (image_reader_raw_sim _ _) fun r2 => ?_)
  exact au (.ret ⟨_, rfl, rfl⟩)
noncomputable def image_recall_texts (o0 : Gimage_recall) (o2 : GMem) : Option (Gimage_recall × GMem) :=
  (conf_Length o0.f_c).bind fun r0 =>
  (image_reader_raw r0 o0).bind fun r2 =>
  (conf_Bits r2.2.f_c).bind fun r3 =>
  (image_reader_maybe r3 r2.2).bind fun r4 =>
  (conf_Bits r4.2.f_c).bind fun r5 =>
  (image_reader_maybe r5 r4.2).bind fun r6 =>
  (image_reader_raw r6.2.f_c.N r6.2).bind fun r7 =>
  (image_reader_raw r7.2.f_c.N r7.2).bind fun r8 =>
  (image_reader_raw (List.length r8.2.f_c.Table : Int) r8.2).bind fun r9 =>
  (image_reader_raw (List.length r9.2.f_c.Table : Int) r9.2).bind fun r10 =>
  (image_reader_text 16 r10.2).bind fun r11 =>
  (image_reader_text 16 r11.2).bind fun r12 =>
  some (r12.2, (GMem.mk o2.Clock o2.Anchor o2.Since r2.1 o2.Age r4.1 r6.1 o2.Number o2.Regular r7.1 r8.1 r9.1 r10.1 r11.1 r12.1 o2.Ports o2.Hold o2.Log o2.Diag))
theorem image_recall_texts_sim (o0 : Gimage_recall) (o2 : GMem) (g0 : Gr) (hg0 : Mg 3 g0) (g2 : Gr) (hg2 : Mg 1 g2) (g3 : Gr) (hg3 : Mg 2 g3) : Sim (image_recall_texts o0 o2) (Gv fun r q => ∃ g0, ∃ g1, ∃ g2, q = (.tup [], [⟨true, Gimage_recall.cells r.1⟩, ⟨true, [iav r.2.Clock, iav r.2.Anchor, iav r.2.Since, .str r.2.Pipe, iav r.2.Age, .str r.2.Vec, .str r.2.Agreed, iav r.2.Number, iav r.2.Regular, .str r.2.Members, .str r.2.Seen, .str r.2.Heard, .str r.2.Sent, .str r.2.Out, .str r.2.Line, .lst g0 (List.map GPort.av r.2.Ports), .lst g1 (List.map sav r.2.Hold), .lst g2 (List.map GEntry.av r.2.Log), iav r.2.Diag.a0, iav r.2.Diag.a1, iav r.2.Diag.a2, iav r.2.Diag.a3, iav r.2.Diag.a4, iav r.2.Diag.a5]⟩]) ∧ Mg 3 g0 ∧ Mg 1 g1 ∧ Mg 2 g2) (LM.call n_image_recall_texts [.ptr 0 0, .ptr 1 0] [⟨true, Gimage_recall.cells o0⟩, ⟨true, [iav o2.Clock, iav o2.Anchor, iav o2.Since, .str o2.Pipe, iav o2.Age, .str o2.Vec, .str o2.Agreed, iav o2.Number, iav o2.Regular, .str o2.Members, .str o2.Seen, .str o2.Heard, .str o2.Sent, .str o2.Out, .str o2.Line, .lst g0 (List.map GPort.av o2.Ports), .lst g2 (List.map sav o2.Hold), .lst g3 (List.map GEntry.av o2.Log), iav o2.Diag.a0, iav o2.Diag.a1, iav o2.Diag.a2, iav o2.Diag.a3, iav o2.Diag.a4, iav o2.Diag.a5]⟩]) := by
  unfold image_recall_texts
  refine sim_evR M XE rfl rfl fun S hS hw hw8 R hR => ?_
  refine au (cE hR (conf_Length_sim _) fun r0 => ?_)
  refine au (cE hR (image_reader_raw_sim _ _) fun r2 => ?_)
  refine au (cE hR (conf_Bits_sim _) fun r3 => ?_)
  refine au (cE hR (image_reader_maybe_sim _ _) fun r4 => ?_)
  refine au (cE hR (conf_Bits_sim _) fun r5 => ?_)
  refine au (cE hR (image_reader_maybe_sim _ _) fun r6 => ?_)
  refine au (cE hR (image_reader_raw_sim _ _) fun r7 => ?_)
  refine au (cE hR (image_reader_raw_sim _ _) fun r8 => ?_)
  refine au ?_
  refine Sim.ki hS (m := (List.length r8.2.f_c.Table : Int)) (by simp) ?_
  refine au (cE hR (image_reader_raw_sim _ _) fun r9 => ?_)
  refine au ?_
  refine Sim.ki hS (m := (List.length r9.2.f_c.Table : Int)) (by simp) ?_
  refine au (cE hR (image_reader_raw_sim _ _) fun r10 => ?_)
  refine au (cE hR (image_reader_text_sim _ _) fun r11 => ?_)
  refine au (cE hR (image_reader_text_sim _ _) fun r12 => ?_)
  refine au ?_
  exact Sim.ret ⟨_, rfl, ⟨_, _, _, rfl, hg0, hg2, hg3⟩⟩
noncomputable def image_recall_lists_0_step (x0 : Int) (x2 : Int) (o3 : Gimage_recall) (o4 : GMem) : Option ((Int × Gimage_recall × GMem) ⊕ (Gimage_recall × GMem)) :=
  if x2 < x0 then
    (image_reader_text 16 o3).bind fun r0 =>
    (image_reader_byte r0.2).bind fun r2 =>
    (image_reader_byte r2.2).bind fun r3 =>
    if List.length o4.Ports + List.length [(GPort.mk r0.1 r2.1 r3.1)] ≤ lenMax then
      some (.inl ((wr (x2 + 1)), r3.2, (GMem.mk o4.Clock o4.Anchor o4.Since o4.Pipe o4.Age o4.Vec o4.Agreed o4.Number o4.Regular o4.Members o4.Seen o4.Heard o4.Sent o4.Out o4.Line (o4.Ports ++ [(GPort.mk r0.1 r2.1 r3.1)]) o4.Hold o4.Log o4.Diag)))
    else none
  else
    some (.inr (o3, o4))
noncomputable def image_recall_lists_0 (x0 : Int) (x2 : Int) (o3 : Gimage_recall) (o4 : GMem) : Option (Gimage_recall × GMem) :=
  loopO (fun s : Int × Gimage_recall × GMem => image_recall_lists_0_step x0 s.1 s.2.1 s.2.2) (x2, o3, o4)
@[reducible] def image_recall_lists_0_st (x0 : Int) (x2 : Int) (o3 : Gimage_recall) (o4 : GMem) (g4 : Gr) (g5 : Gr) (g6 : Gr) : PF.St := ⟨[(0, .ptr 0 0), (1, .ptr 1 0), (12, iav x0), (13, iav x2)], [(0, ⟨true, Gimage_recall.cells o3⟩), (1, ⟨true, [iav o4.Clock, iav o4.Anchor, iav o4.Since, .str o4.Pipe, iav o4.Age, .str o4.Vec, .str o4.Agreed, iav o4.Number, iav o4.Regular, .str o4.Members, .str o4.Seen, .str o4.Heard, .str o4.Sent, .str o4.Out, .str o4.Line, .lst g4 (List.map GPort.av o4.Ports), .lst g5 (List.map sav o4.Hold), .lst g6 (List.map GEntry.av o4.Log), iav o4.Diag.a0, iav o4.Diag.a1, iav o4.Diag.a2, iav o4.Diag.a3, iav o4.Diag.a4, iav o4.Diag.a5]⟩)]⟩
def image_recall_lists_0_rel (x0 : Int) (r : (Gimage_recall × GMem)) (q : Ex × PF.St) : Prop := (fun r (q : Ex × PF.St) => ∃ g0', ∃ g1', ∃ g2', q = ((.exit 0), ⟨[(0, .ptr 0 0), (1, .ptr 1 0)], [(0, ⟨true, Gimage_recall.cells r.1⟩), (1, ⟨true, [iav r.2.Clock, iav r.2.Anchor, iav r.2.Since, .str r.2.Pipe, iav r.2.Age, .str r.2.Vec, .str r.2.Agreed, iav r.2.Number, iav r.2.Regular, .str r.2.Members, .str r.2.Seen, .str r.2.Heard, .str r.2.Sent, .str r.2.Out, .str r.2.Line, .lst g0' (List.map GPort.av r.2.Ports), .lst g1' (List.map sav r.2.Hold), .lst g2' (List.map GEntry.av r.2.Log), iav r.2.Diag.a0, iav r.2.Diag.a1, iav r.2.Diag.a2, iav r.2.Diag.a3, iav r.2.Diag.a4, iav r.2.Diag.a5]⟩)]⟩) ∧ Mg 3 g0' ∧ Mg 1 g1' ∧ Mg 2 g2') r q
def image_recall_lists_0_inv (x0 : Int) (v : Int × Gimage_recall × GMem) (e : PF.St) : Prop := ∃ g4, ∃ g5, ∃ g6, e = image_recall_lists_0_st x0 v.1 v.2.1 v.2.2 g4 g5 g6 ∧ Mg 3 g4 ∧ Mg 1 g5 ∧ Mg 2 g6
theorem image_recall_lists_0_sim (x0 : Int) (x2 : Int) (o3 : Gimage_recall) (o4 : GMem) (g4 : Gr) (hg4 : Mg 3 g4) (g5 : Gr) (hg5 : Mg 1 g5) (g6 : Gr) (hg6 : Mg 2 g6) (s : PF.St) (hk : keep [0, 1, 12, 13] [] s = some (image_recall_lists_0_st x0 x2 o3 o4 g4 g5 g6)) : Sim (image_recall_lists_0 x0 x2 o3 o4) (Gv (image_recall_lists_0_rel x0)) (LM.loop ([0, 1, 12, 13], [], [0, 1], B_image_recall_lists_0) s) := by
  refine sim_loop M XE (image_recall_lists_0_inv x0) (image_recall_lists_0_rel x0) ?_ _ _ _ hk ⟨g4, g5, g6, rfl, hg4, hg5, hg6⟩
  clear hk hg4 hg5 hg6
  rintro S hS hw hw8 R hR ⟨x2, o3, o4⟩ env hp ⟨g4, g5, g6, he, hg4, hg5, hg6⟩
  change (⟨env, hp⟩ : PF.St) = image_recall_lists_0_st x0 x2 o3 o4 g4 g5 g6 at he
  cases he
  show Sim (image_recall_lists_0_step x0 x2 o3 o4) _ _
  unfold image_recall_lists_0_step
  simp only [hw]
  refine au (.ite Iff.rfl (fun hc => ?_) fun hc => ?_)
  · refine au (cE hR (image_reader_text_sim _ _) fun r0 => ?_)
    refine au (cE hR (image_reader_byte_sim _) fun r2 => ?_)
    refine au (cE hR (image_reader_byte_sim _) fun r3 => ?_)
    refine au ?_
    refine Sim.kl hS (ys := List.map GPort.av [(GPort.mk r0.1 r2.1 r3.1)]) rfl ?_
    refine au ?_
    first | (refine Sim.goB (may_map (by intro _; rfl) hg4 _) ?_) | skip
    refine au ?_
    first | (refine Sim.goB (okE_map (by intro _; exact ⟨rfl, rfl, rfl⟩) _) ?_) | skip
    refine au ?_
    first | refine Sim.ite (by simp) (fun _ => ?_) (fun _ => Sim.no) | refine Sim.guard (fun _ => ?_)
    refine au ?_
    refine Sim.kl hS (ys := List.map GPort.av (o4.Ports ++ [(GPort.mk r0.1 r2.1 r3.1)])) (by simp) ?_
    refine au ?_
    exact Sim.ret ⟨_, _, rfl, rfl, ⟨_, _, _, rfl, Mg.own, hg5, hg6⟩⟩
  · refine au ?_
    exact Sim.ret ⟨_, rfl, ⟨_, _, _, rfl, hg4, hg5, hg6⟩⟩
noncomputable def image_recall_lists_1_step (x3 : Int) (x4 : Int) (o5 : Gimage_recall) (o6 : GMem) : Option ((Int × Gimage_recall × GMem) ⊕ (Gimage_recall × GMem)) :=
  if x4 < x3 then
    (image_reader_text 40 o5).bind fun r5 =>
    if List.length o6.Hold + List.length [r5.1] ≤ lenMax then
      some (.inl ((wr (x4 + 1)), r5.2, (GMem.mk o6.Clock o6.Anchor o6.Since o6.Pipe o6.Age o6.Vec o6.Agreed o6.Number o6.Regular o6.Members o6.Seen o6.Heard o6.Sent o6.Out o6.Line o6.Ports (o6.Hold ++ [r5.1]) o6.Log o6.Diag)))
    else none
  else
    some (.inr (o5, o6))
noncomputable def image_recall_lists_1 (x3 : Int) (x4 : Int) (o5 : Gimage_recall) (o6 : GMem) : Option (Gimage_recall × GMem) :=
  loopO (fun s : Int × Gimage_recall × GMem => image_recall_lists_1_step x3 s.1 s.2.1 s.2.2) (x4, o5, o6)
@[reducible] def image_recall_lists_1_st (x3 : Int) (x4 : Int) (o5 : Gimage_recall) (o6 : GMem) (g10 : Gr) (g11 : Gr) (g12 : Gr) : PF.St := ⟨[(0, .ptr 0 0), (1, .ptr 1 0), (51, iav x3), (52, iav x4)], [(0, ⟨true, Gimage_recall.cells o5⟩), (1, ⟨true, [iav o6.Clock, iav o6.Anchor, iav o6.Since, .str o6.Pipe, iav o6.Age, .str o6.Vec, .str o6.Agreed, iav o6.Number, iav o6.Regular, .str o6.Members, .str o6.Seen, .str o6.Heard, .str o6.Sent, .str o6.Out, .str o6.Line, .lst g10 (List.map GPort.av o6.Ports), .lst g11 (List.map sav o6.Hold), .lst g12 (List.map GEntry.av o6.Log), iav o6.Diag.a0, iav o6.Diag.a1, iav o6.Diag.a2, iav o6.Diag.a3, iav o6.Diag.a4, iav o6.Diag.a5]⟩)]⟩
def image_recall_lists_1_rel (x3 : Int) (r : (Gimage_recall × GMem)) (q : Ex × PF.St) : Prop := (fun r (q : Ex × PF.St) => ∃ g0', ∃ g1', ∃ g2', q = ((.exit 2), ⟨[(0, .ptr 0 0), (1, .ptr 1 0)], [(0, ⟨true, Gimage_recall.cells r.1⟩), (1, ⟨true, [iav r.2.Clock, iav r.2.Anchor, iav r.2.Since, .str r.2.Pipe, iav r.2.Age, .str r.2.Vec, .str r.2.Agreed, iav r.2.Number, iav r.2.Regular, .str r.2.Members, .str r.2.Seen, .str r.2.Heard, .str r.2.Sent, .str r.2.Out, .str r.2.Line, .lst g0' (List.map GPort.av r.2.Ports), .lst g1' (List.map sav r.2.Hold), .lst g2' (List.map GEntry.av r.2.Log), iav r.2.Diag.a0, iav r.2.Diag.a1, iav r.2.Diag.a2, iav r.2.Diag.a3, iav r.2.Diag.a4, iav r.2.Diag.a5]⟩)]⟩) ∧ Mg 3 g0' ∧ Mg 1 g1' ∧ Mg 2 g2') r q
def image_recall_lists_1_inv (x3 : Int) (v : Int × Gimage_recall × GMem) (e : PF.St) : Prop := ∃ g10, ∃ g11, ∃ g12, e = image_recall_lists_1_st x3 v.1 v.2.1 v.2.2 g10 g11 g12 ∧ Mg 3 g10 ∧ Mg 1 g11 ∧ Mg 2 g12
theorem image_recall_lists_1_sim (x3 : Int) (x4 : Int) (o5 : Gimage_recall) (o6 : GMem) (g10 : Gr) (hg10 : Mg 3 g10) (g11 : Gr) (hg11 : Mg 1 g11) (g12 : Gr) (hg12 : Mg 2 g12) (s : PF.St) (hk : keep [0, 1, 51, 52] [] s = some (image_recall_lists_1_st x3 x4 o5 o6 g10 g11 g12)) : Sim (image_recall_lists_1 x3 x4 o5 o6) (Gv (image_recall_lists_1_rel x3)) (LM.loop ([0, 1, 51, 52], [], [0, 1], B_image_recall_lists_1) s) := by
  refine sim_loop M XE (image_recall_lists_1_inv x3) (image_recall_lists_1_rel x3) ?_ _ _ _ hk ⟨g10, g11, g12, rfl, hg10, hg11, hg12⟩
  clear hk hg10 hg11 hg12
  rintro S hS hw hw8 R hR ⟨x4, o5, o6⟩ env hp ⟨g10, g11, g12, he, hg10, hg11, hg12⟩
  change (⟨env, hp⟩ : PF.St) = image_recall_lists_1_st x3 x4 o5 o6 g10 g11 g12 at he
  cases he
  show Sim (image_recall_lists_1_step x3 x4 o5 o6) _ _
  unfold image_recall_lists_1_step
  simp only [hw]
  refine au (.ite Iff.rfl (fun hc2 => ?_) fun hc2 => ?_)
  · refine au (cE hR (image_reader_text_sim _ _) fun r5 => ?_)
    refine au ?_
    refine Sim.kl hS (ys := List.map sav [r5.1]) rfl ?_
    refine au ?_
    first | (refine Sim.goB (may_map (by intro _; rfl) hg11 _) ?_) | skip
    refine au ?_
    first | (refine Sim.goB (okE_map (by intro _; exact ⟨rfl, rfl, rfl⟩) _) ?_) | skip
    refine au ?_
    first | refine Sim.ite (by simp) (fun _ => ?_) (fun _ => Sim.no) | refine Sim.guard (fun _ => ?_)
    refine au ?_
    refine Sim.kl hS (ys := List.map sav (o6.Hold ++ [r5.1])) (by simp) ?_
    refine au ?_
    exact Sim.ret ⟨_, _, rfl, rfl, ⟨_, _, _, rfl, hg10, Mg.own, hg12⟩⟩
  · refine au ?_
    exact Sim.ret ⟨_, rfl, ⟨_, _, _, rfl, hg10, hg11, hg12⟩⟩
noncomputable def image_recall_lists_2_step (x5 : Int) (x6 : Int) (o7 : Gimage_recall) (o8 : GMem) : Option ((Int × Gimage_recall × GMem) ⊕ (Gimage_recall × GMem)) :=
  if x6 < x5 then
    (image_reader_byte o7).bind fun r8 =>
    if o7.f_c.N = r8.2.f_c.N then
      if r8.2.f_c.N = 0 then none else
      (image_reader_word r8.2).bind fun r9 =>
      if List.length o8.Log + List.length [(GEntry.mk (Int.tmod r8.1 r8.2.f_c.N) r9.1)] ≤ lenMax then
        some (.inl ((wr (x6 + 1)), r9.2, (GMem.mk o8.Clock o8.Anchor o8.Since o8.Pipe o8.Age o8.Vec o8.Agreed o8.Number o8.Regular o8.Members o8.Seen o8.Heard o8.Sent o8.Out o8.Line o8.Ports o8.Hold (o8.Log ++ [(GEntry.mk (Int.tmod r8.1 r8.2.f_c.N) r9.1)]) o8.Diag)))
      else none
    else none
  else
    some (.inr (o7, o8))
noncomputable def image_recall_lists_2 (x5 : Int) (x6 : Int) (o7 : Gimage_recall) (o8 : GMem) : Option (Gimage_recall × GMem) :=
  loopO (fun s : Int × Gimage_recall × GMem => image_recall_lists_2_step x5 s.1 s.2.1 s.2.2) (x6, o7, o8)
@[reducible] def image_recall_lists_2_st (x5 : Int) (x6 : Int) (o7 : Gimage_recall) (o8 : GMem) (g16 : Gr) (g17 : Gr) (g18 : Gr) : PF.St := ⟨[(0, .ptr 0 0), (1, .ptr 1 0), (73, iav x5), (74, iav x6)], [(0, ⟨true, Gimage_recall.cells o7⟩), (1, ⟨true, [iav o8.Clock, iav o8.Anchor, iav o8.Since, .str o8.Pipe, iav o8.Age, .str o8.Vec, .str o8.Agreed, iav o8.Number, iav o8.Regular, .str o8.Members, .str o8.Seen, .str o8.Heard, .str o8.Sent, .str o8.Out, .str o8.Line, .lst g16 (List.map GPort.av o8.Ports), .lst g17 (List.map sav o8.Hold), .lst g18 (List.map GEntry.av o8.Log), iav o8.Diag.a0, iav o8.Diag.a1, iav o8.Diag.a2, iav o8.Diag.a3, iav o8.Diag.a4, iav o8.Diag.a5]⟩)]⟩
def image_recall_lists_2_rel (x5 : Int) (r : (Gimage_recall × GMem)) (q : Ex × PF.St) : Prop := (fun r (q : Ex × PF.St) => ∃ g0', ∃ g1', ∃ g2', q = ((.exit 4), ⟨[(0, .ptr 0 0), (1, .ptr 1 0)], [(0, ⟨true, Gimage_recall.cells r.1⟩), (1, ⟨true, [iav r.2.Clock, iav r.2.Anchor, iav r.2.Since, .str r.2.Pipe, iav r.2.Age, .str r.2.Vec, .str r.2.Agreed, iav r.2.Number, iav r.2.Regular, .str r.2.Members, .str r.2.Seen, .str r.2.Heard, .str r.2.Sent, .str r.2.Out, .str r.2.Line, .lst g0' (List.map GPort.av r.2.Ports), .lst g1' (List.map sav r.2.Hold), .lst g2' (List.map GEntry.av r.2.Log), iav r.2.Diag.a0, iav r.2.Diag.a1, iav r.2.Diag.a2, iav r.2.Diag.a3, iav r.2.Diag.a4, iav r.2.Diag.a5]⟩)]⟩) ∧ Mg 3 g0' ∧ Mg 1 g1' ∧ Mg 2 g2') r q
def image_recall_lists_2_inv (x5 : Int) (v : Int × Gimage_recall × GMem) (e : PF.St) : Prop := ∃ g16, ∃ g17, ∃ g18, e = image_recall_lists_2_st x5 v.1 v.2.1 v.2.2 g16 g17 g18 ∧ Mg 3 g16 ∧ Mg 1 g17 ∧ Mg 2 g18
theorem image_recall_lists_2_sim (x5 : Int) (x6 : Int) (o7 : Gimage_recall) (o8 : GMem) (g16 : Gr) (hg16 : Mg 3 g16) (g17 : Gr) (hg17 : Mg 1 g17) (g18 : Gr) (hg18 : Mg 2 g18) (s : PF.St) (hk : keep [0, 1, 73, 74] [] s = some (image_recall_lists_2_st x5 x6 o7 o8 g16 g17 g18)) : Sim (image_recall_lists_2 x5 x6 o7 o8) (Gv (image_recall_lists_2_rel x5)) (LM.loop ([0, 1, 73, 74], [], [0, 1], B_image_recall_lists_2) s) := by
  refine sim_loop M XE (image_recall_lists_2_inv x5) (image_recall_lists_2_rel x5) ?_ _ _ _ hk ⟨g16, g17, g18, rfl, hg16, hg17, hg18⟩
  clear hk hg16 hg17 hg18
  rintro S hS hw hw8 R hR ⟨x6, o7, o8⟩ env hp ⟨g16, g17, g18, he, hg16, hg17, hg18⟩
  change (⟨env, hp⟩ : PF.St) = image_recall_lists_2_st x5 x6 o7 o8 g16 g17 g18 at he
  cases he
  show Sim (image_recall_lists_2_step x5 x6 o7 o8) _ _
  unfold image_recall_lists_2_step
  simp only [hw]
  refine au (.ite Iff.rfl (fun hc3 => ?_) fun hc3 => ?_)
  · refine au (cE hR (image_reader_byte_sim _) fun r8 => ?_)
    refine au ?_
    first | refine Sim.ite Iff.rfl (fun _ => ?_) (fun _ => Sim.no) | refine Sim.guard (fun _ => ?_)
    refine au ?_
    refine Sim.ite Iff.rfl (fun _ => Sim.no) (fun hc4 => ?_)
    refine au (cE hR (image_reader_word_sim _) fun r9 => ?_)
    refine au ?_
    refine Sim.kl hS (ys := List.map GEntry.av [(GEntry.mk (Int.tmod r8.1 r8.2.f_c.N) r9.1)]) rfl ?_
    refine au ?_
    first | (refine Sim.goB (may_map (by intro _; rfl) hg18 _) ?_) | skip
    refine au ?_
    first | (refine Sim.goB (okE_map (by intro _; exact ⟨rfl, rfl, rfl⟩) _) ?_) | skip
    refine au ?_
    first | refine Sim.ite (by simp) (fun _ => ?_) (fun _ => Sim.no) | refine Sim.guard (fun _ => ?_)
    refine au ?_
    refine Sim.kl hS (ys := List.map GEntry.av (o8.Log ++ [(GEntry.mk (Int.tmod r8.1 r8.2.f_c.N) r9.1)])) (by simp) ?_
    refine au ?_
    exact Sim.ret ⟨_, _, rfl, rfl, ⟨_, _, _, rfl, hg16, hg17, Mg.own⟩⟩
  · refine au ?_
    exact Sim.ret ⟨_, rfl, ⟨_, _, _, rfl, hg16, hg17, hg18⟩⟩
noncomputable def image_recall_lists_3_step (x7 : Int) (o9 : Gimage_recall) (o10 : GMem) : Option ((Int × Gimage_recall × GMem) ⊕ (Gimage_recall × GMem)) :=
  if x7 < 6 then
    (image_reader_word o9).bind fun r11 =>
    if 0 ≤ x7 ∧ x7 < (6 : Nat) then
      (Ar6.set? o10.Diag (Int.toNat x7) r11.1).bind fun y0 =>
      some (.inl ((wr (x7 + 1)), r11.2, (GMem.mk o10.Clock o10.Anchor o10.Since o10.Pipe o10.Age o10.Vec o10.Agreed o10.Number o10.Regular o10.Members o10.Seen o10.Heard o10.Sent o10.Out o10.Line o10.Ports o10.Hold o10.Log y0)))
    else none
  else
    some (.inr (o9, o10))
noncomputable def image_recall_lists_3 (x7 : Int) (o9 : Gimage_recall) (o10 : GMem) : Option (Gimage_recall × GMem) :=
  loopO (fun s : Int × Gimage_recall × GMem => image_recall_lists_3_step s.1 s.2.1 s.2.2) (x7, o9, o10)
end Go.Proofs.Ytnbmaoendgafbaa
