/-
  The program's functions as plain functions (printed by a program of mine), each beside the machine's.
-/
import Derived.Test.YtnbmaoendgafbaaFm
import Derived.Test.YtnbmaoendgafbaaPFe
set_option linter.unusedVariables false
set_option linter.unusedSimpArgs false
set_option maxRecDepth 100000
set_option maxHeartbeats 4000000
namespace Go.Proofs.Ytnbmaoendgafbaa
open Go.Proofs.PF
noncomputable abbrev LM : MRec := lim M XE
structure Ar6 (α : Type) where
  a0 : α
  a1 : α
  a2 : α
  a3 : α
  a4 : α
  a5 : α
  deriving DecidableEq, Inhabited
@[reducible] def Ar6.cells {α : Type} (f : α → AV) (x : Ar6 α) : List AV := [f x.a0, f x.a1, f x.a2, f x.a3, f x.a4, f x.a5]
@[reducible] def Ar6.av {α : Type} (f : α → AV) (x : Ar6 α) : AV := .agg [f x.a0, f x.a1, f x.a2, f x.a3, f x.a4, f x.a5]
def Ar6.get? {α : Type} (x : Ar6 α) : Nat → Option α
  | 0 => some x.a0
  | 1 => some x.a1
  | 2 => some x.a2
  | 3 => some x.a3
  | 4 => some x.a4
  | 5 => some x.a5
  | _ => none
def Ar6.set? {α : Type} (x : Ar6 α) (k : Nat) (v : α) : Option (Ar6 α) :=
  match k with
  | 0 => some { x with a0 := v }
  | 1 => some { x with a1 := v }
  | 2 => some { x with a2 := v }
  | 3 => some { x with a3 := v }
  | 4 => some { x with a4 := v }
  | 5 => some { x with a5 := v }
  | _ => none
structure Ar9 (α : Type) where
  a0 : α
  a1 : α
  a2 : α
  a3 : α
  a4 : α
  a5 : α
  a6 : α
  a7 : α
  a8 : α
  deriving DecidableEq, Inhabited
@[reducible] def Ar9.cells {α : Type} (f : α → AV) (x : Ar9 α) : List AV := [f x.a0, f x.a1, f x.a2, f x.a3, f x.a4, f x.a5, f x.a6, f x.a7, f x.a8]
@[reducible] def Ar9.av {α : Type} (f : α → AV) (x : Ar9 α) : AV := .agg [f x.a0, f x.a1, f x.a2, f x.a3, f x.a4, f x.a5, f x.a6, f x.a7, f x.a8]
def Ar9.get? {α : Type} (x : Ar9 α) : Nat → Option α
  | 0 => some x.a0
  | 1 => some x.a1
  | 2 => some x.a2
  | 3 => some x.a3
  | 4 => some x.a4
  | 5 => some x.a5
  | 6 => some x.a6
  | 7 => some x.a7
  | 8 => some x.a8
  | _ => none
def Ar9.set? {α : Type} (x : Ar9 α) (k : Nat) (v : α) : Option (Ar9 α) :=
  match k with
  | 0 => some { x with a0 := v }
  | 1 => some { x with a1 := v }
  | 2 => some { x with a2 := v }
  | 3 => some { x with a3 := v }
  | 4 => some { x with a4 := v }
  | 5 => some { x with a5 := v }
  | 6 => some { x with a6 := v }
  | 7 => some { x with a7 := v }
  | 8 => some { x with a8 := v }
  | _ => none
structure Ar13 (α : Type) where
  a0 : α
  a1 : α
  a2 : α
  a3 : α
  a4 : α
  a5 : α
  a6 : α
  a7 : α
  a8 : α
  a9 : α
  a10 : α
  a11 : α
  a12 : α
  deriving DecidableEq, Inhabited
@[reducible] def Ar13.cells {α : Type} (f : α → AV) (x : Ar13 α) : List AV := [f x.a0, f x.a1, f x.a2, f x.a3, f x.a4, f x.a5, f x.a6, f x.a7, f x.a8, f x.a9, f x.a10, f x.a11, f x.a12]
@[reducible] def Ar13.av {α : Type} (f : α → AV) (x : Ar13 α) : AV := .agg [f x.a0, f x.a1, f x.a2, f x.a3, f x.a4, f x.a5, f x.a6, f x.a7, f x.a8, f x.a9, f x.a10, f x.a11, f x.a12]
def Ar13.get? {α : Type} (x : Ar13 α) : Nat → Option α
  | 0 => some x.a0
  | 1 => some x.a1
  | 2 => some x.a2
  | 3 => some x.a3
  | 4 => some x.a4
  | 5 => some x.a5
  | 6 => some x.a6
  | 7 => some x.a7
  | 8 => some x.a8
  | 9 => some x.a9
  | 10 => some x.a10
  | 11 => some x.a11
  | 12 => some x.a12
  | _ => none
def Ar13.set? {α : Type} (x : Ar13 α) (k : Nat) (v : α) : Option (Ar13 α) :=
  match k with
  | 0 => some { x with a0 := v }
  | 1 => some { x with a1 := v }
  | 2 => some { x with a2 := v }
  | 3 => some { x with a3 := v }
  | 4 => some { x with a4 := v }
  | 5 => some { x with a5 := v }
  | 6 => some { x with a6 := v }
  | 7 => some { x with a7 := v }
  | 8 => some { x with a8 := v }
  | 9 => some { x with a9 := v }
  | 10 => some { x with a10 := v }
  | 11 => some { x with a11 := v }
  | 12 => some { x with a12 := v }
  | _ => none
structure GPort where
  Text : List UInt8
  Cycle : Int
  Age : Int
  deriving DecidableEq, Inhabited
@[reducible] def GPort.cells (x : GPort) : List AV := [.str x.Text, .int .i64 x.Cycle, .int .i64 x.Age]
@[reducible] def GPort.av (x : GPort) : AV := .agg [.str x.Text, .int .i64 x.Cycle, .int .i64 x.Age]
structure GEntry where
  From : Int
  At : Int
  deriving DecidableEq, Inhabited
@[reducible] def GEntry.cells (x : GEntry) : List AV := [.int .i64 x.From, .int .i64 x.At]
@[reducible] def GEntry.av (x : GEntry) : AV := .agg [.int .i64 x.From, .int .i64 x.At]
structure GMem where
  Clock : Int
  Anchor : Int
  Since : Int
  Pipe : List UInt8
  Age : Int
  Vec : List UInt8
  Agreed : List UInt8
  Number : Int
  Regular : Int
  Members : List UInt8
  Seen : List UInt8
  Heard : List UInt8
  Sent : List UInt8
  Out : List UInt8
  Line : List UInt8
  Ports : List GPort
  Hold : List (List UInt8)
  Log : List GEntry
  Diag : Ar6 Int
  deriving DecidableEq, Inhabited
@[reducible] def GMem.cells (x : GMem) : List AV := [.int .i64 x.Clock, .int .i64 x.Anchor, .int .i64 x.Since, .str x.Pipe, .int .i64 x.Age, .str x.Vec, .str x.Agreed, .int .i64 x.Number, .int .i64 x.Regular, .str x.Members, .str x.Seen, .str x.Heard, .str x.Sent, .str x.Out, .str x.Line, .lst .no (List.map GPort.av x.Ports), .lst .no (List.map sav x.Hold), .lst .no (List.map GEntry.av x.Log), .int .i64 x.Diag.a0, .int .i64 x.Diag.a1, .int .i64 x.Diag.a2, .int .i64 x.Diag.a3, .int .i64 x.Diag.a4, .int .i64 x.Diag.a5]
@[reducible] def GMem.av (x : GMem) : AV := .agg [.int .i64 x.Clock, .int .i64 x.Anchor, .int .i64 x.Since, .str x.Pipe, .int .i64 x.Age, .str x.Vec, .str x.Agreed, .int .i64 x.Number, .int .i64 x.Regular, .str x.Members, .str x.Seen, .str x.Heard, .str x.Sent, .str x.Out, .str x.Line, .lst .no (List.map GPort.av x.Ports), .lst .no (List.map sav x.Hold), .lst .no (List.map GEntry.av x.Log), .int .i64 x.Diag.a0, .int .i64 x.Diag.a1, .int .i64 x.Diag.a2, .int .i64 x.Diag.a3, .int .i64 x.Diag.a4, .int .i64 x.Diag.a5]
structure Gconf_span where
  f_low : Int
  f_high : Int
  deriving DecidableEq, Inhabited
@[reducible] def Gconf_span.cells (x : Gconf_span) : List AV := [.int .i64 x.f_low, .int .i64 x.f_high]
@[reducible] def Gconf_span.av (x : Gconf_span) : AV := .agg [.int .i64 x.f_low, .int .i64 x.f_high]
structure GConf where
  N : Int
  F : Int
  D : Int
  Period : Int
  Rate : Int
  Drift : Int
  Offset : Int
  Slot : Int
  Mod : Int
  Fresh : Int
  Table : List Int
  deriving DecidableEq, Inhabited
@[reducible] def GConf.cells (x : GConf) : List AV := [.int .i64 x.N, .int .i64 x.F, .int .i64 x.D, .int .i64 x.Period, .int .i64 x.Rate, .int .i64 x.Drift, .int .i64 x.Offset, .int .i64 x.Slot, .int .i64 x.Mod, .int .i64 x.Fresh, .lst .no (List.map iav x.Table)]
@[reducible] def GConf.av (x : GConf) : AV := .agg [.int .i64 x.N, .int .i64 x.F, .int .i64 x.D, .int .i64 x.Period, .int .i64 x.Rate, .int .i64 x.Drift, .int .i64 x.Offset, .int .i64 x.Slot, .int .i64 x.Mod, .int .i64 x.Fresh, .lst .no (List.map iav x.Table)]
structure Gs111 where
  f_n : Int
  f_span : Gconf_span
  deriving DecidableEq, Inhabited
@[reducible] def Gs111.cells (x : Gs111) : List AV := [.int .i64 x.f_n, .int .i64 x.f_span.f_low, .int .i64 x.f_span.f_high]
@[reducible] def Gs111.av (x : Gs111) : AV := .agg [.int .i64 x.f_n, .int .i64 x.f_span.f_low, .int .i64 x.f_span.f_high]
noncomputable def slices_Clone_api_Port_api_Port (l : List GPort) : Option (List GPort) := if l.length ≤ lenMax then some l else none
theorem slices_Clone_api_Port_api_Port_sim (l : List GPort) (g : Gr) : Sim (slices_Clone_api_Port_api_Port l) (Gv fun r q => q = (AV.arr 0 0 (List.length r) 3 true, [(⟨true, (List.flatMap GPort.cells r)⟩ : PF.Obj)])) (LM.call n_slices_Clone_api_Port_api_Port [.lst g (List.map GPort.av l)] []) := by
  unfold slices_Clone_api_Port_api_Port
  refine Sim.guard fun h => ?_
  have h1 : (okElems 3 true (List.map GPort.av l) && Nat.ble (List.map GPort.av l).length lenMax) = true := by
    rw [okE_map (by intro _; exact ⟨rfl, rfl, rfl⟩)]; simpa using h
  have h2 : XE n_slices_Clone_api_Port_api_Port [.lst g (List.map GPort.av l)] = some (AV.arr 0 0 (List.map GPort.av l).length 3 true, [(⟨true, (List.map GPort.av l).flatMap AV.cells⟩ : PF.Obj)]) := by
    first
    | (show (if (okElems 3 true (List.map GPort.av l) && Nat.ble (List.map GPort.av l).length lenMax) = true then some (AV.arr 0 0 (List.map GPort.av l).length 3 true, [(⟨true, (List.map GPort.av l).flatMap AV.cells⟩ : PF.Obj)]) else none) = _; rw [h1]; rfl)
    | (show (match (if (okElems 3 true (List.map GPort.av l) && Nat.ble (List.map GPort.av l).length lenMax) = true then some (AV.arr 0 0 (List.map GPort.av l).length 3 true, [(⟨true, (List.map GPort.av l).flatMap AV.cells⟩ : PF.Obj)]) else none) with
      | some r => some r
      | none => _) = _; rw [h1]; rfl)
  refine Sim.ret ⟨(AV.arr 0 0 (List.map GPort.av l).length 3 true, [(⟨true, (List.map GPort.av l).flatMap AV.cells⟩ : PF.Obj)]), by rw [lim_ext_eq M XE rfl]; exact h2, ?_⟩
  show (AV.arr 0 0 (List.map GPort.av l).length 3 true, [(⟨true, (List.map GPort.av l).flatMap AV.cells⟩ : PF.Obj)]) = (AV.arr 0 0 (List.length l) 3 true, [(⟨true, (List.flatMap GPort.cells l)⟩ : PF.Obj)])
  have h3 : (List.map GPort.av l).flatMap AV.cells = (List.flatMap GPort.cells l) := app_fm (f := GPort.cells) (g := GPort.av) (by intro _; rfl) [] l
  rw [h3, List.length_map]
noncomputable def slices_Clone_string_string (l : List (List UInt8)) : Option (List (List UInt8)) := if l.length ≤ lenMax then some l else none
theorem slices_Clone_string_string_sim (l : List (List UInt8)) (g : Gr) : Sim (slices_Clone_string_string l) (Gv fun r q => q = (AV.arr 0 0 (List.length r) 1 false, [(⟨true, (List.map sav r)⟩ : PF.Obj)])) (LM.call n_slices_Clone_string_string [.lst g (List.map sav l)] []) := by
  unfold slices_Clone_string_string
  refine Sim.guard fun h => ?_
  have h1 : (okElems 1 false (List.map sav l) && Nat.ble (List.map sav l).length lenMax) = true := by
    rw [okE_map (by intro _; exact ⟨rfl, rfl, rfl⟩)]; simpa using h
  have h2 : XE n_slices_Clone_string_string [.lst g (List.map sav l)] = some (AV.arr 0 0 (List.map sav l).length 1 false, [(⟨true, (List.map sav l).flatMap AV.cells⟩ : PF.Obj)]) := by
    first
    | (show (if (okElems 1 false (List.map sav l) && Nat.ble (List.map sav l).length lenMax) = true then some (AV.arr 0 0 (List.map sav l).length 1 false, [(⟨true, (List.map sav l).flatMap AV.cells⟩ : PF.Obj)]) else none) = _; rw [h1]; rfl)
    | (show (match (if (okElems 1 false (List.map sav l) && Nat.ble (List.map sav l).length lenMax) = true then some (AV.arr 0 0 (List.map sav l).length 1 false, [(⟨true, (List.map sav l).flatMap AV.cells⟩ : PF.Obj)]) else none) with
      | some r => some r
      | none => _) = _; rw [h1]; rfl)
  refine Sim.ret ⟨(AV.arr 0 0 (List.map sav l).length 1 false, [(⟨true, (List.map sav l).flatMap AV.cells⟩ : PF.Obj)]), by rw [lim_ext_eq M XE rfl]; exact h2, ?_⟩
  show (AV.arr 0 0 (List.map sav l).length 1 false, [(⟨true, (List.map sav l).flatMap AV.cells⟩ : PF.Obj)]) = (AV.arr 0 0 (List.length l) 1 false, [(⟨true, (List.map sav l)⟩ : PF.Obj)])
  have h3 : (List.map sav l).flatMap AV.cells = (List.map sav l) := app_map (f := sav) (by intro _; rfl) [] l
  rw [h3, List.length_map]
noncomputable def slices_Clone_api_Entry_api_Entry (l : List GEntry) : Option (List GEntry) := if l.length ≤ lenMax then some l else none
theorem slices_Clone_api_Entry_api_Entry_sim (l : List GEntry) (g : Gr) : Sim (slices_Clone_api_Entry_api_Entry l) (Gv fun r q => q = (AV.lst .no (List.map GEntry.av r), ([] : List PF.Obj))) (LM.call n_slices_Clone_api_Entry_api_Entry [.lst g (List.map GEntry.av l)] []) := by
  unfold slices_Clone_api_Entry_api_Entry
  refine Sim.guard fun h => ?_
  have h1 : (okElems 2 true (List.map GEntry.av l) && Nat.ble (List.map GEntry.av l).length lenMax) = true := by
    rw [okE_map (by intro _; exact ⟨rfl, rfl, rfl⟩)]; simpa using h
  have h2 : XE n_slices_Clone_api_Entry_api_Entry [.lst g (List.map GEntry.av l)] = some (AV.lst .no (List.map GEntry.av l), ([] : List PF.Obj)) := by
    first
    | (show (if (okElems 2 true (List.map GEntry.av l) && Nat.ble (List.map GEntry.av l).length lenMax) = true then some (AV.lst .no (List.map GEntry.av l), ([] : List PF.Obj)) else none) = _; rw [h1]; rfl)
    | (show (match (if (okElems 2 true (List.map GEntry.av l) && Nat.ble (List.map GEntry.av l).length lenMax) = true then some (AV.lst .no (List.map GEntry.av l), ([] : List PF.Obj)) else none) with
      | some r => some r
      | none => _) = _; rw [h1]; rfl)
  refine Sim.ret ⟨(AV.lst .no (List.map GEntry.av l), ([] : List PF.Obj)), by rw [lim_ext_eq M XE rfl]; exact h2, ?_⟩
  show (AV.lst .no (List.map GEntry.av l), ([] : List PF.Obj)) = (AV.lst .no (List.map GEntry.av l), ([] : List PF.Obj))
  rfl
noncomputable def strings_Repeat (s : List UInt8) (c : Int) : Option (List UInt8) := if 0 ≤ c ∧ c ≤ 9223372036854775807 ∧ s.length * c.toNat ≤ 140737488355328 then some (Lib.repeatL s c.toNat) else none
theorem strings_Repeat_sim (s : List UInt8) (c : Int) : Sim (strings_Repeat s c) (Gv fun r q => q = (.str r, [])) (LM.call n_strings_Repeat [.str s, .int .i64 c] []) := by
  unfold strings_Repeat
  refine Sim.guard fun h => Sim.ret ⟨(.str (Lib.repeatL s c.toNat), []), ?_, rfl⟩
  rw [lim_ext_eq M XE rfl]
  show (if 0 ≤ c ∧ c ≤ 9223372036854775807 ∧ s.length * c.toNat ≤ 140737488355328 then some (AV.str (Lib.repeatL s c.toNat), ([] : List PF.Obj)) else none) = _
  rw [if_pos h]
noncomputable def r28_Few_0_step (i0 : GMem) (t0 : Int) (x0 : Int) : Option ((Int × Int) ⊕ Int) :=
  if x0 < (List.length i0.Hold : Int) then
    if t0 < 10000 then
      (idx? i0.Hold x0).bind fun z0 =>
      some (.inl ((wr ((wr (t0 + 1)) + (min (List.length z0 : Int) 10000))), (wr (x0 + 1))))
    else
      some (.inr t0)
  else
    some (.inr t0)
noncomputable def r28_Few_0 (i0 : GMem) (t0 : Int) (x0 : Int) : Option Int :=
  loopO (fun s : Int × Int => r28_Few_0_step i0 s.1 s.2) (t0, x0)
def r28_Few_0_rel (i0 : GMem) (r : Int) (q : Ex × PF.St) : Prop := (fun r (q : Ex × PF.St) => q = ((.exit 0), ⟨[(1, .ptr 101 0), (3, .int .i64 r)], [(101, ⟨true, [.int .i64 i0.Clock, .int .i64 i0.Anchor, .int .i64 i0.Since, .str i0.Pipe, .int .i64 i0.Age, .str i0.Vec, .str i0.Agreed, .int .i64 i0.Number, .int .i64 i0.Regular, .str i0.Members, .str i0.Seen, .str i0.Heard, .str i0.Sent, .str i0.Out, .str i0.Line, .lst .no (List.map GPort.av i0.Ports), .lst .no (List.map sav i0.Hold), .lst .no (List.map GEntry.av i0.Log), .int .i64 i0.Diag.a0, .int .i64 i0.Diag.a1, .int .i64 i0.Diag.a2, .int .i64 i0.Diag.a3, .int .i64 i0.Diag.a4, .int .i64 i0.Diag.a5]⟩)]⟩)) r q
def r28_Few_0_inv (i0 : GMem) (v : Int × Int) (e : PF.St) : Prop := e = ⟨[(1, .ptr 101 0), (3, .int .i64 v.1), (4, .int .i64 v.2)], [(101, ⟨true, [.int .i64 i0.Clock, .int .i64 i0.Anchor, .int .i64 i0.Since, .str i0.Pipe, .int .i64 i0.Age, .str i0.Vec, .str i0.Agreed, .int .i64 i0.Number, .int .i64 i0.Regular, .str i0.Members, .str i0.Seen, .str i0.Heard, .str i0.Sent, .str i0.Out, .str i0.Line, .lst .no (List.map GPort.av i0.Ports), .lst .no (List.map sav i0.Hold), .lst .no (List.map GEntry.av i0.Log), .int .i64 i0.Diag.a0, .int .i64 i0.Diag.a1, .int .i64 i0.Diag.a2, .int .i64 i0.Diag.a3, .int .i64 i0.Diag.a4, .int .i64 i0.Diag.a5]⟩)]⟩
theorem r28_Few_0_sim (i0 : GMem) (t0 : Int) (x0 : Int) (s : PF.St) (hk : keep [1, 3, 4] [101] s = some ⟨[(1, .ptr 101 0), (3, .int .i64 t0), (4, .int .i64 x0)], [(101, ⟨true, [.int .i64 i0.Clock, .int .i64 i0.Anchor, .int .i64 i0.Since, .str i0.Pipe, .int .i64 i0.Age, .str i0.Vec, .str i0.Agreed, .int .i64 i0.Number, .int .i64 i0.Regular, .str i0.Members, .str i0.Seen, .str i0.Heard, .str i0.Sent, .str i0.Out, .str i0.Line, .lst .no (List.map GPort.av i0.Ports), .lst .no (List.map sav i0.Hold), .lst .no (List.map GEntry.av i0.Log), .int .i64 i0.Diag.a0, .int .i64 i0.Diag.a1, .int .i64 i0.Diag.a2, .int .i64 i0.Diag.a3, .int .i64 i0.Diag.a4, .int .i64 i0.Diag.a5]⟩)]⟩) : Sim (r28_Few_0 i0 t0 x0) (Gv (r28_Few_0_rel i0)) (LM.loop ([1, 3, 4], [101], [1, 3], B_r28_Few_0) s) := by
  refine sim_loop M XE (r28_Few_0_inv i0) (r28_Few_0_rel i0) ?_ _ _ _ hk rfl
  clear hk
  rintro S hS hw hw8 R hR ⟨t0, x0⟩ env hp he
  change (⟨env, hp⟩ : PF.St) = ⟨[(1, .ptr 101 0), (3, .int .i64 t0), (4, .int .i64 x0)], [(101, ⟨true, [.int .i64 i0.Clock, .int .i64 i0.Anchor, .int .i64 i0.Since, .str i0.Pipe, .int .i64 i0.Age, .str i0.Vec, .str i0.Agreed, .int .i64 i0.Number, .int .i64 i0.Regular, .str i0.Members, .str i0.Seen, .str i0.Heard, .str i0.Sent, .str i0.Out, .str i0.Line, .lst .no (List.map GPort.av i0.Ports), .lst .no (List.map sav i0.Hold), .lst .no (List.map GEntry.av i0.Log), .int .i64 i0.Diag.a0, .int .i64 i0.Diag.a1, .int .i64 i0.Diag.a2, .int .i64 i0.Diag.a3, .int .i64 i0.Diag.a4, .int .i64 i0.Diag.a5]⟩)]⟩ at he
  cases he
  show Sim (r28_Few_0_step i0 t0 x0) _ _
  unfold r28_Few_0_step
  simp only [hw]
  conv => arg 3; whnf
  refine Sim.ki hS (m := (List.length i0.Hold : Int)) (by simp) ?_
  conv => arg 3; whnf
  refine Sim.ite Iff.rfl (fun hc => ?_) (fun hc => ?_)
  · conv => arg 3; whnf
    refine Sim.goB (decide_eq_true hc) ?_
    conv => arg 3; whnf
    refine Sim.goB (decide_eq_true hc) ?_
    conv => arg 3; whnf
    refine Sim.ite Iff.rfl (fun hc2 => ?_) (fun hc2 => ?_)
    · conv => arg 3; whnf
      refine Sim.ix (by simp) (fun z0 hz0 => ?_)
      conv => arg 3; whnf
      refine Sim.go (idx_map _ hz0) ?_
      conv => arg 3; whnf
      exact Sim.ret ⟨_, _, rfl, rfl, rfl⟩
    · conv => arg 3; whnf
      exact Sim.ret ⟨_, rfl, rfl⟩
  · conv => arg 3; whnf
    refine Sim.goF (decide_eq_false hc) ?_
    conv => arg 3; whnf
    refine Sim.goF (decide_eq_false hc) ?_
    conv => arg 3; whnf
    exact Sim.ret ⟨_, rfl, rfl⟩
noncomputable def r28_Few_1_step (i2 : GMem) (t2 : Int) (t3 : Int) : Option ((Int × Int) ⊕ Int) :=
  if t3 < (List.length i2.Ports : Int) then
    if t2 < 10000 then
      (idx? i2.Ports t3).bind fun z2 =>
      some (.inl ((wr ((wr (t2 + 1)) + (min (List.length z2.Text : Int) 10000))), (wr (t3 + 1))))
    else
      some (.inr t2)
  else
    some (.inr t2)
noncomputable def r28_Few_1 (i2 : GMem) (t2 : Int) (t3 : Int) : Option Int :=
  loopO (fun s : Int × Int => r28_Few_1_step i2 s.1 s.2) (t2, t3)
def r28_Few_1_rel (i2 : GMem) (r : Int) (q : Ex × PF.St) : Prop := (fun r (q : Ex × PF.St) => q = ((.exit 2), ⟨[(1, .ptr 101 0), (3, .int .i64 r)], [(101, ⟨true, [.int .i64 i2.Clock, .int .i64 i2.Anchor, .int .i64 i2.Since, .str i2.Pipe, .int .i64 i2.Age, .str i2.Vec, .str i2.Agreed, .int .i64 i2.Number, .int .i64 i2.Regular, .str i2.Members, .str i2.Seen, .str i2.Heard, .str i2.Sent, .str i2.Out, .str i2.Line, .lst .no (List.map GPort.av i2.Ports), .lst .no (List.map sav i2.Hold), .lst .no (List.map GEntry.av i2.Log), .int .i64 i2.Diag.a0, .int .i64 i2.Diag.a1, .int .i64 i2.Diag.a2, .int .i64 i2.Diag.a3, .int .i64 i2.Diag.a4, .int .i64 i2.Diag.a5]⟩)]⟩)) r q
def r28_Few_1_inv (i2 : GMem) (v : Int × Int) (e : PF.St) : Prop := e = ⟨[(1, .ptr 101 0), (3, .int .i64 v.1), (5, .int .i64 v.2)], [(101, ⟨true, [.int .i64 i2.Clock, .int .i64 i2.Anchor, .int .i64 i2.Since, .str i2.Pipe, .int .i64 i2.Age, .str i2.Vec, .str i2.Agreed, .int .i64 i2.Number, .int .i64 i2.Regular, .str i2.Members, .str i2.Seen, .str i2.Heard, .str i2.Sent, .str i2.Out, .str i2.Line, .lst .no (List.map GPort.av i2.Ports), .lst .no (List.map sav i2.Hold), .lst .no (List.map GEntry.av i2.Log), .int .i64 i2.Diag.a0, .int .i64 i2.Diag.a1, .int .i64 i2.Diag.a2, .int .i64 i2.Diag.a3, .int .i64 i2.Diag.a4, .int .i64 i2.Diag.a5]⟩)]⟩
theorem r28_Few_1_sim (i2 : GMem) (t2 : Int) (t3 : Int) (s : PF.St) (hk : keep [1, 3, 5] [101] s = some ⟨[(1, .ptr 101 0), (3, .int .i64 t2), (5, .int .i64 t3)], [(101, ⟨true, [.int .i64 i2.Clock, .int .i64 i2.Anchor, .int .i64 i2.Since, .str i2.Pipe, .int .i64 i2.Age, .str i2.Vec, .str i2.Agreed, .int .i64 i2.Number, .int .i64 i2.Regular, .str i2.Members, .str i2.Seen, .str i2.Heard, .str i2.Sent, .str i2.Out, .str i2.Line, .lst .no (List.map GPort.av i2.Ports), .lst .no (List.map sav i2.Hold), .lst .no (List.map GEntry.av i2.Log), .int .i64 i2.Diag.a0, .int .i64 i2.Diag.a1, .int .i64 i2.Diag.a2, .int .i64 i2.Diag.a3, .int .i64 i2.Diag.a4, .int .i64 i2.Diag.a5]⟩)]⟩) : Sim (r28_Few_1 i2 t2 t3) (Gv (r28_Few_1_rel i2)) (LM.loop ([1, 3, 5], [101], [1, 3], B_r28_Few_1) s) := by
  refine sim_loop M XE (r28_Few_1_inv i2) (r28_Few_1_rel i2) ?_ _ _ _ hk rfl
  clear hk
  rintro S hS hw hw8 R hR ⟨t2, t3⟩ env hp he
  change (⟨env, hp⟩ : PF.St) = ⟨[(1, .ptr 101 0), (3, .int .i64 t2), (5, .int .i64 t3)], [(101, ⟨true, [.int .i64 i2.Clock, .int .i64 i2.Anchor, .int .i64 i2.Since, .str i2.Pipe, .int .i64 i2.Age, .str i2.Vec, .str i2.Agreed, .int .i64 i2.Number, .int .i64 i2.Regular, .str i2.Members, .str i2.Seen, .str i2.Heard, .str i2.Sent, .str i2.Out, .str i2.Line, .lst .no (List.map GPort.av i2.Ports), .lst .no (List.map sav i2.Hold), .lst .no (List.map GEntry.av i2.Log), .int .i64 i2.Diag.a0, .int .i64 i2.Diag.a1, .int .i64 i2.Diag.a2, .int .i64 i2.Diag.a3, .int .i64 i2.Diag.a4, .int .i64 i2.Diag.a5]⟩)]⟩ at he
  cases he
  show Sim (r28_Few_1_step i2 t2 t3) _ _
  unfold r28_Few_1_step
  simp only [hw]
  conv => arg 3; whnf
  refine Sim.ki hS (m := (List.length i2.Ports : Int)) (by simp) ?_
  conv => arg 3; whnf
  refine Sim.ite Iff.rfl (fun hc3 => ?_) (fun hc3 => ?_)
  · conv => arg 3; whnf
    refine Sim.goB (decide_eq_true hc3) ?_
    conv => arg 3; whnf
    refine Sim.goB (decide_eq_true hc3) ?_
    conv => arg 3; whnf
    refine Sim.ite Iff.rfl (fun hc4 => ?_) (fun hc4 => ?_)
    · conv => arg 3; whnf
      refine Sim.ix (by simp) (fun z2 hz2 => ?_)
      conv => arg 3; whnf
      refine Sim.go (idx_map _ hz2) ?_
      conv => arg 3; whnf
      exact Sim.ret ⟨_, _, rfl, rfl, rfl⟩
    · conv => arg 3; whnf
      exact Sim.ret ⟨_, rfl, rfl⟩
  · conv => arg 3; whnf
    refine Sim.goF (decide_eq_false hc3) ?_
    conv => arg 3; whnf
    refine Sim.goF (decide_eq_false hc3) ?_
    conv => arg 3; whnf
    exact Sim.ret ⟨_, rfl, rfl⟩
noncomputable def r28_Few_2_step (x2 : List (List UInt8)) (x3 : Int) (i3 : GMem) (t4 : Int) (x4 : Int) : Option ((Int × Int) ⊕ Int) :=
  if x4 < x3 then
    (idx? x2 x4).bind fun z3 =>
    some (.inl ((wr (t4 + (min (List.length z3 : Int) 10000))), (wr (x4 + 1))))
  else
    some (.inr t4)
noncomputable def r28_Few_2 (x2 : List (List UInt8)) (x3 : Int) (i3 : GMem) (t4 : Int) (x4 : Int) : Option Int :=
  loopO (fun s : Int × Int => r28_Few_2_step x2 x3 i3 s.1 s.2) (t4, x4)
def r28_Few_2_rel (x2 : List (List UInt8)) (x3 : Int) (i3 : GMem) (r : Int) (q : Ex × PF.St) : Prop := (fun r (q : Ex × PF.St) => q = ((.exit 4), ⟨[(1, .ptr 101 0), (3, .int .i64 r)], [(101, ⟨true, [.int .i64 i3.Clock, .int .i64 i3.Anchor, .int .i64 i3.Since, .str i3.Pipe, .int .i64 i3.Age, .str i3.Vec, .str i3.Agreed, .int .i64 i3.Number, .int .i64 i3.Regular, .str i3.Members, .str i3.Seen, .str i3.Heard, .str i3.Sent, .str i3.Out, .str i3.Line, .lst .no (List.map GPort.av i3.Ports), .lst .no (List.map sav i3.Hold), .lst .no (List.map GEntry.av i3.Log), .int .i64 i3.Diag.a0, .int .i64 i3.Diag.a1, .int .i64 i3.Diag.a2, .int .i64 i3.Diag.a3, .int .i64 i3.Diag.a4, .int .i64 i3.Diag.a5]⟩)]⟩)) r q
def r28_Few_2_inv (x2 : List (List UInt8)) (x3 : Int) (i3 : GMem) (v : Int × Int) (e : PF.St) : Prop := ∃ g0, e = ⟨[(1, .ptr 101 0), (3, .int .i64 v.1), (69, .lst g0 (List.map sav x2)), (70, .int .i64 x3), (71, .int .i64 v.2)], [(101, ⟨true, [.int .i64 i3.Clock, .int .i64 i3.Anchor, .int .i64 i3.Since, .str i3.Pipe, .int .i64 i3.Age, .str i3.Vec, .str i3.Agreed, .int .i64 i3.Number, .int .i64 i3.Regular, .str i3.Members, .str i3.Seen, .str i3.Heard, .str i3.Sent, .str i3.Out, .str i3.Line, .lst .no (List.map GPort.av i3.Ports), .lst .no (List.map sav i3.Hold), .lst .no (List.map GEntry.av i3.Log), .int .i64 i3.Diag.a0, .int .i64 i3.Diag.a1, .int .i64 i3.Diag.a2, .int .i64 i3.Diag.a3, .int .i64 i3.Diag.a4, .int .i64 i3.Diag.a5]⟩)]⟩ ∧ Mg 1 g0
theorem r28_Few_2_sim (x2 : List (List UInt8)) (x3 : Int) (i3 : GMem) (t4 : Int) (x4 : Int) (g0 : Gr) (hg0 : Mg 1 g0) (s : PF.St) (hk : keep [1, 3, 69, 70, 71] [101] s = some ⟨[(1, .ptr 101 0), (3, .int .i64 t4), (69, .lst g0 (List.map sav x2)), (70, .int .i64 x3), (71, .int .i64 x4)], [(101, ⟨true, [.int .i64 i3.Clock, .int .i64 i3.Anchor, .int .i64 i3.Since, .str i3.Pipe, .int .i64 i3.Age, .str i3.Vec, .str i3.Agreed, .int .i64 i3.Number, .int .i64 i3.Regular, .str i3.Members, .str i3.Seen, .str i3.Heard, .str i3.Sent, .str i3.Out, .str i3.Line, .lst .no (List.map GPort.av i3.Ports), .lst .no (List.map sav i3.Hold), .lst .no (List.map GEntry.av i3.Log), .int .i64 i3.Diag.a0, .int .i64 i3.Diag.a1, .int .i64 i3.Diag.a2, .int .i64 i3.Diag.a3, .int .i64 i3.Diag.a4, .int .i64 i3.Diag.a5]⟩)]⟩) : Sim (r28_Few_2 x2 x3 i3 t4 x4) (Gv (r28_Few_2_rel x2 x3 i3)) (LM.loop ([1, 3, 69, 70, 71], [101], [1, 3], B_r28_Few_2) s) := by
  refine sim_loop M XE (r28_Few_2_inv x2 x3 i3) (r28_Few_2_rel x2 x3 i3) ?_ _ _ _ hk ⟨g0, rfl, hg0⟩
  clear hk hg0
  rintro S hS hw hw8 R hR ⟨t4, x4⟩ env hp ⟨g0, he, hg0⟩
  change (⟨env, hp⟩ : PF.St) = ⟨[(1, .ptr 101 0), (3, .int .i64 t4), (69, .lst g0 (List.map sav x2)), (70, .int .i64 x3), (71, .int .i64 x4)], [(101, ⟨true, [.int .i64 i3.Clock, .int .i64 i3.Anchor, .int .i64 i3.Since, .str i3.Pipe, .int .i64 i3.Age, .str i3.Vec, .str i3.Agreed, .int .i64 i3.Number, .int .i64 i3.Regular, .str i3.Members, .str i3.Seen, .str i3.Heard, .str i3.Sent, .str i3.Out, .str i3.Line, .lst .no (List.map GPort.av i3.Ports), .lst .no (List.map sav i3.Hold), .lst .no (List.map GEntry.av i3.Log), .int .i64 i3.Diag.a0, .int .i64 i3.Diag.a1, .int .i64 i3.Diag.a2, .int .i64 i3.Diag.a3, .int .i64 i3.Diag.a4, .int .i64 i3.Diag.a5]⟩)]⟩ at he
  cases he
  show Sim (r28_Few_2_step x2 x3 i3 t4 x4) _ _
  unfold r28_Few_2_step
  simp only [hw]
  conv => arg 3; whnf
  refine Sim.ite Iff.rfl (fun hc5 => ?_) (fun hc5 => ?_)
  · conv => arg 3; whnf
    refine Sim.ix (by simp) (fun z3 hz3 => ?_)
    conv => arg 3; whnf
    refine Sim.go (idx_map _ hz3) ?_
    conv => arg 3; whnf
    exact Sim.ret ⟨_, _, rfl, rfl, ⟨_, rfl, hg0⟩⟩
  · conv => arg 3; whnf
    exact Sim.ret ⟨_, rfl, rfl⟩
noncomputable def r28_Few (L0 : GMem) : Option Bool :=
  (r28_Few_0 L0 0 0).bind fun r0 =>
  (r28_Few_1 L0 r0 0).bind fun r2 =>
  (r28_Few_2 [L0.Pipe, L0.Vec, L0.Agreed, L0.Members, L0.Seen, L0.Heard, L0.Sent, L0.Out, L0.Line] (List.length [L0.Pipe, L0.Vec, L0.Agreed, L0.Members, L0.Seen, L0.Heard, L0.Sent, L0.Out, L0.Line] : Int) L0 r2 0).bind fun r3 =>
  if r3 < 10000 then
    some (decide ((List.length L0.Log : Int) < 1000))
  else
    some false
theorem r28_Few_sim (L0 : GMem) : Sim (r28_Few L0) (Gv fun r q => q = (.bool r, [])) (LM.call n_r28_Few [.agg [.int .i64 L0.Clock, .int .i64 L0.Anchor, .int .i64 L0.Since, .str L0.Pipe, .int .i64 L0.Age, .str L0.Vec, .str L0.Agreed, .int .i64 L0.Number, .int .i64 L0.Regular, .str L0.Members, .str L0.Seen, .str L0.Heard, .str L0.Sent, .str L0.Out, .str L0.Line, .lst .no (List.map GPort.av L0.Ports), .lst .no (List.map sav L0.Hold), .lst .no (List.map GEntry.av L0.Log), .int .i64 L0.Diag.a0, .int .i64 L0.Diag.a1, .int .i64 L0.Diag.a2, .int .i64 L0.Diag.a3, .int .i64 L0.Diag.a4, .int .i64 L0.Diag.a5]] []) := by
  unfold r28_Few
  refine sim_evR M XE rfl rfl fun S hS hw hw8 R hR => ?_
  conv => arg 3; whnf
  refine Sim.callL hR (r28_Few_0_sim L0 0 0 _ rfl) ?_
  rintro r0 q rfl
  conv => arg 3; whnf
  refine Sim.callL hR (r28_Few_1_sim L0 r0 0 _ rfl) ?_
  rintro r2 q rfl
  conv => arg 3; whnf
  refine Sim.kl hS (ys := List.map sav [L0.Pipe, L0.Vec, L0.Agreed, L0.Members, L0.Seen, L0.Heard, L0.Sent, L0.Out, L0.Line]) rfl ?_
  conv => arg 3; whnf
  refine Sim.ki hS (m := (List.length [L0.Pipe, L0.Vec, L0.Agreed, L0.Members, L0.Seen, L0.Heard, L0.Sent, L0.Out, L0.Line] : Int)) (by simp) ?_
  conv => arg 3; whnf
  refine Sim.callL hR (r28_Few_2_sim [L0.Pipe, L0.Vec, L0.Agreed, L0.Members, L0.Seen, L0.Heard, L0.Sent, L0.Out, L0.Line] (List.length [L0.Pipe, L0.Vec, L0.Agreed, L0.Members, L0.Seen, L0.Heard, L0.Sent, L0.Out, L0.Line] : Int) L0 r2 0 .full Mg.full _ rfl) ?_
  rintro r3 q rfl
  conv => arg 3; whnf
  refine Sim.ite Iff.rfl (fun hc6 => ?_) (fun hc6 => ?_)
  · conv => arg 3; whnf
    refine Sim.goB (decide_eq_true hc6) ?_
    conv => arg 3; whnf
    refine Sim.goB (decide_eq_true hc6) ?_
    conv => arg 3; whnf
    refine Sim.ki hS (m := (List.length L0.Log : Int)) (by simp) ?_
    conv => arg 3; whnf
    refine Sim.goB (decide_eq_true hc6) ?_
    conv => arg 3; whnf
    refine Sim.goB (decide_eq_true hc6) ?_
    conv => arg 3; whnf
    exact Sim.ret ⟨_, rfl, rfl⟩
  · conv => arg 3; whnf
    refine Sim.goF (decide_eq_false hc6) ?_
    conv => arg 3; whnf
    refine Sim.goF (decide_eq_false hc6) ?_
    conv => arg 3; whnf
    refine Sim.goF (decide_eq_false hc6) ?_
    conv => arg 3; whnf
    refine Sim.goF (decide_eq_false hc6) ?_
    conv => arg 3; whnf
    exact Sim.ret ⟨_, rfl, rfl⟩
noncomputable def conf_span_has (s0 : Gconf_span) (n0 : Int) : Option Bool :=
  if s0.f_low ≤ n0 then
    some (decide (n0 ≤ s0.f_high))
  else
    some false
theorem conf_span_has_sim (s0 : Gconf_span) (n0 : Int) : Sim (conf_span_has s0 n0) (Gv fun r q => q = (.bool r, [])) (LM.call n_conf_span_has [.agg [.int .i64 s0.f_low, .int .i64 s0.f_high], .int .i64 n0] []) := by
  unfold conf_span_has
  refine sim_evR M XE rfl rfl fun S hS hw hw8 R hR => ?_
  conv => arg 3; whnf
  refine Sim.ite Iff.rfl (fun hc => ?_) (fun hc => ?_)
  · conv => arg 3; whnf
    refine Sim.goB (decide_eq_true hc) ?_
    conv => arg 3; whnf
    refine Sim.goB (decide_eq_true hc) ?_
    conv => arg 3; whnf
    refine Sim.goB (decide_eq_true hc) ?_
    conv => arg 3; whnf
    refine Sim.goB (decide_eq_true hc) ?_
    conv => arg 3; whnf
    exact Sim.ret ⟨_, rfl, rfl⟩
  · conv => arg 3; whnf
    refine Sim.goF (decide_eq_false hc) ?_
    conv => arg 3; whnf
    refine Sim.goF (decide_eq_false hc) ?_
    conv => arg 3; whnf
    refine Sim.goF (decide_eq_false hc) ?_
    conv => arg 3; whnf
    refine Sim.goF (decide_eq_false hc) ?_
    conv => arg 3; whnf
    exact Sim.ret ⟨_, rfl, rfl⟩
noncomputable def conf_nodes (c0 : GConf) : Option Bool :=
  (conf_span_has (Gconf_span.mk 4 13) c0.N).bind fun r0 =>
  if r0 = true then
    (conf_span_has (Gconf_span.mk 0 4) c0.F).bind fun r2 =>
    if r2 = true then
      some (decide ((wr (3 * c0.F)) < c0.N))
    else
      some false
  else
    some false
theorem conf_nodes_sim (c0 : GConf) : Sim (conf_nodes c0) (Gv fun r q => q = (.bool r, [])) (LM.call n_conf_nodes [.agg [.int .i64 c0.N, .int .i64 c0.F, .int .i64 c0.D, .int .i64 c0.Period, .int .i64 c0.Rate, .int .i64 c0.Drift, .int .i64 c0.Offset, .int .i64 c0.Slot, .int .i64 c0.Mod, .int .i64 c0.Fresh, .lst .no (List.map iav c0.Table)]] []) := by
  unfold conf_nodes
  refine sim_evR M XE rfl rfl fun S hS hw hw8 R hR => ?_
  simp only [hw]
  conv => arg 3; whnf
  refine Sim.callR hR (conf_span_has_sim (Gconf_span.mk 4 13) c0.N) ?_
  rintro r0 q rfl
  conv => arg 3; whnf
  refine Sim.iteB (fun hc => ?_) (fun hc => ?_)
  · conv => arg 3; whnf
    refine Sim.goB hc ?_
    conv => arg 3; whnf
    refine Sim.goB hc ?_
    conv => arg 3; whnf
    refine Sim.goB hc ?_
    conv => arg 3; whnf
    refine Sim.callR hR (conf_span_has_sim (Gconf_span.mk 0 4) c0.F) ?_
    rintro r2 q rfl
    conv => arg 3; whnf
    refine Sim.goB hc ?_
    conv => arg 3; whnf
    refine Sim.iteB (fun hc2 => ?_) (fun hc2 => ?_)
    · conv => arg 3; whnf
      refine Sim.goB hc2 ?_
      conv => arg 3; whnf
      refine Sim.goB hc2 ?_
      conv => arg 3; whnf
      refine Sim.goB hc2 ?_
      conv => arg 3; whnf
      refine Sim.goB hc2 ?_
      conv => arg 3; whnf
      refine Sim.goB hc2 ?_
      conv => arg 3; whnf
      refine Sim.goB hc2 ?_
      conv => arg 3; whnf
      exact Sim.ret ⟨_, rfl, rfl⟩
    · conv => arg 3; whnf
      refine Sim.goF hc2 ?_
      conv => arg 3; whnf
      refine Sim.goF hc2 ?_
      conv => arg 3; whnf
      refine Sim.goF hc2 ?_
      conv => arg 3; whnf
      refine Sim.goF hc2 ?_
      conv => arg 3; whnf
      refine Sim.goF hc2 ?_
      conv => arg 3; whnf
      refine Sim.goF hc2 ?_
      conv => arg 3; whnf
      exact Sim.ret ⟨_, rfl, rfl⟩
  · conv => arg 3; whnf
    refine Sim.goF hc ?_
    conv => arg 3; whnf
    refine Sim.goF hc ?_
    conv => arg 3; whnf
    refine Sim.goF hc ?_
    conv => arg 3; whnf
    refine Sim.goF hc ?_
    conv => arg 3; whnf
    exact Sim.ret ⟨_, rfl, rfl⟩
noncomputable def conf_numbers_0_step (x0 : List Gs111) (x2 : Int) (c2 : GConf) (x3 : Int) : Option ((Int) ⊕ ((Bool) ⊕ (Unit))) :=
  if x3 < x2 then
    (idx? x0 x3).bind fun z0 =>
    (conf_span_has z0.f_span z0.f_n).bind fun r0 =>
    if (!r0) = true then
      some (.inr (.inl false))
    else
      some (.inl (wr (x3 + 1)))
  else
    some (.inr (.inr ()))
noncomputable def conf_numbers_0 (x0 : List Gs111) (x2 : Int) (c2 : GConf) (x3 : Int) : Option ((Bool) ⊕ (Unit)) :=
  loopO (fun s : Int => conf_numbers_0_step x0 x2 c2 s) x3
def conf_numbers_0_rel (x0 : List Gs111) (x2 : Int) (c2 : GConf) (r : ((Bool) ⊕ (Unit))) (q : Ex × PF.St) : Prop := (fun r (q : Ex × PF.St) => Sum.elim (fun r => (fun r (q : Ex × PF.St) => q = (Ex.ret, ⟨[(2, .bool r)], [(101, ⟨true, [.int .i64 c2.N, .int .i64 c2.F, .int .i64 c2.D, .int .i64 c2.Period, .int .i64 c2.Rate, .int .i64 c2.Drift, .int .i64 c2.Offset, .int .i64 c2.Slot, .int .i64 c2.Mod, .int .i64 c2.Fresh, .lst .no (List.map iav c2.Table)]⟩)]⟩)) r q) (fun r => (fun r (q : Ex × PF.St) => q = ((.exit 0), ⟨[(2, .undef)], [(101, ⟨true, [.int .i64 c2.N, .int .i64 c2.F, .int .i64 c2.D, .int .i64 c2.Period, .int .i64 c2.Rate, .int .i64 c2.Drift, .int .i64 c2.Offset, .int .i64 c2.Slot, .int .i64 c2.Mod, .int .i64 c2.Fresh, .lst .no (List.map iav c2.Table)]⟩)]⟩)) r q) r) r q
def conf_numbers_0_inv (x0 : List Gs111) (x2 : Int) (c2 : GConf) (v : Int) (e : PF.St) : Prop := ∃ g0, e = ⟨[(44, .lst g0 (List.map Gs111.av x0)), (45, .int .i64 x2), (46, .int .i64 v)], [(101, ⟨true, [.int .i64 c2.N, .int .i64 c2.F, .int .i64 c2.D, .int .i64 c2.Period, .int .i64 c2.Rate, .int .i64 c2.Drift, .int .i64 c2.Offset, .int .i64 c2.Slot, .int .i64 c2.Mod, .int .i64 c2.Fresh, .lst .no (List.map iav c2.Table)]⟩)]⟩ ∧ Mg 3 g0
theorem conf_numbers_0_sim (x0 : List Gs111) (x2 : Int) (c2 : GConf) (x3 : Int) (g0 : Gr) (hg0 : Mg 3 g0) (s : PF.St) (hk : keep [44, 45, 46] [101] s = some ⟨[(44, .lst g0 (List.map Gs111.av x0)), (45, .int .i64 x2), (46, .int .i64 x3)], [(101, ⟨true, [.int .i64 c2.N, .int .i64 c2.F, .int .i64 c2.D, .int .i64 c2.Period, .int .i64 c2.Rate, .int .i64 c2.Drift, .int .i64 c2.Offset, .int .i64 c2.Slot, .int .i64 c2.Mod, .int .i64 c2.Fresh, .lst .no (List.map iav c2.Table)]⟩)]⟩) : Sim (conf_numbers_0 x0 x2 c2 x3) (Gv (conf_numbers_0_rel x0 x2 c2)) (LM.loop ([44, 45, 46], [101], [2], B_conf_numbers_0) s) := by
  refine sim_loop M XE (conf_numbers_0_inv x0 x2 c2) (conf_numbers_0_rel x0 x2 c2) ?_ _ _ _ hk ⟨g0, rfl, hg0⟩
  clear hk hg0
  rintro S hS hw hw8 R hR x3 env hp ⟨g0, he, hg0⟩
  change (⟨env, hp⟩ : PF.St) = ⟨[(44, .lst g0 (List.map Gs111.av x0)), (45, .int .i64 x2), (46, .int .i64 x3)], [(101, ⟨true, [.int .i64 c2.N, .int .i64 c2.F, .int .i64 c2.D, .int .i64 c2.Period, .int .i64 c2.Rate, .int .i64 c2.Drift, .int .i64 c2.Offset, .int .i64 c2.Slot, .int .i64 c2.Mod, .int .i64 c2.Fresh, .lst .no (List.map iav c2.Table)]⟩)]⟩ at he
  cases he
  show Sim (conf_numbers_0_step x0 x2 c2 x3) _ _
  unfold conf_numbers_0_step
  simp only [hw]
  conv => arg 3; whnf
  refine Sim.ite Iff.rfl (fun hc => ?_) (fun hc => ?_)
  · conv => arg 3; whnf
    refine Sim.ix (by simp) (fun z0 hz0 => ?_)
    conv => arg 3; whnf
    refine Sim.go (idx_map _ hz0) ?_
    conv => arg 3; whnf
    refine Sim.callR hR (conf_span_has_sim z0.f_span z0.f_n) ?_
    rintro r0 q rfl
    conv => arg 3; whnf
    refine Sim.iteB (fun hc2 => ?_) (fun hc2 => ?_)
    · conv => arg 3; whnf
      exact Sim.ret ⟨_, rfl, rfl⟩
    · conv => arg 3; whnf
      exact Sim.ret ⟨_, _, rfl, rfl, ⟨_, rfl, hg0⟩⟩
  · conv => arg 3; whnf
    exact Sim.ret ⟨_, rfl, rfl⟩
noncomputable def conf_numbers (c0 : GConf) : Option Bool :=
  (conf_numbers_0 [(Gs111.mk c0.Period (Gconf_span.mk (wr ((wr ((wr (6 * (wr (c0.F + 1)))) * c0.D)) + 1)) 400)), (Gs111.mk c0.Rate (Gconf_span.mk 1 64)), (Gs111.mk c0.Drift (Gconf_span.mk 0 (wr (c0.Rate - 1)))), (Gs111.mk c0.Offset (Gconf_span.mk 0 30000)), (Gs111.mk c0.Slot (Gconf_span.mk 1 30000)), (Gs111.mk c0.Mod (Gconf_span.mk 2 250)), (Gs111.mk c0.Fresh (Gconf_span.mk 1 100))] (List.length [(Gs111.mk c0.Period (Gconf_span.mk (wr ((wr ((wr (6 * (wr (c0.F + 1)))) * c0.D)) + 1)) 400)), (Gs111.mk c0.Rate (Gconf_span.mk 1 64)), (Gs111.mk c0.Drift (Gconf_span.mk 0 (wr (c0.Rate - 1)))), (Gs111.mk c0.Offset (Gconf_span.mk 0 30000)), (Gs111.mk c0.Slot (Gconf_span.mk 1 30000)), (Gs111.mk c0.Mod (Gconf_span.mk 2 250)), (Gs111.mk c0.Fresh (Gconf_span.mk 1 100))] : Int) c0 0).bind fun r2 =>
  Sum.elim
    (fun r3 =>
      some r3)
    (fun r4 =>
      some true)
    r2
theorem conf_numbers_sim (c0 : GConf) : Sim (conf_numbers c0) (Gv fun r q => q = (.bool r, [])) (LM.call n_conf_numbers [.agg [.int .i64 c0.N, .int .i64 c0.F, .int .i64 c0.D, .int .i64 c0.Period, .int .i64 c0.Rate, .int .i64 c0.Drift, .int .i64 c0.Offset, .int .i64 c0.Slot, .int .i64 c0.Mod, .int .i64 c0.Fresh, .lst .no (List.map iav c0.Table)]] []) := by
  unfold conf_numbers
  refine sim_evR M XE rfl rfl fun S hS hw hw8 R hR => ?_
  simp only [hw]
  conv => arg 3; whnf
  refine Sim.kl hS (ys := List.map Gs111.av [(Gs111.mk c0.Period (Gconf_span.mk (S.wr ((S.wr ((S.wr (6 * (S.wr (c0.F + 1)))) * c0.D)) + 1)) 400)), (Gs111.mk c0.Rate (Gconf_span.mk 1 64)), (Gs111.mk c0.Drift (Gconf_span.mk 0 (S.wr (c0.Rate - 1)))), (Gs111.mk c0.Offset (Gconf_span.mk 0 30000)), (Gs111.mk c0.Slot (Gconf_span.mk 1 30000)), (Gs111.mk c0.Mod (Gconf_span.mk 2 250)), (Gs111.mk c0.Fresh (Gconf_span.mk 1 100))]) rfl ?_
  conv => arg 3; whnf
  refine Sim.ki hS (m := (List.length [(Gs111.mk c0.Period (Gconf_span.mk (S.wr ((S.wr ((S.wr (6 * (S.wr (c0.F + 1)))) * c0.D)) + 1)) 400)), (Gs111.mk c0.Rate (Gconf_span.mk 1 64)), (Gs111.mk c0.Drift (Gconf_span.mk 0 (S.wr (c0.Rate - 1)))), (Gs111.mk c0.Offset (Gconf_span.mk 0 30000)), (Gs111.mk c0.Slot (Gconf_span.mk 1 30000)), (Gs111.mk c0.Mod (Gconf_span.mk 2 250)), (Gs111.mk c0.Fresh (Gconf_span.mk 1 100))] : Int)) (by simp) ?_
  conv => arg 3; whnf
  refine Sim.callL hR (conf_numbers_0_sim [(Gs111.mk c0.Period (Gconf_span.mk (S.wr ((S.wr ((S.wr (6 * (S.wr (c0.F + 1)))) * c0.D)) + 1)) 400)), (Gs111.mk c0.Rate (Gconf_span.mk 1 64)), (Gs111.mk c0.Drift (Gconf_span.mk 0 (S.wr (c0.Rate - 1)))), (Gs111.mk c0.Offset (Gconf_span.mk 0 30000)), (Gs111.mk c0.Slot (Gconf_span.mk 1 30000)), (Gs111.mk c0.Mod (Gconf_span.mk 2 250)), (Gs111.mk c0.Fresh (Gconf_span.mk 1 100))] (List.length [(Gs111.mk c0.Period (Gconf_span.mk (S.wr ((S.wr ((S.wr (6 * (S.wr (c0.F + 1)))) * c0.D)) + 1)) 400)), (Gs111.mk c0.Rate (Gconf_span.mk 1 64)), (Gs111.mk c0.Drift (Gconf_span.mk 0 (S.wr (c0.Rate - 1)))), (Gs111.mk c0.Offset (Gconf_span.mk 0 30000)), (Gs111.mk c0.Slot (Gconf_span.mk 1 30000)), (Gs111.mk c0.Mod (Gconf_span.mk 2 250)), (Gs111.mk c0.Fresh (Gconf_span.mk 1 100))] : Int) c0 0 .full Mg.full _ rfl) ?_
  rintro r2 q hr
  rcases r2 with r3 | r4
  · cases hr
    conv => arg 3; whnf
    exact Sim.ret ⟨_, rfl, rfl⟩
  · cases hr
    conv => arg 3; whnf
    exact Sim.ret ⟨_, rfl, rfl⟩
noncomputable def conf_table_0_step (x0 : List Int) (x2 : Int) (slots : Gconf_span) (c2 : GConf) (x3 : Int) (owns : Ar13 Int) : Option ((Int × (Ar13 Int)) ⊕ ((Bool × (Ar13 Int)) ⊕ ((Ar13 Int)))) :=
  if x3 < x2 then
    (idx? x0 x3).bind fun z0 =>
    if z0 < 0 then
      some (.inr (.inl (false, owns)))
    else
      if c2.N ≤ z0 then
        some (.inr (.inl (false, owns)))
      else
        if 0 ≤ z0 ∧ z0 < (13 : Nat) then
          (Ar13.get? (Ar13.mk owns.a0 owns.a1 owns.a2 owns.a3 owns.a4 owns.a5 owns.a6 owns.a7 owns.a8 owns.a9 owns.a10 owns.a11 owns.a12) (Int.toNat z0)).bind fun z2 =>
          if 0 ≤ z0 ∧ z0 < (13 : Nat) then
            (Ar13.set? owns (Int.toNat z0) (wr (z2 + 1))).bind fun y0 =>
            some (.inl ((wr (x3 + 1)), y0))
          else none
        else none
  else
    some (.inr (.inr owns))
noncomputable def conf_table_0 (x0 : List Int) (x2 : Int) (slots : Gconf_span) (c2 : GConf) (x3 : Int) (owns : Ar13 Int) : Option ((Bool × (Ar13 Int)) ⊕ ((Ar13 Int))) :=
  loopO (fun s : Int × (Ar13 Int) => conf_table_0_step x0 x2 slots c2 s.1 s.2) (x3, owns)
def conf_table_0_rel (x0 : List Int) (x2 : Int) (slots : Gconf_span) (c2 : GConf) (r : ((Bool × (Ar13 Int)) ⊕ ((Ar13 Int)))) (q : Ex × PF.St) : Prop := (fun r (q : Ex × PF.St) => Sum.elim (fun r => (fun r (q : Ex × PF.St) => q = (Ex.ret, ⟨[(1, .ptr 101 0), (2, .bool r.1), (4, .ptr 104 0)], [(104, ⟨true, [.int .i64 r.2.a0, .int .i64 r.2.a1, .int .i64 r.2.a2, .int .i64 r.2.a3, .int .i64 r.2.a4, .int .i64 r.2.a5, .int .i64 r.2.a6, .int .i64 r.2.a7, .int .i64 r.2.a8, .int .i64 r.2.a9, .int .i64 r.2.a10, .int .i64 r.2.a11, .int .i64 r.2.a12]⟩), (103, ⟨true, [.int .i64 slots.f_low, .int .i64 slots.f_high]⟩), (101, ⟨true, [.int .i64 c2.N, .int .i64 c2.F, .int .i64 c2.D, .int .i64 c2.Period, .int .i64 c2.Rate, .int .i64 c2.Drift, .int .i64 c2.Offset, .int .i64 c2.Slot, .int .i64 c2.Mod, .int .i64 c2.Fresh, .lst .no (List.map iav c2.Table)]⟩)]⟩)) r q) (fun r => (fun r (q : Ex × PF.St) => q = ((.exit 0), ⟨[(1, .ptr 101 0), (2, .undef), (4, .ptr 104 0)], [(104, ⟨true, [.int .i64 r.a0, .int .i64 r.a1, .int .i64 r.a2, .int .i64 r.a3, .int .i64 r.a4, .int .i64 r.a5, .int .i64 r.a6, .int .i64 r.a7, .int .i64 r.a8, .int .i64 r.a9, .int .i64 r.a10, .int .i64 r.a11, .int .i64 r.a12]⟩), (103, ⟨true, [.int .i64 slots.f_low, .int .i64 slots.f_high]⟩), (101, ⟨true, [.int .i64 c2.N, .int .i64 c2.F, .int .i64 c2.D, .int .i64 c2.Period, .int .i64 c2.Rate, .int .i64 c2.Drift, .int .i64 c2.Offset, .int .i64 c2.Slot, .int .i64 c2.Mod, .int .i64 c2.Fresh, .lst .no (List.map iav c2.Table)]⟩)]⟩)) r q) r) r q
def conf_table_0_inv (x0 : List Int) (x2 : Int) (slots : Gconf_span) (c2 : GConf) (v : Int × (Ar13 Int)) (e : PF.St) : Prop := e = ⟨[(1, .ptr 101 0), (4, .ptr 104 0), (17, .lst .no (List.map iav x0)), (18, .int .i64 x2), (19, .int .i64 v.1)], [(104, ⟨true, [.int .i64 v.2.a0, .int .i64 v.2.a1, .int .i64 v.2.a2, .int .i64 v.2.a3, .int .i64 v.2.a4, .int .i64 v.2.a5, .int .i64 v.2.a6, .int .i64 v.2.a7, .int .i64 v.2.a8, .int .i64 v.2.a9, .int .i64 v.2.a10, .int .i64 v.2.a11, .int .i64 v.2.a12]⟩), (103, ⟨true, [.int .i64 slots.f_low, .int .i64 slots.f_high]⟩), (101, ⟨true, [.int .i64 c2.N, .int .i64 c2.F, .int .i64 c2.D, .int .i64 c2.Period, .int .i64 c2.Rate, .int .i64 c2.Drift, .int .i64 c2.Offset, .int .i64 c2.Slot, .int .i64 c2.Mod, .int .i64 c2.Fresh, .lst .no (List.map iav c2.Table)]⟩)]⟩
theorem conf_table_0_sim (x0 : List Int) (x2 : Int) (slots : Gconf_span) (c2 : GConf) (x3 : Int) (owns : Ar13 Int) (s : PF.St) (hk : keep [1, 4, 17, 18, 19] [101, 103, 104] s = some ⟨[(1, .ptr 101 0), (4, .ptr 104 0), (17, .lst .no (List.map iav x0)), (18, .int .i64 x2), (19, .int .i64 x3)], [(104, ⟨true, [.int .i64 owns.a0, .int .i64 owns.a1, .int .i64 owns.a2, .int .i64 owns.a3, .int .i64 owns.a4, .int .i64 owns.a5, .int .i64 owns.a6, .int .i64 owns.a7, .int .i64 owns.a8, .int .i64 owns.a9, .int .i64 owns.a10, .int .i64 owns.a11, .int .i64 owns.a12]⟩), (103, ⟨true, [.int .i64 slots.f_low, .int .i64 slots.f_high]⟩), (101, ⟨true, [.int .i64 c2.N, .int .i64 c2.F, .int .i64 c2.D, .int .i64 c2.Period, .int .i64 c2.Rate, .int .i64 c2.Drift, .int .i64 c2.Offset, .int .i64 c2.Slot, .int .i64 c2.Mod, .int .i64 c2.Fresh, .lst .no (List.map iav c2.Table)]⟩)]⟩) : Sim (conf_table_0 x0 x2 slots c2 x3 owns) (Gv (conf_table_0_rel x0 x2 slots c2)) (LM.loop ([1, 4, 17, 18, 19], [101, 103, 104], [1, 2, 4], B_conf_table_0) s) := by
  refine sim_loop M XE (conf_table_0_inv x0 x2 slots c2) (conf_table_0_rel x0 x2 slots c2) ?_ _ _ _ hk rfl
  clear hk
  rintro S hS hw hw8 R hR ⟨x3, owns⟩ env hp he
  change (⟨env, hp⟩ : PF.St) = ⟨[(1, .ptr 101 0), (4, .ptr 104 0), (17, .lst .no (List.map iav x0)), (18, .int .i64 x2), (19, .int .i64 x3)], [(104, ⟨true, [.int .i64 owns.a0, .int .i64 owns.a1, .int .i64 owns.a2, .int .i64 owns.a3, .int .i64 owns.a4, .int .i64 owns.a5, .int .i64 owns.a6, .int .i64 owns.a7, .int .i64 owns.a8, .int .i64 owns.a9, .int .i64 owns.a10, .int .i64 owns.a11, .int .i64 owns.a12]⟩), (103, ⟨true, [.int .i64 slots.f_low, .int .i64 slots.f_high]⟩), (101, ⟨true, [.int .i64 c2.N, .int .i64 c2.F, .int .i64 c2.D, .int .i64 c2.Period, .int .i64 c2.Rate, .int .i64 c2.Drift, .int .i64 c2.Offset, .int .i64 c2.Slot, .int .i64 c2.Mod, .int .i64 c2.Fresh, .lst .no (List.map iav c2.Table)]⟩)]⟩ at he
  cases he
  show Sim (conf_table_0_step x0 x2 slots c2 x3 owns) _ _
  unfold conf_table_0_step
  simp only [hw]
  conv => arg 3; whnf
  refine Sim.ite Iff.rfl (fun hc2 => ?_) (fun hc2 => ?_)
  · conv => arg 3; whnf
    refine Sim.ix (by simp) (fun z0 hz0 => ?_)
    conv => arg 3; whnf
    refine Sim.go (idx_map _ hz0) ?_
    conv => arg 3; whnf
    refine Sim.ite Iff.rfl (fun hc3 => ?_) (fun hc3 => ?_)
    · conv => arg 3; whnf
      refine Sim.goB (decide_eq_true hc3) ?_
      conv => arg 3; whnf
      refine Sim.goB (decide_eq_true hc3) ?_
      conv => arg 3; whnf
      refine Sim.goB (decide_eq_true hc3) ?_
      conv => arg 3; whnf
      refine Sim.goB (decide_eq_true hc3) ?_
      conv => arg 3; whnf
      exact Sim.ret ⟨_, rfl, rfl⟩
    · conv => arg 3; whnf
      refine Sim.goF (decide_eq_false hc3) ?_
      conv => arg 3; whnf
      refine Sim.goF (decide_eq_false hc3) ?_
      conv => arg 3; whnf
      refine Sim.goF (decide_eq_false hc3) ?_
      conv => arg 3; whnf
      refine Sim.goF (decide_eq_false hc3) ?_
      conv => arg 3; whnf
      refine Sim.ite Iff.rfl (fun hc4 => ?_) (fun hc4 => ?_)
      · conv => arg 3; whnf
        exact Sim.ret ⟨_, rfl, rfl⟩
      · conv => arg 3; whnf
        first | refine Sim.ite Iff.rfl (fun hb => ?_) (fun _ => Sim.no) | refine Sim.guard (fun hb => ?_)
        conv => arg 3; whnf
        refine Sim.opt (f := iav) (by have hb' : (Int.toNat z0) < 13 := (by omega); generalize (Int.toNat z0) = j at hb' ⊢; rcases j with _|_|_|_|_|_|_|_|_|_|_|_|_|j <;> first | rfl | exact absurd hb' (by omega)) (fun z2 _ => ?_)
        conv => arg 3; whnf
        first | refine Sim.ite Iff.rfl (fun hb2 => ?_) (fun _ => Sim.no) | refine Sim.guard (fun hb2 => ?_)
        conv => arg 3; whnf
        refine Sim.opt (f := fun y0 => [.int .i64 y0.a0, .int .i64 y0.a1, .int .i64 y0.a2, .int .i64 y0.a3, .int .i64 y0.a4, .int .i64 y0.a5, .int .i64 y0.a6, .int .i64 y0.a7, .int .i64 y0.a8, .int .i64 y0.a9, .int .i64 y0.a10, .int .i64 y0.a11, .int .i64 y0.a12]) (by have hb' : (Int.toNat z0) < 13 := (by omega); generalize (Int.toNat z0) = j at hb' ⊢; rcases j with _|_|_|_|_|_|_|_|_|_|_|_|_|j <;> first | rfl | exact absurd hb' (by omega)) (fun y0 _ => ?_)
        conv => arg 3; whnf
        exact Sim.ret ⟨_, _, rfl, rfl, rfl⟩
  · conv => arg 3; whnf
    exact Sim.ret ⟨_, rfl, rfl⟩
noncomputable def conf_table_1_step (len : Nat) (x4 : Int) (owns2 : Ar13 Int) (slots2 : Gconf_span) (c3 : GConf) (x5 : Int) : Option ((Int) ⊕ ((Bool) ⊕ (Unit))) :=
  if x5 < x4 then
    if 0 ≤ x5 ∧ x5 < ((len : Nat) : Int) then
      (Ar13.get? (Ar13.mk owns2.a0 owns2.a1 owns2.a2 owns2.a3 owns2.a4 owns2.a5 owns2.a6 owns2.a7 owns2.a8 owns2.a9 owns2.a10 owns2.a11 owns2.a12) (Int.toNat x5)).bind fun z3 =>
      if z3 = 0 then
        some (.inr (.inl false))
      else
        some (.inl (wr (x5 + 1)))
    else none
  else
    some (.inr (.inr ()))
noncomputable def conf_table_1 (len : Nat) (x4 : Int) (owns2 : Ar13 Int) (slots2 : Gconf_span) (c3 : GConf) (x5 : Int) : Option ((Bool) ⊕ (Unit)) :=
  loopO (fun s : Int => conf_table_1_step len x4 owns2 slots2 c3 s) x5
def conf_table_1_rel (len : Nat) (x4 : Int) (owns2 : Ar13 Int) (slots2 : Gconf_span) (c3 : GConf) (r : ((Bool) ⊕ (Unit))) (q : Ex × PF.St) : Prop := (fun r (q : Ex × PF.St) => Sum.elim (fun r => (fun r (q : Ex × PF.St) => q = (Ex.ret, ⟨[(2, .bool r)], [(104, ⟨true, [.int .i64 owns2.a0, .int .i64 owns2.a1, .int .i64 owns2.a2, .int .i64 owns2.a3, .int .i64 owns2.a4, .int .i64 owns2.a5, .int .i64 owns2.a6, .int .i64 owns2.a7, .int .i64 owns2.a8, .int .i64 owns2.a9, .int .i64 owns2.a10, .int .i64 owns2.a11, .int .i64 owns2.a12]⟩), (103, ⟨true, [.int .i64 slots2.f_low, .int .i64 slots2.f_high]⟩), (101, ⟨true, [.int .i64 c3.N, .int .i64 c3.F, .int .i64 c3.D, .int .i64 c3.Period, .int .i64 c3.Rate, .int .i64 c3.Drift, .int .i64 c3.Offset, .int .i64 c3.Slot, .int .i64 c3.Mod, .int .i64 c3.Fresh, .lst .no (List.map iav c3.Table)]⟩)]⟩)) r q) (fun r => (fun r (q : Ex × PF.St) => q = ((.exit 2), ⟨[(2, .undef)], [(104, ⟨true, [.int .i64 owns2.a0, .int .i64 owns2.a1, .int .i64 owns2.a2, .int .i64 owns2.a3, .int .i64 owns2.a4, .int .i64 owns2.a5, .int .i64 owns2.a6, .int .i64 owns2.a7, .int .i64 owns2.a8, .int .i64 owns2.a9, .int .i64 owns2.a10, .int .i64 owns2.a11, .int .i64 owns2.a12]⟩), (103, ⟨true, [.int .i64 slots2.f_low, .int .i64 slots2.f_high]⟩), (101, ⟨true, [.int .i64 c3.N, .int .i64 c3.F, .int .i64 c3.D, .int .i64 c3.Period, .int .i64 c3.Rate, .int .i64 c3.Drift, .int .i64 c3.Offset, .int .i64 c3.Slot, .int .i64 c3.Mod, .int .i64 c3.Fresh, .lst .no (List.map iav c3.Table)]⟩)]⟩)) r q) r) r q
def conf_table_1_inv (len : Nat) (x4 : Int) (owns2 : Ar13 Int) (slots2 : Gconf_span) (c3 : GConf) (v : Int) (e : PF.St) : Prop := e = ⟨[(39, .arr 104 0 len 1 false), (40, .int .i64 x4), (41, .int .i64 v)], [(104, ⟨true, [.int .i64 owns2.a0, .int .i64 owns2.a1, .int .i64 owns2.a2, .int .i64 owns2.a3, .int .i64 owns2.a4, .int .i64 owns2.a5, .int .i64 owns2.a6, .int .i64 owns2.a7, .int .i64 owns2.a8, .int .i64 owns2.a9, .int .i64 owns2.a10, .int .i64 owns2.a11, .int .i64 owns2.a12]⟩), (103, ⟨true, [.int .i64 slots2.f_low, .int .i64 slots2.f_high]⟩), (101, ⟨true, [.int .i64 c3.N, .int .i64 c3.F, .int .i64 c3.D, .int .i64 c3.Period, .int .i64 c3.Rate, .int .i64 c3.Drift, .int .i64 c3.Offset, .int .i64 c3.Slot, .int .i64 c3.Mod, .int .i64 c3.Fresh, .lst .no (List.map iav c3.Table)]⟩)]⟩
theorem conf_table_1_sim (len : Nat) (x4 : Int) (owns2 : Ar13 Int) (slots2 : Gconf_span) (c3 : GConf) (x5 : Int) (s : PF.St) (hk : keep [39, 40, 41] [101, 103, 104] s = some ⟨[(39, .arr 104 0 len 1 false), (40, .int .i64 x4), (41, .int .i64 x5)], [(104, ⟨true, [.int .i64 owns2.a0, .int .i64 owns2.a1, .int .i64 owns2.a2, .int .i64 owns2.a3, .int .i64 owns2.a4, .int .i64 owns2.a5, .int .i64 owns2.a6, .int .i64 owns2.a7, .int .i64 owns2.a8, .int .i64 owns2.a9, .int .i64 owns2.a10, .int .i64 owns2.a11, .int .i64 owns2.a12]⟩), (103, ⟨true, [.int .i64 slots2.f_low, .int .i64 slots2.f_high]⟩), (101, ⟨true, [.int .i64 c3.N, .int .i64 c3.F, .int .i64 c3.D, .int .i64 c3.Period, .int .i64 c3.Rate, .int .i64 c3.Drift, .int .i64 c3.Offset, .int .i64 c3.Slot, .int .i64 c3.Mod, .int .i64 c3.Fresh, .lst .no (List.map iav c3.Table)]⟩)]⟩) : Sim (conf_table_1 len x4 owns2 slots2 c3 x5) (Gv (conf_table_1_rel len x4 owns2 slots2 c3)) (LM.loop ([39, 40, 41], [101, 103, 104], [2], B_conf_table_1) s) := by
  refine sim_loop M XE (conf_table_1_inv len x4 owns2 slots2 c3) (conf_table_1_rel len x4 owns2 slots2 c3) ?_ _ _ _ hk rfl
  clear hk
  rintro S hS hw hw8 R hR x5 env hp he
  change (⟨env, hp⟩ : PF.St) = ⟨[(39, .arr 104 0 len 1 false), (40, .int .i64 x4), (41, .int .i64 x5)], [(104, ⟨true, [.int .i64 owns2.a0, .int .i64 owns2.a1, .int .i64 owns2.a2, .int .i64 owns2.a3, .int .i64 owns2.a4, .int .i64 owns2.a5, .int .i64 owns2.a6, .int .i64 owns2.a7, .int .i64 owns2.a8, .int .i64 owns2.a9, .int .i64 owns2.a10, .int .i64 owns2.a11, .int .i64 owns2.a12]⟩), (103, ⟨true, [.int .i64 slots2.f_low, .int .i64 slots2.f_high]⟩), (101, ⟨true, [.int .i64 c3.N, .int .i64 c3.F, .int .i64 c3.D, .int .i64 c3.Period, .int .i64 c3.Rate, .int .i64 c3.Drift, .int .i64 c3.Offset, .int .i64 c3.Slot, .int .i64 c3.Mod, .int .i64 c3.Fresh, .lst .no (List.map iav c3.Table)]⟩)]⟩ at he
  cases he
  show Sim (conf_table_1_step len x4 owns2 slots2 c3 x5) _ _
  unfold conf_table_1_step
  simp only [hw]
  conv => arg 3; whnf
  refine Sim.ite Iff.rfl (fun hc5 => ?_) (fun hc5 => ?_)
  · conv => arg 3; whnf
    first | refine Sim.ite Iff.rfl (fun _ => ?_) (fun _ => Sim.no) | refine Sim.guard (fun _ => ?_)
    conv => arg 3; whnf
    refine Sim.opt (f := iav) (by generalize (Int.toNat x5) = j; rcases j with _|_|_|_|_|_|_|_|_|_|_|_|_|j <;> first | rfl | exact (loadC_out (by simp only [List.length_cons, List.length_nil]; omega)).trans rfl | exact (storeC_none _ (by simp) _ _ (by simp only [List.length_cons, List.length_nil]; omega)).trans rfl) (fun z3 _ => ?_)
    conv => arg 3; whnf
    refine Sim.ite Iff.rfl (fun hc6 => ?_) (fun hc6 => ?_)
    · conv => arg 3; whnf
      exact Sim.ret ⟨_, rfl, rfl⟩
    · conv => arg 3; whnf
      exact Sim.ret ⟨_, _, rfl, rfl, rfl⟩
  · conv => arg 3; whnf
    exact Sim.ret ⟨_, rfl, rfl⟩
noncomputable def conf_table (c0 : GConf) : Option Bool :=
  (conf_span_has (Gconf_span.mk 1 32) (List.length c0.Table : Int)).bind fun r0 =>
  if (!r0) = true then
    some false
  else
    (conf_table_0 c0.Table (List.length c0.Table : Int) (Gconf_span.mk 1 32) c0 0 (Ar13.mk 0 0 0 0 0 0 0 0 0 0 0 0 0)).bind fun r2 =>
    Sum.elim
      (fun r3 =>
        some r3.1)
      (fun r4 =>
        if 0 ≤ c0.N ∧ c0.N ≤ (13 : Nat) then
          (conf_table_1 ((Int.toNat c0.N) - 0) ((((Int.toNat c0.N) - 0) : Nat) : Int) r4 (Gconf_span.mk 1 32) c0 0).bind fun r5 =>
          Sum.elim
            (fun r6 =>
              some r6)
            (fun r7 =>
              some true)
            r5
        else none)
      r2
theorem conf_table_sim (c0 : GConf) : Sim (conf_table c0) (Gv fun r q => q = (.bool r, [])) (LM.call n_conf_table [.agg [.int .i64 c0.N, .int .i64 c0.F, .int .i64 c0.D, .int .i64 c0.Period, .int .i64 c0.Rate, .int .i64 c0.Drift, .int .i64 c0.Offset, .int .i64 c0.Slot, .int .i64 c0.Mod, .int .i64 c0.Fresh, .lst .no (List.map iav c0.Table)]] []) := by
  unfold conf_table
  refine sim_evR M XE rfl rfl fun S hS hw hw8 R hR => ?_
  conv => arg 3; whnf
  refine Sim.ki hS (m := (List.length c0.Table : Int)) (by simp) ?_
  conv => arg 3; whnf
  refine Sim.callR hR (conf_span_has_sim (Gconf_span.mk 1 32) (List.length c0.Table : Int)) ?_
  rintro r0 q rfl
  conv => arg 3; whnf
  refine Sim.iteB (fun hc => ?_) (fun hc => ?_)
  · conv => arg 3; whnf
    exact Sim.ret ⟨_, rfl, rfl⟩
  · conv => arg 3; whnf
    refine Sim.ki hS (m := (List.length c0.Table : Int)) (by simp) ?_
    conv => arg 3; whnf
    refine Sim.callL hR (conf_table_0_sim c0.Table (List.length c0.Table : Int) (Gconf_span.mk 1 32) c0 0 (Ar13.mk 0 0 0 0 0 0 0 0 0 0 0 0 0) _ rfl) ?_
    rintro r2 q hr
    rcases r2 with r3 | r4
    · cases hr
      conv => arg 3; whnf
      exact Sim.ret ⟨_, rfl, rfl⟩
    · cases hr
      conv => arg 3; whnf
      first | refine Sim.ite Iff.rfl (fun _ => ?_) (fun _ => Sim.no) | refine Sim.guard (fun _ => ?_)
      conv => arg 3; whnf
      refine Sim.callL hR (conf_table_1_sim ((Int.toNat c0.N) - 0) ((((Int.toNat c0.N) - 0) : Nat) : Int) r4 (Gconf_span.mk 1 32) c0 0 _ rfl) ?_
      rintro r5 q hr
      rcases r5 with r6 | r7
      · cases hr
        conv => arg 3; whnf
        exact Sim.ret ⟨_, rfl, rfl⟩
      · cases hr
        conv => arg 3; whnf
        exact Sim.ret ⟨_, rfl, rfl⟩
noncomputable def conf_Plain (c0 : GConf) : Option Int :=
  (conf_nodes c0).bind fun r0 =>
  if (!r0) = true then
    some 7
  else
    (conf_span_has (Gconf_span.mk 1 4) c0.D).bind fun r2 =>
    if (!r2) = true then
      some 10
    else
      (conf_numbers c0).bind fun r3 =>
      if (!r3) = true then
        some 8
      else
        (conf_table c0).bind fun r4 =>
        if (!r4) = true then
          some 11
        else
          some 0
theorem conf_Plain_sim (c0 : GConf) : Sim (conf_Plain c0) (Gv fun r q => q = (.int .i64 r, [])) (LM.call n_conf_Plain [.agg [.int .i64 c0.N, .int .i64 c0.F, .int .i64 c0.D, .int .i64 c0.Period, .int .i64 c0.Rate, .int .i64 c0.Drift, .int .i64 c0.Offset, .int .i64 c0.Slot, .int .i64 c0.Mod, .int .i64 c0.Fresh, .lst .no (List.map iav c0.Table)]] []) := by
  unfold conf_Plain
  refine sim_evR M XE rfl rfl fun S hS hw hw8 R hR => ?_
  conv => arg 3; whnf
  refine Sim.callR hR (conf_nodes_sim c0) ?_
  rintro r0 q rfl
  conv => arg 3; whnf
  refine Sim.iteB (fun hc => ?_) (fun hc => ?_)
  · conv => arg 3; whnf
    exact Sim.ret ⟨_, rfl, rfl⟩
  · conv => arg 3; whnf
    refine Sim.callR hR (conf_span_has_sim (Gconf_span.mk 1 4) c0.D) ?_
    rintro r2 q rfl
    conv => arg 3; whnf
    refine Sim.iteB (fun hc2 => ?_) (fun hc2 => ?_)
    · conv => arg 3; whnf
      exact Sim.ret ⟨_, rfl, rfl⟩
    · conv => arg 3; whnf
      refine Sim.callR hR (conf_numbers_sim c0) ?_
      rintro r3 q rfl
      conv => arg 3; whnf
      refine Sim.iteB (fun hc3 => ?_) (fun hc3 => ?_)
      · conv => arg 3; whnf
        exact Sim.ret ⟨_, rfl, rfl⟩
      · conv => arg 3; whnf
        refine Sim.callR hR (conf_table_sim c0) ?_
        rintro r4 q rfl
        conv => arg 3; whnf
        refine Sim.iteB (fun hc4 => ?_) (fun hc4 => ?_)
        · conv => arg 3; whnf
          exact Sim.ret ⟨_, rfl, rfl⟩
        · conv => arg 3; whnf
          exact Sim.ret ⟨_, rfl, rfl⟩
noncomputable def mem_Host (c0 : GConf) (m0 : GMem) (text : List UInt8) : Option (GMem × Int) :=
  (conf_Plain c0).bind fun r0 =>
  if r0 ≠ 0 then
    some ((GMem.mk 0 0 0 ([] : List UInt8) 0 ([] : List UInt8) ([] : List UInt8) 0 0 ([] : List UInt8) ([] : List UInt8) ([] : List UInt8) ([] : List UInt8) ([] : List UInt8) ([] : List UInt8) ([] : List GPort) ([] : List (List UInt8)) ([] : List GEntry) (Ar6.mk 0 0 0 0 0 0)), r0)
  else
    if 16 < (List.length text : Int) then
      some ((GMem.mk 0 0 0 ([] : List UInt8) 0 ([] : List UInt8) ([] : List UInt8) 0 0 ([] : List UInt8) ([] : List UInt8) ([] : List UInt8) ([] : List UInt8) ([] : List UInt8) ([] : List UInt8) ([] : List GPort) ([] : List (List UInt8)) ([] : List GEntry) (Ar6.mk 0 0 0 0 0 0)), 15)
    else
      (slices_Clone_api_Port_api_Port m0.Ports).bind fun r2 =>
      (slices_Clone_string_string m0.Hold).bind fun r3 =>
      (slices_Clone_api_Entry_api_Entry m0.Log).bind fun r4 =>
      some ((GMem.mk m0.Clock m0.Anchor m0.Since m0.Pipe m0.Age m0.Vec m0.Agreed m0.Number m0.Regular m0.Members m0.Seen m0.Heard m0.Sent text m0.Line r2 r3 r4 m0.Diag), 0)
theorem mem_Host_sim (c0 : GConf) (m0 : GMem) (text : List UInt8) : Sim (mem_Host c0 m0 text) (Gv fun r q => q = (.tup [.agg [.int .i64 r.1.Clock, .int .i64 r.1.Anchor, .int .i64 r.1.Since, .str r.1.Pipe, .int .i64 r.1.Age, .str r.1.Vec, .str r.1.Agreed, .int .i64 r.1.Number, .int .i64 r.1.Regular, .str r.1.Members, .str r.1.Seen, .str r.1.Heard, .str r.1.Sent, .str r.1.Out, .str r.1.Line, .lst .no (List.map GPort.av r.1.Ports), .lst .no (List.map sav r.1.Hold), .lst .no (List.map GEntry.av r.1.Log), .int .i64 r.1.Diag.a0, .int .i64 r.1.Diag.a1, .int .i64 r.1.Diag.a2, .int .i64 r.1.Diag.a3, .int .i64 r.1.Diag.a4, .int .i64 r.1.Diag.a5], .int .i64 r.2], [])) (LM.call n_mem_Host [.agg [.int .i64 c0.N, .int .i64 c0.F, .int .i64 c0.D, .int .i64 c0.Period, .int .i64 c0.Rate, .int .i64 c0.Drift, .int .i64 c0.Offset, .int .i64 c0.Slot, .int .i64 c0.Mod, .int .i64 c0.Fresh, .lst .no (List.map iav c0.Table)], .agg [.int .i64 m0.Clock, .int .i64 m0.Anchor, .int .i64 m0.Since, .str m0.Pipe, .int .i64 m0.Age, .str m0.Vec, .str m0.Agreed, .int .i64 m0.Number, .int .i64 m0.Regular, .str m0.Members, .str m0.Seen, .str m0.Heard, .str m0.Sent, .str m0.Out, .str m0.Line, .lst .no (List.map GPort.av m0.Ports), .lst .no (List.map sav m0.Hold), .lst .no (List.map GEntry.av m0.Log), .int .i64 m0.Diag.a0, .int .i64 m0.Diag.a1, .int .i64 m0.Diag.a2, .int .i64 m0.Diag.a3, .int .i64 m0.Diag.a4, .int .i64 m0.Diag.a5], .str text] []) := by
  unfold mem_Host
  refine sim_evR M XE rfl rfl fun S hS hw hw8 R hR => ?_
  conv => arg 3; whnf
  refine Sim.callR hR (conf_Plain_sim c0) ?_
  rintro r0 q rfl
  conv => arg 3; whnf
  refine Sim.ite Iff.rfl (fun hc => ?_) (fun hc => ?_)
  · conv => arg 3; whnf
    exact Sim.ret ⟨_, rfl, rfl⟩
  · conv => arg 3; whnf
    refine Sim.ite Iff.rfl (fun hc2 => ?_) (fun hc2 => ?_)
    · conv => arg 3; whnf
      exact Sim.ret ⟨_, rfl, rfl⟩
    · conv => arg 3; whnf
      refine Sim.callR hR (slices_Clone_api_Port_api_Port_sim m0.Ports .no) ?_
      rintro r2 q rfl
      conv => arg 3; whnf
      refine Sim.go (elems_fm_all (g := GPort.av) (e := 3) (fun _ => rfl) (fun _ => rfl) (fun _ => rfl) (by decide) _) ?_
      conv => arg 3; whnf
      refine Sim.callR hR (slices_Clone_string_string_sim m0.Hold .no) ?_
      rintro r3 q rfl
      conv => arg 3; whnf
      refine Sim.go (elems_map_all (f := sav) (fun _ => ⟨rfl, rfl⟩) _) ?_
      conv => arg 3; whnf
      refine Sim.callR hR (slices_Clone_api_Entry_api_Entry_sim m0.Log .no) ?_
      rintro r4 q rfl
      conv => arg 3; whnf
      exact Sim.ret ⟨_, rfl, rfl⟩
noncomputable def num_Mod (n0 : Int) (by0 : Int) : Option Int :=
  if by0 < 1 then
    some 0
  else
    if by0 = 0 then none else
    if (Int.tmod n0 by0) < 0 then
      some (wr ((Int.tmod n0 by0) + by0))
    else
      some (Int.tmod n0 by0)
theorem num_Mod_sim (n0 : Int) (by0 : Int) : Sim (num_Mod n0 by0) (Gv fun r q => q = (.int .i64 r, [])) (LM.call n_num_Mod [.int .i64 n0, .int .i64 by0] []) := by
  unfold num_Mod
  refine sim_evR M XE rfl rfl fun S hS hw hw8 R hR => ?_
  simp only [hw]
  conv => arg 3; whnf
  refine Sim.ite Iff.rfl (fun hc => ?_) (fun hc => ?_)
  · conv => arg 3; whnf
    exact Sim.ret ⟨_, rfl, rfl⟩
  · conv => arg 3; whnf
    refine Sim.ite Iff.rfl (fun _ => Sim.no) (fun hc2 => ?_)
    conv => arg 3; whnf
    refine Sim.ite Iff.rfl (fun hc3 => ?_) (fun hc3 => ?_)
    · conv => arg 3; whnf
      exact Sim.ret ⟨_, rfl, rfl⟩
    · conv => arg 3; whnf
      exact Sim.ret ⟨_, rfl, rfl⟩
noncomputable def ring_put (n0 : Int) : Option Int :=
  (num_Mod n0 65536).bind fun r0 =>
  some r0
theorem ring_put_sim (n0 : Int) : Sim (ring_put n0) (Gv fun r q => q = (.int .i64 r, [])) (LM.call n_ring_put [.int .i64 n0] []) := by
  unfold ring_put
  refine sim_evR M XE rfl rfl fun S hS hw hw8 R hR => ?_
  conv => arg 3; whnf
  refine Sim.callR hR (num_Mod_sim n0 65536) ?_
  rintro r0 q rfl
  conv => arg 3; whnf
  exact Sim.ret ⟨_, rfl, rfl⟩
noncomputable def ring_Put (n0 : Int) : Option Int :=
  (ring_put n0).bind fun r0 =>
  some r0
theorem ring_Put_sim (n0 : Int) : Sim (ring_Put n0) (Gv fun r q => q = (.int .i64 r, [])) (LM.call n_ring_Put [.int .i64 n0] []) := by
  unfold ring_Put
  refine sim_evR M XE rfl rfl fun S hS hw hw8 R hR => ?_
  conv => arg 3; whnf
  refine Sim.callR hR (ring_put_sim n0) ?_
  rintro r0 q rfl
  conv => arg 3; whnf
  exact Sim.ret ⟨_, rfl, rfl⟩
noncomputable def num_Clamp (n0 : Int) (low : Int) (high : Int) : Option Int :=
  if n0 < low then
    some low
  else
    if high < low then
      some low
    else
      if high < n0 then
        some high
      else
        some n0
theorem num_Clamp_sim (n0 : Int) (low : Int) (high : Int) : Sim (num_Clamp n0 low high) (Gv fun r q => q = (.int .i64 r, [])) (LM.call n_num_Clamp [.int .i64 n0, .int .i64 low, .int .i64 high] []) := by
  unfold num_Clamp
  refine sim_evR M XE rfl rfl fun S hS hw hw8 R hR => ?_
  conv => arg 3; whnf
  refine Sim.ite Iff.rfl (fun hc => ?_) (fun hc => ?_)
  · conv => arg 3; whnf
    refine Sim.goB (decide_eq_true hc) ?_
    conv => arg 3; whnf
    exact Sim.ret ⟨_, rfl, rfl⟩
  · conv => arg 3; whnf
    refine Sim.ite Iff.rfl (fun hc2 => ?_) (fun hc2 => ?_)
    · conv => arg 3; whnf
      exact Sim.ret ⟨_, rfl, rfl⟩
    · conv => arg 3; whnf
      refine Sim.ite Iff.rfl (fun hc3 => ?_) (fun hc3 => ?_)
      · conv => arg 3; whnf
        exact Sim.ret ⟨_, rfl, rfl⟩
      · conv => arg 3; whnf
        exact Sim.ret ⟨_, rfl, rfl⟩
noncomputable def conf_Rounds (c0 : GConf) : Option Int :=
  (conf_Plain c0).bind fun r0 =>
  if r0 ≠ 0 then
    some 0
  else
    some (wr (3 * (wr (c0.F + 1))))
theorem conf_Rounds_sim (c0 : GConf) : Sim (conf_Rounds c0) (Gv fun r q => q = (.int .i64 r, [])) (LM.call n_conf_Rounds [.agg [.int .i64 c0.N, .int .i64 c0.F, .int .i64 c0.D, .int .i64 c0.Period, .int .i64 c0.Rate, .int .i64 c0.Drift, .int .i64 c0.Offset, .int .i64 c0.Slot, .int .i64 c0.Mod, .int .i64 c0.Fresh, .lst .no (List.map iav c0.Table)]] []) := by
  unfold conf_Rounds
  refine sim_evR M XE rfl rfl fun S hS hw hw8 R hR => ?_
  simp only [hw]
  conv => arg 3; whnf
  refine Sim.callR hR (conf_Plain_sim c0) ?_
  rintro r0 q rfl
  conv => arg 3; whnf
  refine Sim.ite Iff.rfl (fun hc => ?_) (fun hc => ?_)
  · conv => arg 3; whnf
    exact Sim.ret ⟨_, rfl, rfl⟩
  · conv => arg 3; whnf
    exact Sim.ret ⟨_, rfl, rfl⟩
noncomputable def conf_Length (c0 : GConf) : Option Int :=
  (conf_Rounds c0).bind fun r0 =>
  some (wr (r0 * (max c0.D 0)))
theorem conf_Length_sim (c0 : GConf) : Sim (conf_Length c0) (Gv fun r q => q = (.int .i64 r, [])) (LM.call n_conf_Length [.agg [.int .i64 c0.N, .int .i64 c0.F, .int .i64 c0.D, .int .i64 c0.Period, .int .i64 c0.Rate, .int .i64 c0.Drift, .int .i64 c0.Offset, .int .i64 c0.Slot, .int .i64 c0.Mod, .int .i64 c0.Fresh, .lst .no (List.map iav c0.Table)]] []) := by
  unfold conf_Length
  refine sim_evR M XE rfl rfl fun S hS hw hw8 R hR => ?_
  simp only [hw]
  conv => arg 3; whnf
  refine Sim.callR hR (conf_Rounds_sim c0) ?_
  rintro r0 q rfl
  conv => arg 3; whnf
  exact Sim.ret ⟨_, rfl, rfl⟩
noncomputable def diag_counters_clean_0_step (x0 : Ar6 Int) (x3 : Ar6 Int) (x2 : Int) (d2 : Ar6 Int) : Option ((Int × (Ar6 Int)) ⊕ ((Ar6 Int))) :=
  if x2 < 6 then
    if 0 ≤ x2 ∧ x2 < (6 : Nat) then
      (Ar6.get? (Ar6.mk x0.a0 x0.a1 x0.a2 x0.a3 x0.a4 x0.a5) (Int.toNat x2)).bind fun z0 =>
      (num_Clamp z0 0 65535).bind fun r0 =>
      if 0 ≤ x2 ∧ x2 < (6 : Nat) then
        (Ar6.set? d2 (Int.toNat x2) r0).bind fun y0 =>
        some (.inl ((wr (x2 + 1)), y0))
      else none
    else none
  else
    some (.inr d2)
noncomputable def diag_counters_clean_0 (x0 : Ar6 Int) (x3 : Ar6 Int) (x2 : Int) (d2 : Ar6 Int) : Option ((Ar6 Int)) :=
  loopO (fun s : Int × (Ar6 Int) => diag_counters_clean_0_step x0 x3 s.1 s.2) (x2, d2)
def diag_counters_clean_0_rel (x0 : Ar6 Int) (x3 : Ar6 Int) (r : ((Ar6 Int))) (q : Ex × PF.St) : Prop := (fun r (q : Ex × PF.St) => q = ((.exit 0), ⟨[(1, .ptr 101 0), (2, .ptr 102 0)], [(102, ⟨true, [.int .i64 x3.a0, .int .i64 x3.a1, .int .i64 x3.a2, .int .i64 x3.a3, .int .i64 x3.a4, .int .i64 x3.a5]⟩), (101, ⟨true, [.int .i64 r.a0, .int .i64 r.a1, .int .i64 r.a2, .int .i64 r.a3, .int .i64 r.a4, .int .i64 r.a5]⟩)]⟩)) r q
def diag_counters_clean_0_inv (x0 : Ar6 Int) (x3 : Ar6 Int) (v : Int × (Ar6 Int)) (e : PF.St) : Prop := e = ⟨[(1, .ptr 101 0), (2, .ptr 102 0), (5, .agg [.int .i64 x0.a0, .int .i64 x0.a1, .int .i64 x0.a2, .int .i64 x0.a3, .int .i64 x0.a4, .int .i64 x0.a5]), (6, .int .i64 v.1)], [(102, ⟨true, [.int .i64 x3.a0, .int .i64 x3.a1, .int .i64 x3.a2, .int .i64 x3.a3, .int .i64 x3.a4, .int .i64 x3.a5]⟩), (101, ⟨true, [.int .i64 v.2.a0, .int .i64 v.2.a1, .int .i64 v.2.a2, .int .i64 v.2.a3, .int .i64 v.2.a4, .int .i64 v.2.a5]⟩)]⟩
theorem diag_counters_clean_0_sim (x0 : Ar6 Int) (x3 : Ar6 Int) (x2 : Int) (d2 : Ar6 Int) (s : PF.St) (hk : keep [1, 2, 5, 6] [101, 102] s = some ⟨[(1, .ptr 101 0), (2, .ptr 102 0), (5, .agg [.int .i64 x0.a0, .int .i64 x0.a1, .int .i64 x0.a2, .int .i64 x0.a3, .int .i64 x0.a4, .int .i64 x0.a5]), (6, .int .i64 x2)], [(102, ⟨true, [.int .i64 x3.a0, .int .i64 x3.a1, .int .i64 x3.a2, .int .i64 x3.a3, .int .i64 x3.a4, .int .i64 x3.a5]⟩), (101, ⟨true, [.int .i64 d2.a0, .int .i64 d2.a1, .int .i64 d2.a2, .int .i64 d2.a3, .int .i64 d2.a4, .int .i64 d2.a5]⟩)]⟩) : Sim (diag_counters_clean_0 x0 x3 x2 d2) (Gv (diag_counters_clean_0_rel x0 x3)) (LM.loop ([1, 2, 5, 6], [101, 102], [1, 2], B_diag_counters_clean_0) s) := by
  refine sim_loop M XE (diag_counters_clean_0_inv x0 x3) (diag_counters_clean_0_rel x0 x3) ?_ _ _ _ hk rfl
  clear hk
  rintro S hS hw hw8 R hR ⟨x2, d2⟩ env hp he
  change (⟨env, hp⟩ : PF.St) = ⟨[(1, .ptr 101 0), (2, .ptr 102 0), (5, .agg [.int .i64 x0.a0, .int .i64 x0.a1, .int .i64 x0.a2, .int .i64 x0.a3, .int .i64 x0.a4, .int .i64 x0.a5]), (6, .int .i64 x2)], [(102, ⟨true, [.int .i64 x3.a0, .int .i64 x3.a1, .int .i64 x3.a2, .int .i64 x3.a3, .int .i64 x3.a4, .int .i64 x3.a5]⟩), (101, ⟨true, [.int .i64 d2.a0, .int .i64 d2.a1, .int .i64 d2.a2, .int .i64 d2.a3, .int .i64 d2.a4, .int .i64 d2.a5]⟩)]⟩ at he
  cases he
  show Sim (diag_counters_clean_0_step x0 x3 x2 d2) _ _
  unfold diag_counters_clean_0_step
  simp only [hw]
  conv => arg 3; whnf
  refine Sim.ite Iff.rfl (fun hc => ?_) (fun hc => ?_)
  · conv => arg 3; whnf
    first | refine Sim.ite Iff.rfl (fun hb => ?_) (fun _ => Sim.no) | refine Sim.guard (fun hb => ?_)
    conv => arg 3; whnf
    refine Sim.opt (f := iav) (by have hb' : (Int.toNat x2) < 6 := (by omega); generalize (Int.toNat x2) = j at hb' ⊢; rcases j with _|_|_|_|_|_|j <;> first | rfl | exact absurd hb' (by omega)) (fun z0 _ => ?_)
    conv => arg 3; whnf
    refine Sim.callR hR (num_Clamp_sim z0 0 65535) ?_
    rintro r0 q rfl
    conv => arg 3; whnf
    first | refine Sim.ite Iff.rfl (fun hb2 => ?_) (fun _ => Sim.no) | refine Sim.guard (fun hb2 => ?_)
    conv => arg 3; whnf
    refine Sim.opt (f := fun y0 => [.int .i64 y0.a0, .int .i64 y0.a1, .int .i64 y0.a2, .int .i64 y0.a3, .int .i64 y0.a4, .int .i64 y0.a5]) (by have hb' : (Int.toNat x2) < 6 := (by omega); generalize (Int.toNat x2) = j at hb' ⊢; rcases j with _|_|_|_|_|_|j <;> first | rfl | exact absurd hb' (by omega)) (fun y0 _ => ?_)
    conv => arg 3; whnf
    exact Sim.ret ⟨_, _, rfl, rfl, rfl⟩
  · conv => arg 3; whnf
    exact Sim.ret ⟨_, rfl, rfl⟩
noncomputable def diag_counters_clean (d0 : Ar6 Int) : Option ((Ar6 Int)) :=
  (diag_counters_clean_0 d0 (Ar6.mk 0 0 0 0 0 0) 0 d0).bind fun r2 =>
  some r2
theorem diag_counters_clean_sim (d0 : Ar6 Int) : Sim (diag_counters_clean d0) (Gv fun r q => q = (.agg [.int .i64 r.a0, .int .i64 r.a1, .int .i64 r.a2, .int .i64 r.a3, .int .i64 r.a4, .int .i64 r.a5], [])) (LM.call n_diag_counters_clean [.agg [.int .i64 d0.a0, .int .i64 d0.a1, .int .i64 d0.a2, .int .i64 d0.a3, .int .i64 d0.a4, .int .i64 d0.a5]] []) := by
  unfold diag_counters_clean
  refine sim_evR M XE rfl rfl fun S hS hw hw8 R hR => ?_
  conv => arg 3; whnf
  refine Sim.callL hR (diag_counters_clean_0_sim d0 (Ar6.mk 0 0 0 0 0 0) 0 d0 _ rfl) ?_
  rintro r2 q rfl
  conv => arg 3; whnf
  exact Sim.ret ⟨_, rfl, rfl⟩
noncomputable def diag_Clean (d0 : Ar6 Int) : Option ((Ar6 Int)) :=
  (diag_counters_clean d0).bind fun r0 =>
  some r0
theorem diag_Clean_sim (d0 : Ar6 Int) : Sim (diag_Clean d0) (Gv fun r q => q = (.agg [.int .i64 r.a0, .int .i64 r.a1, .int .i64 r.a2, .int .i64 r.a3, .int .i64 r.a4, .int .i64 r.a5], [])) (LM.call n_diag_Clean [.agg [.int .i64 d0.a0, .int .i64 d0.a1, .int .i64 d0.a2, .int .i64 d0.a3, .int .i64 d0.a4, .int .i64 d0.a5]] []) := by
  unfold diag_Clean
  refine sim_evR M XE rfl rfl fun S hS hw hw8 R hR => ?_
  conv => arg 3; whnf
  refine Sim.callR hR (diag_counters_clean_sim d0) ?_
  rintro r0 q rfl
  conv => arg 3; whnf
  exact Sim.ret ⟨_, rfl, rfl⟩
noncomputable def pipe_Blank (c0 : GConf) : Option ((List UInt8)) :=
  (conf_Length c0).bind fun r0 =>
  (strings_Repeat ([48] : List UInt8) r0).bind fun r2 =>
  some r2
theorem pipe_Blank_sim (c0 : GConf) : Sim (pipe_Blank c0) (Gv fun r q => q = (.str r, [])) (LM.call n_pipe_Blank [.agg [.int .i64 c0.N, .int .i64 c0.F, .int .i64 c0.D, .int .i64 c0.Period, .int .i64 c0.Rate, .int .i64 c0.Drift, .int .i64 c0.Offset, .int .i64 c0.Slot, .int .i64 c0.Mod, .int .i64 c0.Fresh, .lst .no (List.map iav c0.Table)]] []) := by
  unfold pipe_Blank
  refine sim_evR M XE rfl rfl fun S hS hw hw8 R hR => ?_
  conv => arg 3; whnf
  refine Sim.callR hR (conf_Length_sim c0) ?_
  rintro r0 q rfl
  conv => arg 3; whnf
  refine Sim.callR hR (strings_Repeat_sim ([48] : List UInt8) r0) ?_
  rintro r2 q rfl
  conv => arg 3; whnf
  exact Sim.ret ⟨_, rfl, rfl⟩
noncomputable def mem_digits_0_step (last2 : Int) (len : Nat) (len2 : Nat) (x0 : Int) (x2 : Int) (x3 : List Int) : Option ((Int × (List Int)) ⊕ ((List Int))) :=
  if x2 < x0 then
    if 0 ≤ x2 ∧ x2 < ((len2 : Nat) : Int) then
      (x3[(Int.toNat x2)]?).bind fun z0 =>
      if z0 < 48 then
        if 0 ≤ x2 ∧ x2 < ((len : Nat) : Int) then
          (mod? x3 (Int.toNat x2) (fun _ => 48)).bind fun l0 =>
          some (.inl ((wr (x2 + 1)), l0))
        else none
      else
        if last2 < z0 then
          if 0 ≤ x2 ∧ x2 < ((len : Nat) : Int) then
            (mod? x3 (Int.toNat x2) (fun _ => 48)).bind fun l2 =>
            some (.inl ((wr (x2 + 1)), l2))
          else none
        else
          some (.inl ((wr (x2 + 1)), x3))
    else none
  else
    some (.inr x3)
noncomputable def mem_digits_0 (last2 : Int) (len : Nat) (len2 : Nat) (x0 : Int) (x2 : Int) (x3 : List Int) : Option ((List Int)) :=
  loopO (fun s : Int × (List Int) => mem_digits_0_step last2 len len2 x0 s.1 s.2) (x2, x3)
def mem_digits_0_rel (last2 : Int) (len : Nat) (len2 : Nat) (x0 : Int) (r : ((List Int))) (q : Ex × PF.St) : Prop := (fun r (q : Ex × PF.St) => q = ((.exit 0), ⟨[(5, .arr 109 0 len 1 false)], [(109, ⟨true, (List.map u8av r)⟩)]⟩)) r q
def mem_digits_0_inv (last2 : Int) (len : Nat) (len2 : Nat) (x0 : Int) (v : Int × (List Int)) (e : PF.St) : Prop := e = ⟨[(1, .int .u8 last2), (5, .arr 109 0 len 1 false), (10, .arr 109 0 len2 1 false), (11, .int .i64 x0), (12, .int .i64 v.1)], [(109, ⟨true, (List.map u8av v.2)⟩)]⟩
theorem mem_digits_0_sim (last2 : Int) (len : Nat) (len2 : Nat) (x0 : Int) (x2 : Int) (x3 : List Int) (s : PF.St) (hk : keep [1, 5, 10, 11, 12] [109] s = some ⟨[(1, .int .u8 last2), (5, .arr 109 0 len 1 false), (10, .arr 109 0 len2 1 false), (11, .int .i64 x0), (12, .int .i64 x2)], [(109, ⟨true, (List.map u8av x3)⟩)]⟩) : Sim (mem_digits_0 last2 len len2 x0 x2 x3) (Gv (mem_digits_0_rel last2 len len2 x0)) (LM.loop ([1, 5, 10, 11, 12], [109], [5], B_mem_digits_0) s) := by
  refine sim_loop M XE (mem_digits_0_inv last2 len len2 x0) (mem_digits_0_rel last2 len len2 x0) ?_ _ _ _ hk rfl
  clear hk
  rintro S hS hw hw8 R hR ⟨x2, x3⟩ env hp he
  change (⟨env, hp⟩ : PF.St) = ⟨[(1, .int .u8 last2), (5, .arr 109 0 len 1 false), (10, .arr 109 0 len2 1 false), (11, .int .i64 x0), (12, .int .i64 x2)], [(109, ⟨true, (List.map u8av x3)⟩)]⟩ at he
  cases he
  show Sim (mem_digits_0_step last2 len len2 x0 x2 x3) _ _
  unfold mem_digits_0_step
  simp only [hw]
  conv => arg 3; whnf
  refine Sim.ite Iff.rfl (fun hc => ?_) (fun hc => ?_)
  · conv => arg 3; whnf
    first | refine Sim.ite Iff.rfl (fun _ => ?_) (fun _ => Sim.no) | refine Sim.guard (fun _ => ?_)
    conv => arg 3; whnf
    refine Sim.opt (load_map (f := u8av) (m := (Int.toNat x2)) (fun _ => rfl) (by omega)) (fun z0 _ => ?_)
    conv => arg 3; whnf
    refine Sim.ite Iff.rfl (fun hc2 => ?_) (fun hc2 => ?_)
    · conv => arg 3; whnf
      refine Sim.goB (decide_eq_true hc2) ?_
      conv => arg 3; whnf
      refine Sim.goB (decide_eq_true hc2) ?_
      conv => arg 3; whnf
      refine Sim.goB (decide_eq_true hc2) ?_
      conv => arg 3; whnf
      first | refine Sim.ite Iff.rfl (fun _ => ?_) (fun _ => Sim.no) | refine Sim.guard (fun _ => ?_)
      conv => arg 3; whnf
      refine Sim.opt (store_map (u := (fun _ => 48)) (m := (Int.toNat x2)) (by omega) (fun _ => rfl)) (fun l0 _ => ?_)
      conv => arg 3; whnf
      exact Sim.ret ⟨_, _, rfl, (keep_eq rfl rfl rfl (okH_flat (Flat.map (fun _ => rfl) _) (okH_nil _))), rfl⟩
    · conv => arg 3; whnf
      refine Sim.goF (decide_eq_false hc2) ?_
      conv => arg 3; whnf
      refine Sim.goF (decide_eq_false hc2) ?_
      conv => arg 3; whnf
      refine Sim.goF (decide_eq_false hc2) ?_
      conv => arg 3; whnf
      refine Sim.ite Iff.rfl (fun hc3 => ?_) (fun hc3 => ?_)
      · conv => arg 3; whnf
        first | refine Sim.ite Iff.rfl (fun _ => ?_) (fun _ => Sim.no) | refine Sim.guard (fun _ => ?_)
        conv => arg 3; whnf
        refine Sim.opt (store_map (u := (fun _ => 48)) (m := (Int.toNat x2)) (by omega) (fun _ => rfl)) (fun l2 _ => ?_)
        conv => arg 3; whnf
        exact Sim.ret ⟨_, _, rfl, (keep_eq rfl rfl rfl (okH_flat (Flat.map (fun _ => rfl) _) (okH_nil _))), rfl⟩
      · conv => arg 3; whnf
        exact Sim.ret ⟨_, _, rfl, (keep_eq rfl rfl rfl (okH_flat (Flat.map (fun _ => rfl) _) (okH_nil _))), rfl⟩
  · conv => arg 3; whnf
    refine Sim.go (keep_eq rfl rfl rfl (okH_flat (Flat.map (fun _ => rfl) _) (okH_nil _))) ?_
    conv => arg 3; whnf
    exact Sim.ret ⟨_, rfl, rfl⟩
noncomputable def mem_digits (s0 : List UInt8) (last : Int) : Option ((List UInt8)) :=
  if List.length s0 ≤ lenMax then
    (mem_digits_0 last (List.length s0) (List.length s0) (((List.length s0) : Nat) : Int) 0 (intsOf s0)).bind fun r0 =>
    (sub? r0 0 (List.length s0)).bind fun y0 =>
    some (bytesOf y0)
  else none
theorem mem_digits_sim (s0 : List UInt8) (last : Int) : Sim (mem_digits s0 last) (Gv fun r q => q = (.str r, [])) (LM.call n_mem_digits [.str s0, .int .u8 last] []) := by
  unfold mem_digits
  refine sim_evR M XE rfl rfl fun S hS hw hw8 R hR => ?_
  conv => arg 3; whnf
  first | refine Sim.ite Iff.rfl (fun _ => ?_) (fun _ => Sim.no) | refine Sim.guard (fun _ => ?_)
  conv => arg 3; whnf
  refine Sim.kl hS (byte_map s0) ?_
  conv => arg 3; whnf
  refine Sim.callL hR (mem_digits_0_sim last (List.length s0) (List.length s0) (((List.length s0) : Nat) : Int) 0 (intsOf s0) _ (keep_eq rfl rfl rfl (okH_flat (Flat.map (fun _ => rfl) _) (okH_nil _)))) ?_
  rintro r0 q rfl
  conv => arg 3; whnf
  refine Sim.sub (f := u8av) rfl (fun y0 hy0 => ?_)
  conv => arg 3; whnf
  refine Sim.go (by rw [hy0]; exact bytes_mapM _) ?_
  conv => arg 3; whnf
  exact Sim.ret ⟨_, rfl, rfl⟩
noncomputable def mem_cut (s0 : List UInt8) (most : Int) : Option ((List UInt8)) :=
  if 0 ≤ (min (List.length s0 : Int) most) ∧ (min (List.length s0 : Int) most) ≤ ((List.length s0) : Nat) then
    some (List.take (Int.toNat (min (List.length s0 : Int) most)) s0)
  else none
theorem mem_cut_sim (s0 : List UInt8) (most : Int) : Sim (mem_cut s0 most) (Gv fun r q => q = (.str r, [])) (LM.call n_mem_cut [.str s0, .int .i64 most] []) := by
  unfold mem_cut
  refine sim_evR M XE rfl rfl fun S hS hw hw8 R hR => ?_
  conv => arg 3; whnf
  first | refine Sim.ite Iff.rfl (fun _ => ?_) (fun _ => Sim.no) | refine Sim.guard (fun _ => ?_)
  conv => arg 3; whnf
  exact Sim.ret ⟨_, rfl, rfl⟩
noncomputable def mem_row (s0 : List UInt8) (n0 : Int) (last : Int) : Option ((List UInt8)) :=
  if (List.length s0 : Int) ≠ n0 then
    some ([] : List UInt8)
  else
    (mem_digits s0 last).bind fun r0 =>
    some r0
theorem mem_row_sim (s0 : List UInt8) (n0 : Int) (last : Int) : Sim (mem_row s0 n0 last) (Gv fun r q => q = (.str r, [])) (LM.call n_mem_row [.str s0, .int .i64 n0, .int .u8 last] []) := by
  unfold mem_row
  refine sim_evR M XE rfl rfl fun S hS hw hw8 R hR => ?_
  conv => arg 3; whnf
  refine Sim.ite Iff.rfl (fun hc => ?_) (fun hc => ?_)
  · conv => arg 3; whnf
    exact Sim.ret ⟨_, rfl, rfl⟩
  · conv => arg 3; whnf
    refine Sim.callR hR (mem_digits_sim s0 last) ?_
    rintro r0 q rfl
    conv => arg 3; whnf
    exact Sim.ret ⟨_, rfl, rfl⟩
noncomputable def conf_Bits (c0 : GConf) : Option Int :=
  (conf_Plain c0).bind fun r0 =>
  if r0 ≠ 0 then
    some 0
  else
    some (wr (8 + c0.N))
theorem conf_Bits_sim (c0 : GConf) : Sim (conf_Bits c0) (Gv fun r q => q = (.int .i64 r, [])) (LM.call n_conf_Bits [.agg [.int .i64 c0.N, .int .i64 c0.F, .int .i64 c0.D, .int .i64 c0.Period, .int .i64 c0.Rate, .int .i64 c0.Drift, .int .i64 c0.Offset, .int .i64 c0.Slot, .int .i64 c0.Mod, .int .i64 c0.Fresh, .lst .no (List.map iav c0.Table)]] []) := by
  unfold conf_Bits
  refine sim_evR M XE rfl rfl fun S hS hw hw8 R hR => ?_
  simp only [hw]
  conv => arg 3; whnf
  refine Sim.callR hR (conf_Plain_sim c0) ?_
  rintro r0 q rfl
  conv => arg 3; whnf
  refine Sim.ite Iff.rfl (fun hc => ?_) (fun hc => ?_)
  · conv => arg 3; whnf
    exact Sim.ret ⟨_, rfl, rfl⟩
  · conv => arg 3; whnf
    exact Sim.ret ⟨_, rfl, rfl⟩
noncomputable def slices_Index_int_int_0_step (s2 : List Int) (v2 : Int) (x0 : Int) (x2 : Int) : Option ((Int) ⊕ ((Int) ⊕ (Unit))) :=
  if x2 < x0 then
    (idx? s2 x2).bind fun z0 =>
    if v2 = z0 then
      some (.inr (.inl x2))
    else
      some (.inl (wr (x2 + 1)))
  else
    some (.inr (.inr ()))
noncomputable def slices_Index_int_int_0 (s2 : List Int) (v2 : Int) (x0 : Int) (x2 : Int) : Option ((Int) ⊕ (Unit)) :=
  loopO (fun s : Int => slices_Index_int_int_0_step s2 v2 x0 s) x2
def slices_Index_int_int_0_rel (s2 : List Int) (v2 : Int) (x0 : Int) (r : ((Int) ⊕ (Unit))) (q : Ex × PF.St) : Prop := (fun r (q : Ex × PF.St) => Sum.elim (fun r => (fun r (q : Ex × PF.St) => q = (Ex.ret, ⟨[(4, .int .i64 r)], []⟩)) r q) (fun r => (fun r (q : Ex × PF.St) => q = ((.exit 0), ⟨[(4, .undef)], []⟩)) r q) r) r q
def slices_Index_int_int_0_inv (s2 : List Int) (v2 : Int) (x0 : Int) (v : Int) (e : PF.St) : Prop := e = ⟨[(0, .lst .no (List.map iav s2)), (1, .int .i64 v2), (7, .int .i64 x0), (8, .int .i64 v)], []⟩
theorem slices_Index_int_int_0_sim (s2 : List Int) (v2 : Int) (x0 : Int) (x2 : Int) (s : PF.St) (hk : keep [0, 1, 7, 8] [] s = some ⟨[(0, .lst .no (List.map iav s2)), (1, .int .i64 v2), (7, .int .i64 x0), (8, .int .i64 x2)], []⟩) : Sim (slices_Index_int_int_0 s2 v2 x0 x2) (Gv (slices_Index_int_int_0_rel s2 v2 x0)) (LM.loop ([0, 1, 7, 8], [], [4], B_slices_Index_int_int_0) s) := by
  refine sim_loop M XE (slices_Index_int_int_0_inv s2 v2 x0) (slices_Index_int_int_0_rel s2 v2 x0) ?_ _ _ _ hk rfl
  clear hk
  rintro S hS hw hw8 R hR x2 env hp he
  change (⟨env, hp⟩ : PF.St) = ⟨[(0, .lst .no (List.map iav s2)), (1, .int .i64 v2), (7, .int .i64 x0), (8, .int .i64 x2)], []⟩ at he
  cases he
  show Sim (slices_Index_int_int_0_step s2 v2 x0 x2) _ _
  unfold slices_Index_int_int_0_step
  simp only [hw]
  conv => arg 3; whnf
  refine Sim.ite Iff.rfl (fun hc => ?_) (fun hc => ?_)
  · conv => arg 3; whnf
    refine Sim.ix (by simp) (fun z0 hz0 => ?_)
    conv => arg 3; whnf
    refine Sim.go (idx_map _ hz0) ?_
    conv => arg 3; whnf
    refine Sim.ite Iff.rfl (fun hc2 => ?_) (fun hc2 => ?_)
    · conv => arg 3; whnf
      exact Sim.ret ⟨_, rfl, rfl⟩
    · conv => arg 3; whnf
      exact Sim.ret ⟨_, _, rfl, rfl, rfl⟩
  · conv => arg 3; whnf
    exact Sim.ret ⟨_, rfl, rfl⟩
noncomputable def slices_Index_int_int (s0 : List Int) (v0 : Int) : Option Int :=
  (slices_Index_int_int_0 s0 v0 (List.length s0 : Int) 0).bind fun r0 =>
  Sum.elim
    (fun r2 =>
      some r2)
    (fun r3 =>
      some (-1))
    r0
theorem slices_Index_int_int_sim (s0 : List Int) (v0 : Int) : Sim (slices_Index_int_int s0 v0) (Gv fun r q => q = (.int .i64 r, [])) (LM.call n_slices_Index_int_int [.lst .no (List.map iav s0), .int .i64 v0] []) := by
  unfold slices_Index_int_int
  refine sim_evR M XE rfl rfl fun S hS hw hw8 R hR => ?_
  conv => arg 3; whnf
  refine Sim.ki hS (m := (List.length s0 : Int)) (by simp) ?_
  conv => arg 3; whnf
  refine Sim.callL hR (slices_Index_int_int_0_sim s0 v0 (List.length s0 : Int) 0 _ rfl) ?_
  rintro r0 q hr
  rcases r0 with r2 | r3
  · cases hr
    conv => arg 3; whnf
    exact Sim.ret ⟨_, rfl, rfl⟩
  · cases hr
    conv => arg 3; whnf
    exact Sim.ret ⟨_, rfl, rfl⟩
noncomputable def slices_Contains_int_int (s0 : List Int) (v0 : Int) : Option Bool :=
  (slices_Index_int_int s0 v0).bind fun r0 =>
  some (decide (0 ≤ r0))
theorem slices_Contains_int_int_sim (s0 : List Int) (v0 : Int) : Sim (slices_Contains_int_int s0 v0) (Gv fun r q => q = (.bool r, [])) (LM.call n_slices_Contains_int_int [.lst .no (List.map iav s0), .int .i64 v0] []) := by
  unfold slices_Contains_int_int
  refine sim_evR M XE rfl rfl fun S hS hw hw8 R hR => ?_
  conv => arg 3; whnf
  refine Sim.callR hR (slices_Index_int_int_sim s0 v0) ?_
  rintro r0 q rfl
  conv => arg 3; whnf
  exact Sim.ret ⟨_, rfl, rfl⟩
noncomputable def gate_Mark_0_step (marks2 : List UInt8) (at2 : List Int) (len : Nat) (x0 : Int) (x2 : Int) (x3 : List Int) : Option ((Int × (List Int)) ⊕ ((List Int))) :=
  if x2 < x0 then
    if 0 ≤ x2 ∧ x2 < ((len : Nat) : Int) then
      (mod? x3 (Int.toNat x2) (fun _ => 48)).bind fun l0 =>
      if x2 < (List.length marks2 : Int) then
        (idx? marks2 x2).bind fun b0 =>
        if (UInt8.toNat b0 : Int) = 49 then
          if 0 ≤ x2 ∧ x2 < ((len : Nat) : Int) then
            (mod? l0 (Int.toNat x2) (fun _ => 49)).bind fun l2 =>
            some (.inl ((wr (x2 + 1)), l2))
          else none
        else
          (slices_Contains_int_int at2 x2).bind fun r2 =>
          if r2 = true then
            if 0 ≤ x2 ∧ x2 < ((len : Nat) : Int) then
              (mod? l0 (Int.toNat x2) (fun _ => 49)).bind fun l3 =>
              some (.inl ((wr (x2 + 1)), l3))
            else none
          else
            some (.inl ((wr (x2 + 1)), l0))
      else
        (slices_Contains_int_int at2 x2).bind fun r3 =>
        if r3 = true then
          if 0 ≤ x2 ∧ x2 < ((len : Nat) : Int) then
            (mod? l0 (Int.toNat x2) (fun _ => 49)).bind fun l4 =>
            some (.inl ((wr (x2 + 1)), l4))
          else none
        else
          some (.inl ((wr (x2 + 1)), l0))
    else none
  else
    some (.inr x3)
noncomputable def gate_Mark_0 (marks2 : List UInt8) (at2 : List Int) (len : Nat) (x0 : Int) (x2 : Int) (x3 : List Int) : Option ((List Int)) :=
  loopO (fun s : Int × (List Int) => gate_Mark_0_step marks2 at2 len x0 s.1 s.2) (x2, x3)
def gate_Mark_0_rel (marks2 : List UInt8) (at2 : List Int) (len : Nat) (x0 : Int) (r : ((List Int))) (q : Ex × PF.St) : Prop := (fun r (q : Ex × PF.St) => q = ((.exit 0), ⟨[(7, .arr 111 0 len 1 false)], [(111, ⟨true, (List.map u8av r)⟩)]⟩)) r q
def gate_Mark_0_inv (marks2 : List UInt8) (at2 : List Int) (len : Nat) (x0 : Int) (v : Int × (List Int)) (e : PF.St) : Prop := e = ⟨[(0, .str marks2), (2, .lst .no (List.map iav at2)), (7, .arr 111 0 len 1 false), (13, .int .i64 x0), (14, .int .i64 v.1)], [(111, ⟨true, (List.map u8av v.2)⟩)]⟩
theorem gate_Mark_0_sim (marks2 : List UInt8) (at2 : List Int) (len : Nat) (x0 : Int) (x2 : Int) (x3 : List Int) (s : PF.St) (hk : keep [0, 2, 7, 13, 14] [111] s = some ⟨[(0, .str marks2), (2, .lst .no (List.map iav at2)), (7, .arr 111 0 len 1 false), (13, .int .i64 x0), (14, .int .i64 x2)], [(111, ⟨true, (List.map u8av x3)⟩)]⟩) : Sim (gate_Mark_0 marks2 at2 len x0 x2 x3) (Gv (gate_Mark_0_rel marks2 at2 len x0)) (LM.loop ([0, 2, 7, 13, 14], [111], [7], B_gate_Mark_0) s) := by
  refine sim_loop M XE (gate_Mark_0_inv marks2 at2 len x0) (gate_Mark_0_rel marks2 at2 len x0) ?_ _ _ _ hk rfl
  clear hk
  rintro S hS hw hw8 R hR ⟨x2, x3⟩ env hp he
  change (⟨env, hp⟩ : PF.St) = ⟨[(0, .str marks2), (2, .lst .no (List.map iav at2)), (7, .arr 111 0 len 1 false), (13, .int .i64 x0), (14, .int .i64 x2)], [(111, ⟨true, (List.map u8av x3)⟩)]⟩ at he
  cases he
  show Sim (gate_Mark_0_step marks2 at2 len x0 x2 x3) _ _
  unfold gate_Mark_0_step
  simp only [hw]
  conv => arg 3; whnf
  refine Sim.ite Iff.rfl (fun hc => ?_) (fun hc => ?_)
  · conv => arg 3; whnf
    first | refine Sim.ite Iff.rfl (fun _ => ?_) (fun _ => Sim.no) | refine Sim.guard (fun _ => ?_)
    conv => arg 3; whnf
    refine Sim.opt (store_map (u := (fun _ => 48)) (m := (Int.toNat x2)) (by omega) (fun _ => rfl)) (fun l0 _ => ?_)
    conv => arg 3; whnf
    refine Sim.ite Iff.rfl (fun hc2 => ?_) (fun hc2 => ?_)
    · conv => arg 3; whnf
      refine Sim.goB (decide_eq_true hc2) ?_
      conv => arg 3; whnf
      refine Sim.goB (decide_eq_true hc2) ?_
      conv => arg 3; whnf
      refine Sim.ix rfl (fun b0 hb0 => ?_)
      conv => arg 3; whnf
      refine Sim.go hb0 ?_
      conv => arg 3; whnf
      refine Sim.goB (decide_eq_true hc2) ?_
      conv => arg 3; whnf
      refine Sim.goB (decide_eq_true hc2) ?_
      conv => arg 3; whnf
      refine Sim.ite Iff.rfl (fun hc3 => ?_) (fun hc3 => ?_)
      · conv => arg 3; whnf
        refine Sim.goB (decide_eq_true hc3) ?_
        conv => arg 3; whnf
        refine Sim.goB (decide_eq_true hc3) ?_
        conv => arg 3; whnf
        refine Sim.goB (decide_eq_true hc3) ?_
        conv => arg 3; whnf
        first | refine Sim.ite Iff.rfl (fun _ => ?_) (fun _ => Sim.no) | refine Sim.guard (fun _ => ?_)
        conv => arg 3; whnf
        refine Sim.opt (store_map (u := (fun _ => 49)) (m := (Int.toNat x2)) (by omega) (fun _ => rfl)) (fun l2 _ => ?_)
        conv => arg 3; whnf
        exact Sim.ret ⟨_, _, rfl, (keep_eq rfl rfl rfl (okH_flat (Flat.map (fun _ => rfl) _) (okH_nil _))), rfl⟩
      · conv => arg 3; whnf
        refine Sim.goF (decide_eq_false hc3) ?_
        conv => arg 3; whnf
        refine Sim.goF (decide_eq_false hc3) ?_
        conv => arg 3; whnf
        refine Sim.callR hR (slices_Contains_int_int_sim at2 x2) ?_
        rintro r2 q rfl
        conv => arg 3; whnf
        refine Sim.goF (decide_eq_false hc3) ?_
        conv => arg 3; whnf
        refine Sim.iteB (fun hc4 => ?_) (fun hc4 => ?_)
        · conv => arg 3; whnf
          first | refine Sim.ite Iff.rfl (fun _ => ?_) (fun _ => Sim.no) | refine Sim.guard (fun _ => ?_)
          conv => arg 3; whnf
          refine Sim.opt (store_map (u := (fun _ => 49)) (m := (Int.toNat x2)) (by omega) (fun _ => rfl)) (fun l3 _ => ?_)
          conv => arg 3; whnf
          exact Sim.ret ⟨_, _, rfl, (keep_eq rfl rfl rfl (okH_flat (Flat.map (fun _ => rfl) _) (okH_nil _))), rfl⟩
        · conv => arg 3; whnf
          exact Sim.ret ⟨_, _, rfl, (keep_eq rfl rfl rfl (okH_flat (Flat.map (fun _ => rfl) _) (okH_nil _))), rfl⟩
    · conv => arg 3; whnf
      refine Sim.goF (decide_eq_false hc2) ?_
      conv => arg 3; whnf
      refine Sim.goF (decide_eq_false hc2) ?_
      conv => arg 3; whnf
      refine Sim.goF (decide_eq_false hc2) ?_
      conv => arg 3; whnf
      refine Sim.goF (decide_eq_false hc2) ?_
      conv => arg 3; whnf
      refine Sim.callR hR (slices_Contains_int_int_sim at2 x2) ?_
      rintro r3 q rfl
      conv => arg 3; whnf
      refine Sim.iteB (fun hc5 => ?_) (fun hc5 => ?_)
      · conv => arg 3; whnf
        first | refine Sim.ite Iff.rfl (fun _ => ?_) (fun _ => Sim.no) | refine Sim.guard (fun _ => ?_)
        conv => arg 3; whnf
        refine Sim.opt (store_map (u := (fun _ => 49)) (m := (Int.toNat x2)) (by omega) (fun _ => rfl)) (fun l4 _ => ?_)
        conv => arg 3; whnf
        exact Sim.ret ⟨_, _, rfl, (keep_eq rfl rfl rfl (okH_flat (Flat.map (fun _ => rfl) _) (okH_nil _))), rfl⟩
      · conv => arg 3; whnf
        exact Sim.ret ⟨_, _, rfl, (keep_eq rfl rfl rfl (okH_flat (Flat.map (fun _ => rfl) _) (okH_nil _))), rfl⟩
  · conv => arg 3; whnf
    refine Sim.go (keep_eq rfl rfl rfl (okH_flat (Flat.map (fun _ => rfl) _) (okH_nil _))) ?_
    conv => arg 3; whnf
    exact Sim.ret ⟨_, rfl, rfl⟩
noncomputable def gate_Mark (marks : List UInt8) (n0 : Int) (at0 : List Int) : Option ((List UInt8)) :=
  (num_Clamp n0 0 64).bind fun r0 =>
  if 0 ≤ r0 ∧ r0 ≤ lenMax then
    (gate_Mark_0 marks at0 (Int.toNat r0) (((Int.toNat r0) : Nat) : Int) 0 (List.replicate (Int.toNat r0) 0)).bind fun r4 =>
    (sub? r4 0 (Int.toNat r0)).bind fun y0 =>
    some (bytesOf y0)
  else none
theorem gate_Mark_sim (marks : List UInt8) (n0 : Int) (at0 : List Int) : Sim (gate_Mark marks n0 at0) (Gv fun r q => q = (.str r, [])) (LM.call n_gate_Mark [.str marks, .int .i64 n0, .lst .no (List.map iav at0)] []) := by
  unfold gate_Mark
  refine sim_evR M XE rfl rfl fun S hS hw hw8 R hR => ?_
  conv => arg 3; whnf
  refine Sim.callR hR (num_Clamp_sim n0 0 64) ?_
  rintro r0 q rfl
  conv => arg 3; whnf
  first | refine Sim.ite Iff.rfl (fun _ => ?_) (fun _ => Sim.no) | refine Sim.guard (fun _ => ?_)
  conv => arg 3; whnf
  refine Sim.kl hS (rep_map (f := u8av) 0 _ rfl _) ?_
  conv => arg 3; whnf
  refine Sim.callL hR (gate_Mark_0_sim marks at0 (Int.toNat r0) (((Int.toNat r0) : Nat) : Int) 0 (List.replicate (Int.toNat r0) 0) _ (keep_eq rfl rfl rfl (okH_flat (Flat.map (fun _ => rfl) _) (okH_nil _)))) ?_
  rintro r4 q rfl
  conv => arg 3; whnf
  refine Sim.sub (f := u8av) rfl (fun y0 hy0 => ?_)
  conv => arg 3; whnf
  refine Sim.go (by rw [hy0]; exact bytes_mapM _) ?_
  conv => arg 3; whnf
  exact Sim.ret ⟨_, rfl, rfl⟩
noncomputable def roster_Mark (c0 : GConf) (marks : List UInt8) (nodes : List Int) : Option ((List UInt8)) :=
  (gate_Mark marks c0.N nodes).bind fun r0 =>
  some r0
theorem roster_Mark_sim (c0 : GConf) (marks : List UInt8) (nodes : List Int) : Sim (roster_Mark c0 marks nodes) (Gv fun r q => q = (.str r, [])) (LM.call n_roster_Mark [.agg [.int .i64 c0.N, .int .i64 c0.F, .int .i64 c0.D, .int .i64 c0.Period, .int .i64 c0.Rate, .int .i64 c0.Drift, .int .i64 c0.Offset, .int .i64 c0.Slot, .int .i64 c0.Mod, .int .i64 c0.Fresh, .lst .no (List.map iav c0.Table)], .str marks, .lst .no (List.map iav nodes)] []) := by
  unfold roster_Mark
  refine sim_evR M XE rfl rfl fun S hS hw hw8 R hR => ?_
  conv => arg 3; whnf
  refine Sim.callR hR (gate_Mark_sim marks c0.N nodes) ?_
  rintro r0 q rfl
  conv => arg 3; whnf
  exact Sim.ret ⟨_, rfl, rfl⟩
noncomputable def port_Blank_0_step (len : Nat) (x0 : Int) (c2 : GConf) (x2 : Int) (x3 : List GPort) : Option ((Int × (List GPort)) ⊕ ((List GPort))) :=
  if x2 < x0 then
    if 0 ≤ x2 ∧ x2 < ((len : Nat) : Int) then
      (mod? x3 (Int.toNat x2) (fun w0 => (GPort.mk w0.Text w0.Cycle c2.Fresh))).bind fun l0 =>
      some (.inl ((wr (x2 + 1)), l0))
    else none
  else
    some (.inr x3)
noncomputable def port_Blank_0 (len : Nat) (x0 : Int) (c2 : GConf) (x2 : Int) (x3 : List GPort) : Option ((List GPort)) :=
  loopO (fun s : Int × (List GPort) => port_Blank_0_step len x0 c2 s.1 s.2) (x2, x3)
def port_Blank_0_rel (len : Nat) (x0 : Int) (c2 : GConf) (r : ((List GPort))) (q : Ex × PF.St) : Prop := (fun r (q : Ex × PF.St) => q = ((.exit 0), ⟨[(3, .arr 110 0 len 3 true)], [(110, ⟨true, (List.flatMap GPort.cells r)⟩), (101, ⟨true, [.int .i64 c2.N, .int .i64 c2.F, .int .i64 c2.D, .int .i64 c2.Period, .int .i64 c2.Rate, .int .i64 c2.Drift, .int .i64 c2.Offset, .int .i64 c2.Slot, .int .i64 c2.Mod, .int .i64 c2.Fresh, .lst .no (List.map iav c2.Table)]⟩)]⟩)) r q
def port_Blank_0_inv (len : Nat) (x0 : Int) (c2 : GConf) (v : Int × (List GPort)) (e : PF.St) : Prop := e = ⟨[(1, .ptr 101 0), (3, .arr 110 0 len 3 true), (12, .int .i64 x0), (13, .int .i64 v.1)], [(110, ⟨true, (List.flatMap GPort.cells v.2)⟩), (101, ⟨true, [.int .i64 c2.N, .int .i64 c2.F, .int .i64 c2.D, .int .i64 c2.Period, .int .i64 c2.Rate, .int .i64 c2.Drift, .int .i64 c2.Offset, .int .i64 c2.Slot, .int .i64 c2.Mod, .int .i64 c2.Fresh, .lst .no (List.map iav c2.Table)]⟩)]⟩
theorem port_Blank_0_sim (len : Nat) (x0 : Int) (c2 : GConf) (x2 : Int) (x3 : List GPort) (s : PF.St) (hk : keep [1, 3, 12, 13] [101, 110] s = some ⟨[(1, .ptr 101 0), (3, .arr 110 0 len 3 true), (12, .int .i64 x0), (13, .int .i64 x2)], [(110, ⟨true, (List.flatMap GPort.cells x3)⟩), (101, ⟨true, [.int .i64 c2.N, .int .i64 c2.F, .int .i64 c2.D, .int .i64 c2.Period, .int .i64 c2.Rate, .int .i64 c2.Drift, .int .i64 c2.Offset, .int .i64 c2.Slot, .int .i64 c2.Mod, .int .i64 c2.Fresh, .lst .no (List.map iav c2.Table)]⟩)]⟩) : Sim (port_Blank_0 len x0 c2 x2 x3) (Gv (port_Blank_0_rel len x0 c2)) (LM.loop ([1, 3, 12, 13], [101, 110], [3], B_port_Blank_0) s) := by
  refine sim_loop M XE (port_Blank_0_inv len x0 c2) (port_Blank_0_rel len x0 c2) ?_ _ _ _ hk rfl
  clear hk
  rintro S hS hw hw8 R hR ⟨x2, x3⟩ env hp he
  change (⟨env, hp⟩ : PF.St) = ⟨[(1, .ptr 101 0), (3, .arr 110 0 len 3 true), (12, .int .i64 x0), (13, .int .i64 x2)], [(110, ⟨true, (List.flatMap GPort.cells x3)⟩), (101, ⟨true, [.int .i64 c2.N, .int .i64 c2.F, .int .i64 c2.D, .int .i64 c2.Period, .int .i64 c2.Rate, .int .i64 c2.Drift, .int .i64 c2.Offset, .int .i64 c2.Slot, .int .i64 c2.Mod, .int .i64 c2.Fresh, .lst .no (List.map iav c2.Table)]⟩)]⟩ at he
  cases he
  show Sim (port_Blank_0_step len x0 c2 x2 x3) _ _
  unfold port_Blank_0_step
  simp only [hw]
  conv => arg 3; whnf
  refine Sim.ite Iff.rfl (fun hc2 => ?_) (fun hc2 => ?_)
  · conv => arg 3; whnf
    first | refine Sim.ite Iff.rfl (fun _ => ?_) (fun _ => Sim.no) | refine Sim.guard (fun _ => ?_)
    conv => arg 3; whnf
    refine Sim.opt (store_fm (u := (fun w0 => (GPort.mk w0.Text w0.Cycle c2.Fresh))) (k := 2) (e := 3) (m := (Int.toNat x2)) (fun _ => rfl) (by omega) (by simp) (fun _ => rfl)) (fun l0 _ => ?_)
    conv => arg 3; whnf
    exact Sim.ret ⟨_, _, rfl, (keep_eq rfl rfl rfl (okH_flat (Flat.fm (fun _ => Flat.of rfl) _) (okH_cons rfl (okH_nil _)))), rfl⟩
  · conv => arg 3; whnf
    refine Sim.go (keep_eq rfl rfl rfl (okH_flat (Flat.fm (fun _ => Flat.of rfl) _) (okH_cons rfl (okH_nil _)))) ?_
    conv => arg 3; whnf
    exact Sim.ret ⟨_, rfl, rfl⟩
noncomputable def port_Blank (c0 : GConf) : Option ((List GPort)) :=
  (conf_Plain c0).bind fun r0 =>
  if r0 ≠ 0 then
    some ([] : List GPort)
  else
    if 0 ≤ c0.N ∧ c0.N ≤ lenMax then
      (port_Blank_0 (Int.toNat c0.N) (((Int.toNat c0.N) : Nat) : Int) c0 0 (List.replicate (Int.toNat c0.N) (GPort.mk ([] : List UInt8) 0 0))).bind fun r2 =>
      (sub? r2 0 (Int.toNat c0.N)).bind fun l2 =>
      some l2
    else none
theorem port_Blank_sim (c0 : GConf) : Sim (port_Blank c0) (Gv fun r q => q = (.lst .no (List.map GPort.av r), [])) (LM.call n_port_Blank [.agg [.int .i64 c0.N, .int .i64 c0.F, .int .i64 c0.D, .int .i64 c0.Period, .int .i64 c0.Rate, .int .i64 c0.Drift, .int .i64 c0.Offset, .int .i64 c0.Slot, .int .i64 c0.Mod, .int .i64 c0.Fresh, .lst .no (List.map iav c0.Table)]] []) := by
  unfold port_Blank
  refine sim_evR M XE rfl rfl fun S hS hw hw8 R hR => ?_
  conv => arg 3; whnf
  refine Sim.callR hR (conf_Plain_sim c0) ?_
  rintro r0 q rfl
  conv => arg 3; whnf
  refine Sim.ite Iff.rfl (fun hc => ?_) (fun hc => ?_)
  · conv => arg 3; whnf
    exact Sim.ret ⟨_, rfl, rfl⟩
  · conv => arg 3; whnf
    first | refine Sim.ite Iff.rfl (fun _ => ?_) (fun _ => Sim.no) | refine Sim.guard (fun _ => ?_)
    conv => arg 3; whnf
    refine Sim.kl hS (rep_fm (f := GPort.cells) (GPort.mk ([] : List UInt8) 0 0) _ rfl _) ?_
    conv => arg 3; whnf
    refine Sim.callL hR (port_Blank_0_sim (Int.toNat c0.N) (((Int.toNat c0.N) : Nat) : Int) c0 0 (List.replicate (Int.toNat c0.N) (GPort.mk ([] : List UInt8) 0 0)) _ (keep_eq rfl rfl rfl (okH_flat (Flat.fm (fun _ => Flat.of rfl) _) (okH_cons rfl (okH_nil _))))) ?_
    rintro r2 q rfl
    conv => arg 3; whnf
    refine Sim.opt (elems_fm (g := GPort.av) (e := 3) (b := 0) (fun _ => rfl) (fun _ => rfl) (fun _ => rfl) (by decide) (by omega)) (fun l2 _ => ?_)
    conv => arg 3; whnf
    exact Sim.ret ⟨_, rfl, rfl⟩
noncomputable def mem_lists_2 (s0 : List UInt8) : Option ((List UInt8)) :=
  (mem_cut s0 40).bind fun r0 =>
  some r0
theorem mem_lists_2_sim (s0 : List UInt8) : Sim (mem_lists_2 s0) (Gv fun r q => q = (.str r, [])) (LM.call n_mem_lists_2 [.str s0] []) := by
  unfold mem_lists_2
  refine sim_evR M XE rfl rfl fun S hS hw hw8 R hR => ?_
  conv => arg 3; whnf
  refine Sim.callR hR (mem_cut_sim s0 40) ?_
  rintro r0 q rfl
  conv => arg 3; whnf
  exact Sim.ret ⟨_, rfl, rfl⟩
noncomputable def hold_places (c0 : GConf) : Option Int :=
  (conf_Plain c0).bind fun r0 =>
  if r0 ≠ 0 then
    some 0
  else
    some (wr (c0.N * c0.D))
theorem hold_places_sim (c0 : GConf) : Sim (hold_places c0) (Gv fun r q => q = (.int .i64 r, [])) (LM.call n_hold_places [.agg [.int .i64 c0.N, .int .i64 c0.F, .int .i64 c0.D, .int .i64 c0.Period, .int .i64 c0.Rate, .int .i64 c0.Drift, .int .i64 c0.Offset, .int .i64 c0.Slot, .int .i64 c0.Mod, .int .i64 c0.Fresh, .lst .no (List.map iav c0.Table)]] []) := by
  unfold hold_places
  refine sim_evR M XE rfl rfl fun S hS hw hw8 R hR => ?_
  simp only [hw]
  conv => arg 3; whnf
  refine Sim.callR hR (conf_Plain_sim c0) ?_
  rintro r0 q rfl
  conv => arg 3; whnf
  refine Sim.ite Iff.rfl (fun hc => ?_) (fun hc => ?_)
  · conv => arg 3; whnf
    exact Sim.ret ⟨_, rfl, rfl⟩
  · conv => arg 3; whnf
    exact Sim.ret ⟨_, rfl, rfl⟩
noncomputable def hold_Empty (c0 : GConf) : Option ((List (List UInt8))) :=
  (hold_places c0).bind fun r0 =>
  if 0 ≤ r0 ∧ r0 ≤ lenMax then
    (sub? (List.replicate (Int.toNat r0) ([] : List UInt8)) 0 (Int.toNat r0)).bind fun l0 =>
    some l0
  else none
theorem hold_Empty_sim (c0 : GConf) : Sim (hold_Empty c0) (Gv fun r q => q = (.lst .no (List.map sav r), [])) (LM.call n_hold_Empty [.agg [.int .i64 c0.N, .int .i64 c0.F, .int .i64 c0.D, .int .i64 c0.Period, .int .i64 c0.Rate, .int .i64 c0.Drift, .int .i64 c0.Offset, .int .i64 c0.Slot, .int .i64 c0.Mod, .int .i64 c0.Fresh, .lst .no (List.map iav c0.Table)]] []) := by
  unfold hold_Empty
  refine sim_evR M XE rfl rfl fun S hS hw hw8 R hR => ?_
  conv => arg 3; whnf
  refine Sim.callR hR (hold_places_sim c0) ?_
  rintro r0 q rfl
  conv => arg 3; whnf
  first | refine Sim.ite Iff.rfl (fun _ => ?_) (fun _ => Sim.no) | refine Sim.guard (fun _ => ?_)
  conv => arg 3; whnf
  refine Sim.kl hS (rep_map (f := sav) ([] : List UInt8) _ rfl _) ?_
  conv => arg 3; whnf
  refine Sim.opt (elems_map (f := sav) (b := 0) (fun _ => ⟨rfl, rfl⟩) (by omega)) (fun l0 _ => ?_)
  conv => arg 3; whnf
  exact Sim.ret ⟨_, rfl, rfl⟩
noncomputable def mem_notes_0_step (x0 : List GEntry) (x2 : Int) (c2 : GConf) (out : List GEntry) (x3 : Int) : Option (((List GEntry) × Int) ⊕ ((List GEntry))) :=
  if x3 < x2 then
    (idx? x0 x3).bind fun z0 =>
    if z0.From < 0 then
      some (.inl (out, (wr (x3 + 1))))
    else
      if c2.N ≤ z0.From then
        some (.inl (out, (wr (x3 + 1))))
      else
        (ring_Put z0.At).bind fun r0 =>
        if List.length out + List.length [(GEntry.mk z0.From r0)] ≤ lenMax then
          some (.inl ((out ++ [(GEntry.mk z0.From r0)]), (wr (x3 + 1))))
        else none
  else
    some (.inr out)
noncomputable def mem_notes_0 (x0 : List GEntry) (x2 : Int) (c2 : GConf) (out : List GEntry) (x3 : Int) : Option ((List GEntry)) :=
  loopO (fun s : (List GEntry) × Int => mem_notes_0_step x0 x2 c2 s.1 s.2) (out, x3)
def mem_notes_0_rel (x0 : List GEntry) (x2 : Int) (c2 : GConf) (r : ((List GEntry))) (q : Ex × PF.St) : Prop := (fun r (q : Ex × PF.St) => ∃ g0', q = ((.exit 0), ⟨[(5, .lst g0' (List.map GEntry.av r))], [(102, ⟨true, [.int .i64 c2.N, .int .i64 c2.F, .int .i64 c2.D, .int .i64 c2.Period, .int .i64 c2.Rate, .int .i64 c2.Drift, .int .i64 c2.Offset, .int .i64 c2.Slot, .int .i64 c2.Mod, .int .i64 c2.Fresh, .lst .no (List.map iav c2.Table)]⟩)]⟩) ∧ Mg 2 g0') r q
def mem_notes_0_inv (x0 : List GEntry) (x2 : Int) (c2 : GConf) (v : (List GEntry) × Int) (e : PF.St) : Prop := ∃ g0, e = ⟨[(2, .ptr 102 0), (5, .lst g0 (List.map GEntry.av v.1)), (13, .lst .no (List.map GEntry.av x0)), (14, .int .i64 x2), (15, .int .i64 v.2)], [(102, ⟨true, [.int .i64 c2.N, .int .i64 c2.F, .int .i64 c2.D, .int .i64 c2.Period, .int .i64 c2.Rate, .int .i64 c2.Drift, .int .i64 c2.Offset, .int .i64 c2.Slot, .int .i64 c2.Mod, .int .i64 c2.Fresh, .lst .no (List.map iav c2.Table)]⟩)]⟩ ∧ Mg 2 g0
theorem mem_notes_0_sim (x0 : List GEntry) (x2 : Int) (c2 : GConf) (out : List GEntry) (x3 : Int) (g0 : Gr) (hg0 : Mg 2 g0) (s : PF.St) (hk : keep [2, 5, 13, 14, 15] [102] s = some ⟨[(2, .ptr 102 0), (5, .lst g0 (List.map GEntry.av out)), (13, .lst .no (List.map GEntry.av x0)), (14, .int .i64 x2), (15, .int .i64 x3)], [(102, ⟨true, [.int .i64 c2.N, .int .i64 c2.F, .int .i64 c2.D, .int .i64 c2.Period, .int .i64 c2.Rate, .int .i64 c2.Drift, .int .i64 c2.Offset, .int .i64 c2.Slot, .int .i64 c2.Mod, .int .i64 c2.Fresh, .lst .no (List.map iav c2.Table)]⟩)]⟩) : Sim (mem_notes_0 x0 x2 c2 out x3) (Gv (mem_notes_0_rel x0 x2 c2)) (LM.loop ([2, 5, 13, 14, 15], [102], [5], B_mem_notes_0) s) := by
  refine sim_loop M XE (mem_notes_0_inv x0 x2 c2) (mem_notes_0_rel x0 x2 c2) ?_ _ _ _ hk ⟨g0, rfl, hg0⟩
  clear hk hg0
  rintro S hS hw hw8 R hR ⟨out, x3⟩ env hp ⟨g0, he, hg0⟩
  change (⟨env, hp⟩ : PF.St) = ⟨[(2, .ptr 102 0), (5, .lst g0 (List.map GEntry.av out)), (13, .lst .no (List.map GEntry.av x0)), (14, .int .i64 x2), (15, .int .i64 x3)], [(102, ⟨true, [.int .i64 c2.N, .int .i64 c2.F, .int .i64 c2.D, .int .i64 c2.Period, .int .i64 c2.Rate, .int .i64 c2.Drift, .int .i64 c2.Offset, .int .i64 c2.Slot, .int .i64 c2.Mod, .int .i64 c2.Fresh, .lst .no (List.map iav c2.Table)]⟩)]⟩ at he
  cases he
  show Sim (mem_notes_0_step x0 x2 c2 out x3) _ _
  unfold mem_notes_0_step
  simp only [hw]
  conv => arg 3; whnf
  refine Sim.ite Iff.rfl (fun hc => ?_) (fun hc => ?_)
  · conv => arg 3; whnf
    refine Sim.ix (by simp) (fun z0 hz0 => ?_)
    conv => arg 3; whnf
    refine Sim.go (idx_map _ hz0) ?_
    conv => arg 3; whnf
    refine Sim.ite Iff.rfl (fun hc2 => ?_) (fun hc2 => ?_)
    · conv => arg 3; whnf
      refine Sim.goB (decide_eq_true hc2) ?_
      conv => arg 3; whnf
      refine Sim.goB (decide_eq_true hc2) ?_
      conv => arg 3; whnf
      refine Sim.goB (decide_eq_true hc2) ?_
      conv => arg 3; whnf
      refine Sim.goB (decide_eq_true hc2) ?_
      conv => arg 3; whnf
      refine Sim.goB (decide_eq_true hc2) ?_
      conv => arg 3; whnf
      exact Sim.ret ⟨_, _, rfl, rfl, ⟨_, rfl, hg0⟩⟩
    · conv => arg 3; whnf
      refine Sim.goF (decide_eq_false hc2) ?_
      conv => arg 3; whnf
      refine Sim.goF (decide_eq_false hc2) ?_
      conv => arg 3; whnf
      refine Sim.goF (decide_eq_false hc2) ?_
      conv => arg 3; whnf
      refine Sim.goF (decide_eq_false hc2) ?_
      conv => arg 3; whnf
      refine Sim.goF (decide_eq_false hc2) ?_
      conv => arg 3; whnf
      refine Sim.ite Iff.rfl (fun hc3 => ?_) (fun hc3 => ?_)
      · conv => arg 3; whnf
        exact Sim.ret ⟨_, _, rfl, rfl, ⟨_, rfl, hg0⟩⟩
      · conv => arg 3; whnf
        refine Sim.callR hR (ring_Put_sim z0.At) ?_
        rintro r0 q rfl
        conv => arg 3; whnf
        refine Sim.kl hS (ys := List.map GEntry.av [(GEntry.mk z0.From r0)]) rfl ?_
        conv => arg 3; whnf
        first | (refine Sim.goB (may_map (by intro _; rfl) hg0 _) ?_) | skip
        conv => arg 3; whnf
        first | (refine Sim.goB (okE_map (by intro _; exact ⟨rfl, rfl, rfl⟩) _) ?_) | skip
        conv => arg 3; whnf
        first | refine Sim.ite (by simp) (fun _ => ?_) (fun _ => Sim.no) | refine Sim.guard (fun _ => ?_)
        conv => arg 3; whnf
        refine Sim.kl hS (ys := List.map GEntry.av (out ++ [(GEntry.mk z0.From r0)])) (by simp) ?_
        conv => arg 3; whnf
        exact Sim.ret ⟨_, _, rfl, rfl, ⟨_, rfl, Mg.own⟩⟩
  · conv => arg 3; whnf
    exact Sim.ret ⟨_, rfl, ⟨_, rfl, hg0⟩⟩
noncomputable def mem_notes (c0 : GConf) (l0 : List GEntry) : Option ((List GEntry)) :=
  if 0 ≤ (max 0 (wr ((List.length l0 : Int) - 64))) ∧ (max 0 (wr ((List.length l0 : Int) - 64))) ≤ ((List.length l0) : Nat) then
    (mem_notes_0 (List.drop (Int.toNat (max 0 (wr ((List.length l0 : Int) - 64)))) l0) (List.length (List.drop (Int.toNat (max 0 (wr ((List.length l0 : Int) - 64)))) l0) : Int) c0 ([] : List GEntry) 0).bind fun r2 =>
    some r2
  else none
theorem mem_notes_sim (c0 : GConf) (l0 : List GEntry) : Sim (mem_notes c0 l0) (Gv fun r q => q = (.lst .no (List.map GEntry.av r), [])) (LM.call n_mem_notes [.agg [.int .i64 c0.N, .int .i64 c0.F, .int .i64 c0.D, .int .i64 c0.Period, .int .i64 c0.Rate, .int .i64 c0.Drift, .int .i64 c0.Offset, .int .i64 c0.Slot, .int .i64 c0.Mod, .int .i64 c0.Fresh, .lst .no (List.map iav c0.Table)], .lst .no (List.map GEntry.av l0)] []) := by
  unfold mem_notes
  refine sim_evR M XE rfl rfl fun S hS hw hw8 R hR => ?_
  simp only [hw]
  conv => arg 3; whnf
  refine Sim.ki hS (m := (List.length l0 : Int)) (by simp) ?_
  conv => arg 3; whnf
  first | (refine Sim.goB (headE_map (by intro _; rfl) _) ?_) | skip
  conv => arg 3; whnf
  refine Sim.kn hS (m := (List.length l0)) (by simp) ?_
  conv => arg 3; whnf
  first | refine Sim.ite Iff.rfl (fun _ => ?_) (fun _ => Sim.no) | refine Sim.guard (fun _ => ?_)
  conv => arg 3; whnf
  refine Sim.kl hS (ys := List.map GEntry.av (List.drop (Int.toNat (max 0 (S.wr ((List.length l0 : Int) - 64)))) l0)) (by simp only [PF.cut, List.map_drop, List.map_take]) ?_
  conv => arg 3; whnf
  refine Sim.ki hS (m := (List.length (List.drop (Int.toNat (max 0 (S.wr ((List.length l0 : Int) - 64)))) l0) : Int)) (by simp) ?_
  conv => arg 3; whnf
  refine Sim.callL hR (mem_notes_0_sim (List.drop (Int.toNat (max 0 (S.wr ((List.length l0 : Int) - 64)))) l0) (List.length (List.drop (Int.toNat (max 0 (S.wr ((List.length l0 : Int) - 64)))) l0) : Int) c0 ([] : List GEntry) 0 .full Mg.full _ rfl) ?_
  rintro r2 q ⟨g2, rfl, hg2⟩
  conv => arg 3; whnf
  exact Sim.ret ⟨_, rfl, rfl⟩
noncomputable def mem_numbers (L0 : GConf) (o0 : GMem) : Option GMem :=
  (ring_Put o0.Clock).bind fun r0 =>
  (ring_Put o0.Anchor).bind fun r2 =>
  (num_Clamp o0.Since 0 L0.Period).bind fun r3 =>
  (conf_Length L0).bind fun r4 =>
  (num_Clamp o0.Age 0 r4).bind fun r5 =>
  (num_Mod o0.Number L0.Mod).bind fun r6 =>
  (num_Clamp o0.Regular 0 2).bind fun r7 =>
  (diag_Clean o0.Diag).bind fun r8 =>
  some (GMem.mk r0 r2 r3 o0.Pipe r5 o0.Vec o0.Agreed r6 r7 o0.Members o0.Seen o0.Heard o0.Sent o0.Out o0.Line o0.Ports o0.Hold o0.Log r8)
theorem mem_numbers_sim (L0 : GConf) (o0 : GMem) : Sim (mem_numbers L0 o0) (Gv fun r q => q = (.tup [], [⟨true, [.int .i64 r.Clock, .int .i64 r.Anchor, .int .i64 r.Since, .str r.Pipe, .int .i64 r.Age, .str r.Vec, .str r.Agreed, .int .i64 r.Number, .int .i64 r.Regular, .str r.Members, .str r.Seen, .str r.Heard, .str r.Sent, .str r.Out, .str r.Line, .lst .no (List.map GPort.av r.Ports), .lst .no (List.map sav r.Hold), .lst .no (List.map GEntry.av r.Log), .int .i64 r.Diag.a0, .int .i64 r.Diag.a1, .int .i64 r.Diag.a2, .int .i64 r.Diag.a3, .int .i64 r.Diag.a4, .int .i64 r.Diag.a5]⟩])) (LM.call n_mem_numbers [.agg [.int .i64 L0.N, .int .i64 L0.F, .int .i64 L0.D, .int .i64 L0.Period, .int .i64 L0.Rate, .int .i64 L0.Drift, .int .i64 L0.Offset, .int .i64 L0.Slot, .int .i64 L0.Mod, .int .i64 L0.Fresh, .lst .no (List.map iav L0.Table)], .ptr 0 0] [⟨true, [.int .i64 o0.Clock, .int .i64 o0.Anchor, .int .i64 o0.Since, .str o0.Pipe, .int .i64 o0.Age, .str o0.Vec, .str o0.Agreed, .int .i64 o0.Number, .int .i64 o0.Regular, .str o0.Members, .str o0.Seen, .str o0.Heard, .str o0.Sent, .str o0.Out, .str o0.Line, .lst .no (List.map GPort.av o0.Ports), .lst .no (List.map sav o0.Hold), .lst .no (List.map GEntry.av o0.Log), .int .i64 o0.Diag.a0, .int .i64 o0.Diag.a1, .int .i64 o0.Diag.a2, .int .i64 o0.Diag.a3, .int .i64 o0.Diag.a4, .int .i64 o0.Diag.a5]⟩]) := by
  unfold mem_numbers
  refine sim_evR M XE rfl rfl fun S hS hw hw8 R hR => ?_
  conv => arg 3; whnf
  refine Sim.callR hR (ring_Put_sim o0.Clock) ?_
  rintro r0 q rfl
  conv => arg 3; whnf
  refine Sim.callR hR (ring_Put_sim o0.Anchor) ?_
  rintro r2 q rfl
  conv => arg 3; whnf
  refine Sim.callR hR (num_Clamp_sim o0.Since 0 L0.Period) ?_
  rintro r3 q rfl
  conv => arg 3; whnf
  refine Sim.callR hR (conf_Length_sim L0) ?_
  rintro r4 q rfl
  conv => arg 3; whnf
  refine Sim.callR hR (num_Clamp_sim o0.Age 0 r4) ?_
  rintro r5 q rfl
  conv => arg 3; whnf
  refine Sim.callR hR (num_Mod_sim o0.Number L0.Mod) ?_
  rintro r6 q rfl
  conv => arg 3; whnf
  refine Sim.callR hR (num_Clamp_sim o0.Regular 0 2) ?_
  rintro r7 q rfl
  conv => arg 3; whnf
  refine Sim.callR hR (diag_Clean_sim o0.Diag) ?_
  rintro r8 q rfl
  conv => arg 3; whnf
  exact Sim.ret ⟨_, rfl, rfl⟩
noncomputable def mem_texts (L0 : GConf) (o0 : GMem) : Option GMem :=
  (pipe_Blank L0).bind fun r0 =>
  if List.length o0.Pipe + List.length r0 ≤ 9223372036854775807 then
    (conf_Length L0).bind fun r2 =>
    (mem_cut (o0.Pipe ++ r0) r2).bind fun r3 =>
    (mem_digits r3 53).bind fun r4 =>
    (conf_Bits L0).bind fun r5 =>
    (mem_row o0.Vec r5 53).bind fun r6 =>
    (conf_Bits L0).bind fun r7 =>
    (mem_row o0.Agreed r7 49).bind fun r8 =>
    (roster_Mark L0 o0.Members ([] : List Int)).bind fun r9 =>
    (roster_Mark L0 o0.Seen ([] : List Int)).bind fun r10 =>
    (gate_Mark o0.Heard (List.length L0.Table : Int) ([] : List Int)).bind fun r11 =>
    (gate_Mark o0.Sent (List.length L0.Table : Int) ([] : List Int)).bind fun r12 =>
    (mem_cut o0.Out 16).bind fun r13 =>
    (mem_cut o0.Line 16).bind fun r14 =>
    some (GMem.mk o0.Clock o0.Anchor o0.Since r4 o0.Age r6 r8 o0.Number o0.Regular r9 r10 r11 r12 r13 r14 o0.Ports o0.Hold o0.Log o0.Diag)
  else none
theorem mem_texts_sim (L0 : GConf) (o0 : GMem) : Sim (mem_texts L0 o0) (Gv fun r q => q = (.tup [], [⟨true, [.int .i64 r.Clock, .int .i64 r.Anchor, .int .i64 r.Since, .str r.Pipe, .int .i64 r.Age, .str r.Vec, .str r.Agreed, .int .i64 r.Number, .int .i64 r.Regular, .str r.Members, .str r.Seen, .str r.Heard, .str r.Sent, .str r.Out, .str r.Line, .lst .no (List.map GPort.av r.Ports), .lst .no (List.map sav r.Hold), .lst .no (List.map GEntry.av r.Log), .int .i64 r.Diag.a0, .int .i64 r.Diag.a1, .int .i64 r.Diag.a2, .int .i64 r.Diag.a3, .int .i64 r.Diag.a4, .int .i64 r.Diag.a5]⟩])) (LM.call n_mem_texts [.agg [.int .i64 L0.N, .int .i64 L0.F, .int .i64 L0.D, .int .i64 L0.Period, .int .i64 L0.Rate, .int .i64 L0.Drift, .int .i64 L0.Offset, .int .i64 L0.Slot, .int .i64 L0.Mod, .int .i64 L0.Fresh, .lst .no (List.map iav L0.Table)], .ptr 0 0] [⟨true, [.int .i64 o0.Clock, .int .i64 o0.Anchor, .int .i64 o0.Since, .str o0.Pipe, .int .i64 o0.Age, .str o0.Vec, .str o0.Agreed, .int .i64 o0.Number, .int .i64 o0.Regular, .str o0.Members, .str o0.Seen, .str o0.Heard, .str o0.Sent, .str o0.Out, .str o0.Line, .lst .no (List.map GPort.av o0.Ports), .lst .no (List.map sav o0.Hold), .lst .no (List.map GEntry.av o0.Log), .int .i64 o0.Diag.a0, .int .i64 o0.Diag.a1, .int .i64 o0.Diag.a2, .int .i64 o0.Diag.a3, .int .i64 o0.Diag.a4, .int .i64 o0.Diag.a5]⟩]) := by
  unfold mem_texts
  refine sim_evR M XE rfl rfl fun S hS hw hw8 R hR => ?_
  conv => arg 3; whnf
  refine Sim.callR hR (pipe_Blank_sim L0) ?_
  rintro r0 q rfl
  conv => arg 3; whnf
  first | refine Sim.ite Iff.rfl (fun _ => ?_) (fun _ => Sim.no) | refine Sim.guard (fun _ => ?_)
  conv => arg 3; whnf
  refine Sim.callR hR (conf_Length_sim L0) ?_
  rintro r2 q rfl
  conv => arg 3; whnf
  refine Sim.callR hR (mem_cut_sim (o0.Pipe ++ r0) r2) ?_
  rintro r3 q rfl
  conv => arg 3; whnf
  refine Sim.callR hR (mem_digits_sim r3 53) ?_
  rintro r4 q rfl
  conv => arg 3; whnf
  refine Sim.callR hR (conf_Bits_sim L0) ?_
  rintro r5 q rfl
  conv => arg 3; whnf
  refine Sim.callR hR (mem_row_sim o0.Vec r5 53) ?_
  rintro r6 q rfl
  conv => arg 3; whnf
  refine Sim.callR hR (conf_Bits_sim L0) ?_
  rintro r7 q rfl
  conv => arg 3; whnf
  refine Sim.callR hR (mem_row_sim o0.Agreed r7 49) ?_
  rintro r8 q rfl
  conv => arg 3; whnf
  refine Sim.callR hR (roster_Mark_sim L0 o0.Members ([] : List Int)) ?_
  rintro r9 q rfl
  conv => arg 3; whnf
  refine Sim.callR hR (roster_Mark_sim L0 o0.Seen ([] : List Int)) ?_
  rintro r10 q rfl
  conv => arg 3; whnf
  refine Sim.ki hS (m := (List.length L0.Table : Int)) (by simp) ?_
  conv => arg 3; whnf
  refine Sim.callR hR (gate_Mark_sim o0.Heard (List.length L0.Table : Int) ([] : List Int)) ?_
  rintro r11 q rfl
  conv => arg 3; whnf
  refine Sim.ki hS (m := (List.length L0.Table : Int)) (by simp) ?_
  conv => arg 3; whnf
  refine Sim.callR hR (gate_Mark_sim o0.Sent (List.length L0.Table : Int) ([] : List Int)) ?_
  rintro r12 q rfl
  conv => arg 3; whnf
  refine Sim.callR hR (mem_cut_sim o0.Out 16) ?_
  rintro r13 q rfl
  conv => arg 3; whnf
  refine Sim.callR hR (mem_cut_sim o0.Line 16) ?_
  rintro r14 q rfl
  conv => arg 3; whnf
  exact Sim.ret ⟨_, rfl, rfl⟩
noncomputable def mem_lists_1 (p0 : GPort) (o0 : GConf) : Option (GPort × GConf) :=
  (mem_cut p0.Text 16).bind fun r0 =>
  (num_Mod p0.Cycle o0.Mod).bind fun r2 =>
  (num_Clamp p0.Age 0 o0.Fresh).bind fun r3 =>
  some ((GPort.mk r0 r2 r3), o0)
theorem mem_lists_1_sim (p0 : GPort) (o0 : GConf) : Sim (mem_lists_1 p0 o0) (Gv fun r q => q = (.agg [.str r.1.Text, .int .i64 r.1.Cycle, .int .i64 r.1.Age], [⟨true, [.int .i64 r.2.N, .int .i64 r.2.F, .int .i64 r.2.D, .int .i64 r.2.Period, .int .i64 r.2.Rate, .int .i64 r.2.Drift, .int .i64 r.2.Offset, .int .i64 r.2.Slot, .int .i64 r.2.Mod, .int .i64 r.2.Fresh, .lst .no (List.map iav r.2.Table)]⟩])) (LM.call n_mem_lists_1 [.agg [.str p0.Text, .int .i64 p0.Cycle, .int .i64 p0.Age], .ptr 0 0] [⟨true, [.int .i64 o0.N, .int .i64 o0.F, .int .i64 o0.D, .int .i64 o0.Period, .int .i64 o0.Rate, .int .i64 o0.Drift, .int .i64 o0.Offset, .int .i64 o0.Slot, .int .i64 o0.Mod, .int .i64 o0.Fresh, .lst .no (List.map iav o0.Table)]⟩]) := by
  unfold mem_lists_1
  refine sim_evR M XE rfl rfl fun S hS hw hw8 R hR => ?_
  conv => arg 3; whnf
  refine Sim.callR hR (mem_cut_sim p0.Text 16) ?_
  rintro r0 q rfl
  conv => arg 3; whnf
  refine Sim.callR hR (num_Mod_sim p0.Cycle o0.Mod) ?_
  rintro r2 q rfl
  conv => arg 3; whnf
  refine Sim.callR hR (num_Clamp_sim p0.Age 0 o0.Fresh) ?_
  rintro r3 q rfl
  conv => arg 3; whnf
  exact Sim.ret ⟨_, rfl, rfl⟩
noncomputable def mem_each_api_Port_0_step (len : Nat) (x0 : List GPort) (x2 : Int) (x3 : Int) (o2 : GConf) (x4 : List GPort) : Option ((Int × GConf × (List GPort)) ⊕ (GConf × (List GPort))) :=
  if x3 < x2 then
    (idx? x0 x3).bind fun z0 =>
    (mem_lists_1 z0 o2).bind fun r2 =>
    if 0 ≤ x3 ∧ x3 < ((len : Nat) : Int) then
      (mod? x4 (Int.toNat x3) (fun _ => r2.1)).bind fun l2 =>
      some (.inl ((wr (x3 + 1)), r2.2, l2))
    else none
  else
    some (.inr (o2, x4))
noncomputable def mem_each_api_Port_0 (len : Nat) (x0 : List GPort) (x2 : Int) (x3 : Int) (o2 : GConf) (x4 : List GPort) : Option (GConf × (List GPort)) :=
  loopO (fun s : Int × GConf × (List GPort) => mem_each_api_Port_0_step len x0 x2 s.1 s.2.1 s.2.2) (x3, o2, x4)
def mem_each_api_Port_0_rel (len : Nat) (x0 : List GPort) (x2 : Int) (r : (GConf × (List GPort))) (q : Ex × PF.St) : Prop := (fun r (q : Ex × PF.St) => q = ((.exit 0), ⟨[(9, .arr 1720 0 len 3 true)], [(0, ⟨true, [.int .i64 r.1.N, .int .i64 r.1.F, .int .i64 r.1.D, .int .i64 r.1.Period, .int .i64 r.1.Rate, .int .i64 r.1.Drift, .int .i64 r.1.Offset, .int .i64 r.1.Slot, .int .i64 r.1.Mod, .int .i64 r.1.Fresh, .lst .no (List.map iav r.1.Table)]⟩), (1720, ⟨true, (List.flatMap GPort.cells r.2)⟩)]⟩)) r q
def mem_each_api_Port_0_inv (len : Nat) (x0 : List GPort) (x2 : Int) (v : Int × GConf × (List GPort)) (e : PF.St) : Prop := e = ⟨[(2, .fn n_mem_lists_1 [.ptr 0 0]), (9, .arr 1720 0 len 3 true), (19, .lst .no (List.map GPort.av x0)), (20, .int .i64 x2), (21, .int .i64 v.1)], [(0, ⟨true, [.int .i64 v.2.1.N, .int .i64 v.2.1.F, .int .i64 v.2.1.D, .int .i64 v.2.1.Period, .int .i64 v.2.1.Rate, .int .i64 v.2.1.Drift, .int .i64 v.2.1.Offset, .int .i64 v.2.1.Slot, .int .i64 v.2.1.Mod, .int .i64 v.2.1.Fresh, .lst .no (List.map iav v.2.1.Table)]⟩), (1720, ⟨true, (List.flatMap GPort.cells v.2.2)⟩)]⟩
theorem mem_each_api_Port_0_sim (len : Nat) (x0 : List GPort) (x2 : Int) (x3 : Int) (o2 : GConf) (x4 : List GPort) (s : PF.St) (hk : keep [2, 9, 19, 20, 21] [1720, 1721, 1722, 1723] s = some ⟨[(2, .fn n_mem_lists_1 [.ptr 0 0]), (9, .arr 1720 0 len 3 true), (19, .lst .no (List.map GPort.av x0)), (20, .int .i64 x2), (21, .int .i64 x3)], [(0, ⟨true, [.int .i64 o2.N, .int .i64 o2.F, .int .i64 o2.D, .int .i64 o2.Period, .int .i64 o2.Rate, .int .i64 o2.Drift, .int .i64 o2.Offset, .int .i64 o2.Slot, .int .i64 o2.Mod, .int .i64 o2.Fresh, .lst .no (List.map iav o2.Table)]⟩), (1720, ⟨true, (List.flatMap GPort.cells x4)⟩)]⟩) : Sim (mem_each_api_Port_0 len x0 x2 x3 o2 x4) (Gv (mem_each_api_Port_0_rel len x0 x2)) (LM.loop ([2, 9, 19, 20, 21], [1720, 1721, 1722, 1723], [9], B_mem_each_api_Port_0) s) := by
  refine sim_loop M XE (mem_each_api_Port_0_inv len x0 x2) (mem_each_api_Port_0_rel len x0 x2) ?_ _ _ _ hk rfl
  clear hk
  rintro S hS hw hw8 R hR ⟨x3, o2, x4⟩ env hp he
  change (⟨env, hp⟩ : PF.St) = ⟨[(2, .fn n_mem_lists_1 [.ptr 0 0]), (9, .arr 1720 0 len 3 true), (19, .lst .no (List.map GPort.av x0)), (20, .int .i64 x2), (21, .int .i64 x3)], [(0, ⟨true, [.int .i64 o2.N, .int .i64 o2.F, .int .i64 o2.D, .int .i64 o2.Period, .int .i64 o2.Rate, .int .i64 o2.Drift, .int .i64 o2.Offset, .int .i64 o2.Slot, .int .i64 o2.Mod, .int .i64 o2.Fresh, .lst .no (List.map iav o2.Table)]⟩), (1720, ⟨true, (List.flatMap GPort.cells x4)⟩)]⟩ at he
  cases he
  show Sim (mem_each_api_Port_0_step len x0 x2 x3 o2 x4) _ _
  unfold mem_each_api_Port_0_step
  simp only [hw]
  conv => arg 3; whnf
  refine Sim.ite Iff.rfl (fun hc2 => ?_) (fun hc2 => ?_)
  · conv => arg 3; whnf
    refine Sim.ix (by simp) (fun z0 hz0 => ?_)
    conv => arg 3; whnf
    refine Sim.go (idx_map _ hz0) ?_
    conv => arg 3; whnf
    refine Sim.ks hS (b := [0]) rfl ?_
    conv => arg 3; whnf
    refine Sim.ks hS rfl ?_
    conv => arg 3; whnf
    refine Sim.ks hS rfl ?_
    conv => arg 3; whnf
    refine Sim.callR hR (mem_lists_1_sim z0 o2) ?_
    rintro r2 q rfl
    conv => arg 3; whnf
    refine Sim.ks hS (b := [0]) rfl ?_
    conv => arg 3; whnf
    refine Sim.ks hS rfl ?_
    conv => arg 3; whnf
    first | refine Sim.ite Iff.rfl (fun _ => ?_) (fun _ => Sim.no) | refine Sim.guard (fun _ => ?_)
    conv => arg 3; whnf
    refine Sim.opt (store_fm (u := (fun _ => r2.1)) (k := 0) (e := 3) (m := (Int.toNat x3)) (fun _ => rfl) (by omega) (by simp) (fun _ => rfl)) (fun l2 _ => ?_)
    conv => arg 3; whnf
    exact Sim.ret ⟨_, _, rfl, (keep_eq rfl rfl rfl (okH_cons rfl (okH_flat (Flat.fm (fun _ => Flat.of rfl) _) (okH_nil _)))), rfl⟩
  · conv => arg 3; whnf
    refine Sim.go (keep_eq rfl rfl rfl (okH_cons rfl (okH_flat (Flat.fm (fun _ => Flat.of rfl) _) (okH_nil _)))) ?_
    conv => arg 3; whnf
    exact Sim.ret ⟨_, rfl, rfl⟩
noncomputable def mem_each_api_Port (l0 : List GPort) (n0 : Int) (other : List GPort) (o0 : GConf) : Option ((List GPort) × GConf) :=
  if (List.length l0 : Int) ≠ n0 then
    some (other, o0)
  else
    (slices_Clone_api_Port_api_Port l0).bind fun r0 =>
    (mem_each_api_Port_0 (List.length r0) l0 (List.length l0 : Int) 0 o0 r0).bind fun r3 =>
    (sub? r3.2 0 (List.length r0)).bind fun l3 =>
    some (l3, r3.1)
theorem mem_each_api_Port_sim (l0 : List GPort) (n0 : Int) (other : List GPort) (o0 : GConf) : Sim (mem_each_api_Port l0 n0 other o0) (Gv fun r q => q = (.lst .no (List.map GPort.av r.1), [⟨true, [.int .i64 r.2.N, .int .i64 r.2.F, .int .i64 r.2.D, .int .i64 r.2.Period, .int .i64 r.2.Rate, .int .i64 r.2.Drift, .int .i64 r.2.Offset, .int .i64 r.2.Slot, .int .i64 r.2.Mod, .int .i64 r.2.Fresh, .lst .no (List.map iav r.2.Table)]⟩])) (LM.call n_mem_each_api_Port [.lst .no (List.map GPort.av l0), .int .i64 n0, .fn n_mem_lists_1 [.ptr 0 0], .lst .no (List.map GPort.av other)] [⟨true, [.int .i64 o0.N, .int .i64 o0.F, .int .i64 o0.D, .int .i64 o0.Period, .int .i64 o0.Rate, .int .i64 o0.Drift, .int .i64 o0.Offset, .int .i64 o0.Slot, .int .i64 o0.Mod, .int .i64 o0.Fresh, .lst .no (List.map iav o0.Table)]⟩]) := by
  unfold mem_each_api_Port
  refine sim_evR M XE rfl rfl fun S hS hw hw8 R hR => ?_
  conv => arg 3; whnf
  refine Sim.ki hS (m := (List.length l0 : Int)) (by simp) ?_
  conv => arg 3; whnf
  refine Sim.ite Iff.rfl (fun hc => ?_) (fun hc => ?_)
  · conv => arg 3; whnf
    exact Sim.ret ⟨_, rfl, rfl⟩
  · conv => arg 3; whnf
    refine Sim.ks hS (b := []) rfl ?_
    conv => arg 3; whnf
    refine Sim.ks hS rfl ?_
    conv => arg 3; whnf
    refine Sim.ks hS rfl ?_
    conv => arg 3; whnf
    refine Sim.callR hR (slices_Clone_api_Port_api_Port_sim l0 .no) ?_
    rintro r0 q rfl
    conv => arg 3; whnf
    refine Sim.ks hS (b := [1720]) rfl ?_
    conv => arg 3; whnf
    refine Sim.kfl (Flat.ren (Flat.fm (fun _ => Flat.of rfl) _) _) ?_
    conv => arg 3; whnf
    refine Sim.ks hS rfl ?_
    conv => arg 3; whnf
    refine Sim.ki hS (m := (List.length l0 : Int)) (by simp) ?_
    conv => arg 3; whnf
    refine Sim.callL hR (mem_each_api_Port_0_sim (List.length r0) l0 (List.length l0 : Int) 0 o0 r0 _ (keep_eq rfl rfl rfl (okH_cons rfl (okH_flat (Flat.fm (fun _ => Flat.of rfl) _) (okH_nil _))))) ?_
    rintro r3 q rfl
    conv => arg 3; whnf
    refine Sim.opt (elems_fm (g := GPort.av) (e := 3) (b := 0) (fun _ => rfl) (fun _ => rfl) (fun _ => rfl) (by decide) (by omega)) (fun l3 _ => ?_)
    conv => arg 3; whnf
    exact Sim.ret ⟨_, rfl, rfl⟩
noncomputable def mem_each_string_0_step (len : Nat) (x0 : List (List UInt8)) (x2 : Int) (x3 : Int) (x4 : List (List UInt8)) : Option ((Int × (List (List UInt8))) ⊕ ((List (List UInt8)))) :=
  if x3 < x2 then
    (idx? x0 x3).bind fun z0 =>
    (mem_lists_2 z0).bind fun r2 =>
    if 0 ≤ x3 ∧ x3 < ((len : Nat) : Int) then
      (mod? x4 (Int.toNat x3) (fun _ => r2)).bind fun l2 =>
      some (.inl ((wr (x3 + 1)), l2))
    else none
  else
    some (.inr x4)
noncomputable def mem_each_string_0 (len : Nat) (x0 : List (List UInt8)) (x2 : Int) (x3 : Int) (x4 : List (List UInt8)) : Option ((List (List UInt8))) :=
  loopO (fun s : Int × (List (List UInt8)) => mem_each_string_0_step len x0 x2 s.1 s.2) (x3, x4)
def mem_each_string_0_rel (len : Nat) (x0 : List (List UInt8)) (x2 : Int) (r : ((List (List UInt8)))) (q : Ex × PF.St) : Prop := (fun r (q : Ex × PF.St) => q = ((.exit 0), ⟨[(9, .arr 1720 0 len 1 false)], [(1720, ⟨true, (List.map sav r)⟩)]⟩)) r q
def mem_each_string_0_inv (len : Nat) (x0 : List (List UInt8)) (x2 : Int) (v : Int × (List (List UInt8))) (e : PF.St) : Prop := e = ⟨[(2, .fn n_mem_lists_2 []), (9, .arr 1720 0 len 1 false), (19, .lst .no (List.map sav x0)), (20, .int .i64 x2), (21, .int .i64 v.1)], [(1720, ⟨true, (List.map sav v.2)⟩)]⟩
theorem mem_each_string_0_sim (len : Nat) (x0 : List (List UInt8)) (x2 : Int) (x3 : Int) (x4 : List (List UInt8)) (s : PF.St) (hk : keep [2, 9, 19, 20, 21] [1720, 1721, 1722, 1723] s = some ⟨[(2, .fn n_mem_lists_2 []), (9, .arr 1720 0 len 1 false), (19, .lst .no (List.map sav x0)), (20, .int .i64 x2), (21, .int .i64 x3)], [(1720, ⟨true, (List.map sav x4)⟩)]⟩) : Sim (mem_each_string_0 len x0 x2 x3 x4) (Gv (mem_each_string_0_rel len x0 x2)) (LM.loop ([2, 9, 19, 20, 21], [1720, 1721, 1722, 1723], [9], B_mem_each_string_0) s) := by
  refine sim_loop M XE (mem_each_string_0_inv len x0 x2) (mem_each_string_0_rel len x0 x2) ?_ _ _ _ hk rfl
  clear hk
  rintro S hS hw hw8 R hR ⟨x3, x4⟩ env hp he
  change (⟨env, hp⟩ : PF.St) = ⟨[(2, .fn n_mem_lists_2 []), (9, .arr 1720 0 len 1 false), (19, .lst .no (List.map sav x0)), (20, .int .i64 x2), (21, .int .i64 x3)], [(1720, ⟨true, (List.map sav x4)⟩)]⟩ at he
  cases he
  show Sim (mem_each_string_0_step len x0 x2 x3 x4) _ _
  unfold mem_each_string_0_step
  simp only [hw]
  conv => arg 3; whnf
  refine Sim.ite Iff.rfl (fun hc2 => ?_) (fun hc2 => ?_)
  · conv => arg 3; whnf
    refine Sim.ix (by simp) (fun z0 hz0 => ?_)
    conv => arg 3; whnf
    refine Sim.go (idx_map _ hz0) ?_
    conv => arg 3; whnf
    refine Sim.ks hS (b := []) rfl ?_
    conv => arg 3; whnf
    refine Sim.ks hS rfl ?_
    conv => arg 3; whnf
    refine Sim.ks hS rfl ?_
    conv => arg 3; whnf
    refine Sim.callR hR (mem_lists_2_sim z0) ?_
    rintro r2 q rfl
    conv => arg 3; whnf
    refine Sim.ks hS (b := []) rfl ?_
    conv => arg 3; whnf
    refine Sim.ks hS rfl ?_
    conv => arg 3; whnf
    first | refine Sim.ite Iff.rfl (fun _ => ?_) (fun _ => Sim.no) | refine Sim.guard (fun _ => ?_)
    conv => arg 3; whnf
    refine Sim.opt (store_map (u := (fun _ => r2)) (m := (Int.toNat x3)) (by omega) (fun _ => rfl)) (fun l2 _ => ?_)
    conv => arg 3; whnf
    exact Sim.ret ⟨_, _, rfl, (keep_eq rfl rfl rfl (okH_flat (Flat.map (fun _ => rfl) _) (okH_nil _))), rfl⟩
  · conv => arg 3; whnf
    refine Sim.go (keep_eq rfl rfl rfl (okH_flat (Flat.map (fun _ => rfl) _) (okH_nil _))) ?_
    conv => arg 3; whnf
    exact Sim.ret ⟨_, rfl, rfl⟩
noncomputable def mem_each_string (l0 : List (List UInt8)) (n0 : Int) (other : List (List UInt8)) : Option ((List (List UInt8))) :=
  if (List.length l0 : Int) ≠ n0 then
    some other
  else
    (slices_Clone_string_string l0).bind fun r0 =>
    (mem_each_string_0 (List.length r0) l0 (List.length l0 : Int) 0 r0).bind fun r3 =>
    (sub? r3 0 (List.length r0)).bind fun l3 =>
    some l3
theorem mem_each_string_sim (l0 : List (List UInt8)) (n0 : Int) (other : List (List UInt8)) : Sim (mem_each_string l0 n0 other) (Gv fun r q => q = (.lst .no (List.map sav r), [])) (LM.call n_mem_each_string [.lst .no (List.map sav l0), .int .i64 n0, .fn n_mem_lists_2 [], .lst .no (List.map sav other)] []) := by
  unfold mem_each_string
  refine sim_evR M XE rfl rfl fun S hS hw hw8 R hR => ?_
  conv => arg 3; whnf
  refine Sim.ki hS (m := (List.length l0 : Int)) (by simp) ?_
  conv => arg 3; whnf
  refine Sim.ite Iff.rfl (fun hc => ?_) (fun hc => ?_)
  · conv => arg 3; whnf
    exact Sim.ret ⟨_, rfl, rfl⟩
  · conv => arg 3; whnf
    refine Sim.ks hS (b := []) rfl ?_
    conv => arg 3; whnf
    refine Sim.ks hS rfl ?_
    conv => arg 3; whnf
    refine Sim.ks hS rfl ?_
    conv => arg 3; whnf
    refine Sim.callR hR (slices_Clone_string_string_sim l0 .no) ?_
    rintro r0 q rfl
    conv => arg 3; whnf
    refine Sim.ks hS (b := [1720]) rfl ?_
    conv => arg 3; whnf
    refine Sim.kfl (Flat.ren (Flat.map (fun _ => rfl) _) _) ?_
    conv => arg 3; whnf
    refine Sim.ks hS rfl ?_
    conv => arg 3; whnf
    refine Sim.ki hS (m := (List.length l0 : Int)) (by simp) ?_
    conv => arg 3; whnf
    refine Sim.callL hR (mem_each_string_0_sim (List.length r0) l0 (List.length l0 : Int) 0 r0 _ (keep_eq rfl rfl rfl (okH_flat (Flat.map (fun _ => rfl) _) (okH_nil _)))) ?_
    rintro r3 q rfl
    conv => arg 3; whnf
    refine Sim.opt (elems_map (f := sav) (b := 0) (fun _ => ⟨rfl, rfl⟩) (by omega)) (fun l3 _ => ?_)
    conv => arg 3; whnf
    exact Sim.ret ⟨_, rfl, rfl⟩
noncomputable def mem_lists (c0 : GConf) (o0 : GMem) : Option GMem :=
  (port_Blank c0).bind fun r0 =>
  (mem_each_api_Port o0.Ports c0.N r0 c0).bind fun r2 =>
  (hold_Empty r2.2).bind fun r3 =>
  (mem_each_string o0.Hold (wr (r2.2.N * r2.2.D)) r3).bind fun r4 =>
  (mem_notes r2.2 o0.Log).bind fun r5 =>
  some (GMem.mk o0.Clock o0.Anchor o0.Since o0.Pipe o0.Age o0.Vec o0.Agreed o0.Number o0.Regular o0.Members o0.Seen o0.Heard o0.Sent o0.Out o0.Line r2.1 r4 r5 o0.Diag)
theorem mem_lists_sim (c0 : GConf) (o0 : GMem) : Sim (mem_lists c0 o0) (Gv fun r q => q = (.tup [], [⟨true, [.int .i64 r.Clock, .int .i64 r.Anchor, .int .i64 r.Since, .str r.Pipe, .int .i64 r.Age, .str r.Vec, .str r.Agreed, .int .i64 r.Number, .int .i64 r.Regular, .str r.Members, .str r.Seen, .str r.Heard, .str r.Sent, .str r.Out, .str r.Line, .lst .no (List.map GPort.av r.Ports), .lst .no (List.map sav r.Hold), .lst .no (List.map GEntry.av r.Log), .int .i64 r.Diag.a0, .int .i64 r.Diag.a1, .int .i64 r.Diag.a2, .int .i64 r.Diag.a3, .int .i64 r.Diag.a4, .int .i64 r.Diag.a5]⟩])) (LM.call n_mem_lists [.agg [.int .i64 c0.N, .int .i64 c0.F, .int .i64 c0.D, .int .i64 c0.Period, .int .i64 c0.Rate, .int .i64 c0.Drift, .int .i64 c0.Offset, .int .i64 c0.Slot, .int .i64 c0.Mod, .int .i64 c0.Fresh, .lst .no (List.map iav c0.Table)], .ptr 0 0] [⟨true, [.int .i64 o0.Clock, .int .i64 o0.Anchor, .int .i64 o0.Since, .str o0.Pipe, .int .i64 o0.Age, .str o0.Vec, .str o0.Agreed, .int .i64 o0.Number, .int .i64 o0.Regular, .str o0.Members, .str o0.Seen, .str o0.Heard, .str o0.Sent, .str o0.Out, .str o0.Line, .lst .no (List.map GPort.av o0.Ports), .lst .no (List.map sav o0.Hold), .lst .no (List.map GEntry.av o0.Log), .int .i64 o0.Diag.a0, .int .i64 o0.Diag.a1, .int .i64 o0.Diag.a2, .int .i64 o0.Diag.a3, .int .i64 o0.Diag.a4, .int .i64 o0.Diag.a5]⟩]) := by
  unfold mem_lists
  refine sim_evR M XE rfl rfl fun S hS hw hw8 R hR => ?_
  simp only [hw]
  conv => arg 3; whnf
  refine Sim.callR hR (port_Blank_sim c0) ?_
  rintro r0 q rfl
  conv => arg 3; whnf
  refine Sim.ks hS (b := [102]) rfl ?_
  conv => arg 3; whnf
  refine Sim.ks hS rfl ?_
  conv => arg 3; whnf
  refine Sim.ks hS rfl ?_
  conv => arg 3; whnf
  refine Sim.callR hR (mem_each_api_Port_sim o0.Ports c0.N r0 c0) ?_
  rintro r2 q rfl
  conv => arg 3; whnf
  refine Sim.ks hS (b := [102]) rfl ?_
  conv => arg 3; whnf
  refine Sim.ks hS rfl ?_
  conv => arg 3; whnf
  refine Sim.callR hR (hold_Empty_sim r2.2) ?_
  rintro r3 q rfl
  conv => arg 3; whnf
  refine Sim.ks hS (b := []) rfl ?_
  conv => arg 3; whnf
  refine Sim.ks hS rfl ?_
  conv => arg 3; whnf
  refine Sim.ks hS rfl ?_
  conv => arg 3; whnf
  refine Sim.callR hR (mem_each_string_sim o0.Hold (S.wr (r2.2.N * r2.2.D)) r3) ?_
  rintro r4 q rfl
  conv => arg 3; whnf
  refine Sim.ks hS (b := []) rfl ?_
  conv => arg 3; whnf
  refine Sim.ks hS rfl ?_
  conv => arg 3; whnf
  refine Sim.callR hR (mem_notes_sim r2.2 o0.Log) ?_
  rintro r5 q rfl
  conv => arg 3; whnf
  exact Sim.ret ⟨_, rfl, rfl⟩
noncomputable def mem_Mend (c0 : GConf) (m0 : GMem) : Option GMem :=
  (conf_Plain c0).bind fun r0 =>
  if r0 ≠ 0 then
    some (GMem.mk 0 0 0 ([] : List UInt8) 0 ([] : List UInt8) ([] : List UInt8) 0 0 ([] : List UInt8) ([] : List UInt8) ([] : List UInt8) ([] : List UInt8) ([] : List UInt8) ([] : List UInt8) ([] : List GPort) ([] : List (List UInt8)) ([] : List GEntry) (Ar6.mk 0 0 0 0 0 0))
  else
    (mem_numbers c0 m0).bind fun r2 =>
    (mem_texts c0 r2).bind fun r3 =>
    (mem_lists c0 r3).bind fun r4 =>
    some r4
theorem mem_Mend_sim (c0 : GConf) (m0 : GMem) : Sim (mem_Mend c0 m0) (Gv fun r q => q = (.agg [.int .i64 r.Clock, .int .i64 r.Anchor, .int .i64 r.Since, .str r.Pipe, .int .i64 r.Age, .str r.Vec, .str r.Agreed, .int .i64 r.Number, .int .i64 r.Regular, .str r.Members, .str r.Seen, .str r.Heard, .str r.Sent, .str r.Out, .str r.Line, .lst .no (List.map GPort.av r.Ports), .lst .no (List.map sav r.Hold), .lst .no (List.map GEntry.av r.Log), .int .i64 r.Diag.a0, .int .i64 r.Diag.a1, .int .i64 r.Diag.a2, .int .i64 r.Diag.a3, .int .i64 r.Diag.a4, .int .i64 r.Diag.a5], [])) (LM.call n_mem_Mend [.agg [.int .i64 c0.N, .int .i64 c0.F, .int .i64 c0.D, .int .i64 c0.Period, .int .i64 c0.Rate, .int .i64 c0.Drift, .int .i64 c0.Offset, .int .i64 c0.Slot, .int .i64 c0.Mod, .int .i64 c0.Fresh, .lst .no (List.map iav c0.Table)], .agg [.int .i64 m0.Clock, .int .i64 m0.Anchor, .int .i64 m0.Since, .str m0.Pipe, .int .i64 m0.Age, .str m0.Vec, .str m0.Agreed, .int .i64 m0.Number, .int .i64 m0.Regular, .str m0.Members, .str m0.Seen, .str m0.Heard, .str m0.Sent, .str m0.Out, .str m0.Line, .lst .no (List.map GPort.av m0.Ports), .lst .no (List.map sav m0.Hold), .lst .no (List.map GEntry.av m0.Log), .int .i64 m0.Diag.a0, .int .i64 m0.Diag.a1, .int .i64 m0.Diag.a2, .int .i64 m0.Diag.a3, .int .i64 m0.Diag.a4, .int .i64 m0.Diag.a5]] []) := by
  unfold mem_Mend
  refine sim_evR M XE rfl rfl fun S hS hw hw8 R hR => ?_
  conv => arg 3; whnf
  refine Sim.callR hR (conf_Plain_sim c0) ?_
  rintro r0 q rfl
  conv => arg 3; whnf
  refine Sim.ite Iff.rfl (fun hc => ?_) (fun hc => ?_)
  · conv => arg 3; whnf
    exact Sim.ret ⟨_, rfl, rfl⟩
  · conv => arg 3; whnf
    refine Sim.ks hS (b := [103]) rfl ?_
    conv => arg 3; whnf
    refine Sim.ks hS rfl ?_
    conv => arg 3; whnf
    refine Sim.ks hS rfl ?_
    conv => arg 3; whnf
    refine Sim.callR hR (mem_numbers_sim c0 m0) ?_
    rintro r2 q rfl
    conv => arg 3; whnf
    refine Sim.ks hS (b := [103]) rfl ?_
    conv => arg 3; whnf
    refine Sim.ks hS rfl ?_
    conv => arg 3; whnf
    refine Sim.ks hS (b := [103]) rfl ?_
    conv => arg 3; whnf
    refine Sim.ks hS rfl ?_
    conv => arg 3; whnf
    refine Sim.ks hS rfl ?_
    conv => arg 3; whnf
    refine Sim.callR hR (mem_texts_sim c0 r2) ?_
    rintro r3 q rfl
    conv => arg 3; whnf
    refine Sim.ks hS (b := [103]) rfl ?_
    conv => arg 3; whnf
    refine Sim.ks hS rfl ?_
    conv => arg 3; whnf
    refine Sim.ks hS (b := [103]) rfl ?_
    conv => arg 3; whnf
    refine Sim.ks hS rfl ?_
    conv => arg 3; whnf
    refine Sim.ks hS rfl ?_
    conv => arg 3; whnf
    refine Sim.callR hR (mem_lists_sim c0 r3) ?_
    rintro r4 q rfl
    conv => arg 3; whnf
    refine Sim.ks hS (b := [103]) rfl ?_
    conv => arg 3; whnf
    refine Sim.ks hS rfl ?_
    conv => arg 3; whnf
    exact Sim.ret ⟨_, rfl, rfl⟩
noncomputable def mem_Blank (c0 : GConf) : Option GMem :=
  (mem_Mend c0 (GMem.mk 0 0 0 ([] : List UInt8) 0 ([] : List UInt8) ([] : List UInt8) 0 0 ([] : List UInt8) ([] : List UInt8) ([] : List UInt8) ([] : List UInt8) ([] : List UInt8) ([] : List UInt8) ([] : List GPort) ([] : List (List UInt8)) ([] : List GEntry) (Ar6.mk 0 0 0 0 0 0))).bind fun r0 =>
  (conf_Plain c0).bind fun r2 =>
  if r2 = 0 then
    some (GMem.mk r0.Clock r0.Anchor c0.Period r0.Pipe r0.Age r0.Vec r0.Agreed r0.Number r0.Regular r0.Members r0.Seen r0.Heard r0.Sent r0.Out r0.Line r0.Ports r0.Hold r0.Log r0.Diag)
  else
    some r0
theorem mem_Blank_sim (c0 : GConf) : Sim (mem_Blank c0) (Gv fun r q => q = (.agg [.int .i64 r.Clock, .int .i64 r.Anchor, .int .i64 r.Since, .str r.Pipe, .int .i64 r.Age, .str r.Vec, .str r.Agreed, .int .i64 r.Number, .int .i64 r.Regular, .str r.Members, .str r.Seen, .str r.Heard, .str r.Sent, .str r.Out, .str r.Line, .lst .no (List.map GPort.av r.Ports), .lst .no (List.map sav r.Hold), .lst .no (List.map GEntry.av r.Log), .int .i64 r.Diag.a0, .int .i64 r.Diag.a1, .int .i64 r.Diag.a2, .int .i64 r.Diag.a3, .int .i64 r.Diag.a4, .int .i64 r.Diag.a5], [])) (LM.call n_mem_Blank [.agg [.int .i64 c0.N, .int .i64 c0.F, .int .i64 c0.D, .int .i64 c0.Period, .int .i64 c0.Rate, .int .i64 c0.Drift, .int .i64 c0.Offset, .int .i64 c0.Slot, .int .i64 c0.Mod, .int .i64 c0.Fresh, .lst .no (List.map iav c0.Table)]] []) := by
  unfold mem_Blank
  refine sim_evR M XE rfl rfl fun S hS hw hw8 R hR => ?_
  conv => arg 3; whnf
  refine Sim.callR hR (mem_Mend_sim c0 (GMem.mk 0 0 0 ([] : List UInt8) 0 ([] : List UInt8) ([] : List UInt8) 0 0 ([] : List UInt8) ([] : List UInt8) ([] : List UInt8) ([] : List UInt8) ([] : List UInt8) ([] : List UInt8) ([] : List GPort) ([] : List (List UInt8)) ([] : List GEntry) (Ar6.mk 0 0 0 0 0 0))) ?_
  rintro r0 q rfl
  conv => arg 3; whnf
  refine Sim.callR hR (conf_Plain_sim c0) ?_
  rintro r2 q rfl
  conv => arg 3; whnf
  refine Sim.ite Iff.rfl (fun hc => ?_) (fun hc => ?_)
  · conv => arg 3; whnf
    exact Sim.ret ⟨_, rfl, rfl⟩
  · conv => arg 3; whnf
    exact Sim.ret ⟨_, rfl, rfl⟩
noncomputable def mem_Same_1 (m0 : GMem) : Option ((Ar6 Int)) :=
  some (Ar6.mk m0.Clock m0.Anchor m0.Since m0.Age m0.Number m0.Regular)
theorem mem_Same_1_sim (m0 : GMem) : Sim (mem_Same_1 m0) (Gv fun r q => q = (.agg [.int .i64 r.a0, .int .i64 r.a1, .int .i64 r.a2, .int .i64 r.a3, .int .i64 r.a4, .int .i64 r.a5], [])) (LM.call n_mem_Same_1 [.agg [.int .i64 m0.Clock, .int .i64 m0.Anchor, .int .i64 m0.Since, .str m0.Pipe, .int .i64 m0.Age, .str m0.Vec, .str m0.Agreed, .int .i64 m0.Number, .int .i64 m0.Regular, .str m0.Members, .str m0.Seen, .str m0.Heard, .str m0.Sent, .str m0.Out, .str m0.Line, .lst .no (List.map GPort.av m0.Ports), .lst .no (List.map sav m0.Hold), .lst .no (List.map GEntry.av m0.Log), .int .i64 m0.Diag.a0, .int .i64 m0.Diag.a1, .int .i64 m0.Diag.a2, .int .i64 m0.Diag.a3, .int .i64 m0.Diag.a4, .int .i64 m0.Diag.a5]] []) := by
  unfold mem_Same_1
  refine sim_evR M XE rfl rfl fun S hS hw hw8 R hR => ?_
  conv => arg 3; whnf
  exact Sim.ret ⟨_, rfl, rfl⟩
noncomputable def mem_Same_2 (m0 : GMem) : Option ((Ar9 (List UInt8))) :=
  some (Ar9.mk m0.Pipe m0.Vec m0.Agreed m0.Members m0.Seen m0.Heard m0.Sent m0.Out m0.Line)
theorem mem_Same_2_sim (m0 : GMem) : Sim (mem_Same_2 m0) (Gv fun r q => q = (.agg [.str r.a0, .str r.a1, .str r.a2, .str r.a3, .str r.a4, .str r.a5, .str r.a6, .str r.a7, .str r.a8], [])) (LM.call n_mem_Same_2 [.agg [.int .i64 m0.Clock, .int .i64 m0.Anchor, .int .i64 m0.Since, .str m0.Pipe, .int .i64 m0.Age, .str m0.Vec, .str m0.Agreed, .int .i64 m0.Number, .int .i64 m0.Regular, .str m0.Members, .str m0.Seen, .str m0.Heard, .str m0.Sent, .str m0.Out, .str m0.Line, .lst .no (List.map GPort.av m0.Ports), .lst .no (List.map sav m0.Hold), .lst .no (List.map GEntry.av m0.Log), .int .i64 m0.Diag.a0, .int .i64 m0.Diag.a1, .int .i64 m0.Diag.a2, .int .i64 m0.Diag.a3, .int .i64 m0.Diag.a4, .int .i64 m0.Diag.a5]] []) := by
  unfold mem_Same_2
  refine sim_evR M XE rfl rfl fun S hS hw hw8 R hR => ?_
  conv => arg 3; whnf
  exact Sim.ret ⟨_, rfl, rfl⟩
noncomputable def slices_Equal_api_Port_api_Port_0_step (s12 : List GPort) (s22 : List GPort) (x0 : Int) (x2 : Int) : Option ((Int) ⊕ ((Bool) ⊕ (Unit))) :=
  if x2 < x0 then
    (idx? s12 x2).bind fun z0 =>
    (idx? s22 x2).bind fun z2 =>
    if (!(decide (z0.Text = z2.Text) && (decide (z0.Cycle = z2.Cycle) && (decide (z0.Age = z2.Age) && true)))) = true then
      some (.inr (.inl false))
    else
      some (.inl (wr (x2 + 1)))
  else
    some (.inr (.inr ()))
noncomputable def slices_Equal_api_Port_api_Port_0 (s12 : List GPort) (s22 : List GPort) (x0 : Int) (x2 : Int) : Option ((Bool) ⊕ (Unit)) :=
  loopO (fun s : Int => slices_Equal_api_Port_api_Port_0_step s12 s22 x0 s) x2
def slices_Equal_api_Port_api_Port_0_rel (s12 : List GPort) (s22 : List GPort) (x0 : Int) (r : ((Bool) ⊕ (Unit))) (q : Ex × PF.St) : Prop := (fun r (q : Ex × PF.St) => Sum.elim (fun r => (fun r (q : Ex × PF.St) => q = (Ex.ret, ⟨[(4, .bool r)], []⟩)) r q) (fun r => (fun r (q : Ex × PF.St) => q = ((.exit 0), ⟨[(4, .undef)], []⟩)) r q) r) r q
def slices_Equal_api_Port_api_Port_0_inv (s12 : List GPort) (s22 : List GPort) (x0 : Int) (v : Int) (e : PF.St) : Prop := e = ⟨[(0, .lst .no (List.map GPort.av s12)), (1, .lst .no (List.map GPort.av s22)), (12, .int .i64 x0), (13, .int .i64 v)], []⟩
theorem slices_Equal_api_Port_api_Port_0_sim (s12 : List GPort) (s22 : List GPort) (x0 : Int) (x2 : Int) (s : PF.St) (hk : keep [0, 1, 12, 13] [] s = some ⟨[(0, .lst .no (List.map GPort.av s12)), (1, .lst .no (List.map GPort.av s22)), (12, .int .i64 x0), (13, .int .i64 x2)], []⟩) : Sim (slices_Equal_api_Port_api_Port_0 s12 s22 x0 x2) (Gv (slices_Equal_api_Port_api_Port_0_rel s12 s22 x0)) (LM.loop ([0, 1, 12, 13], [], [4], B_slices_Equal_api_Port_api_Port_0) s) := by
  refine sim_loop M XE (slices_Equal_api_Port_api_Port_0_inv s12 s22 x0) (slices_Equal_api_Port_api_Port_0_rel s12 s22 x0) ?_ _ _ _ hk rfl
  clear hk
  rintro S hS hw hw8 R hR x2 env hp he
  change (⟨env, hp⟩ : PF.St) = ⟨[(0, .lst .no (List.map GPort.av s12)), (1, .lst .no (List.map GPort.av s22)), (12, .int .i64 x0), (13, .int .i64 x2)], []⟩ at he
  cases he
  show Sim (slices_Equal_api_Port_api_Port_0_step s12 s22 x0 x2) _ _
  unfold slices_Equal_api_Port_api_Port_0_step
  simp only [hw]
  conv => arg 3; whnf
  refine Sim.ite Iff.rfl (fun hc2 => ?_) (fun hc2 => ?_)
  · conv => arg 3; whnf
    refine Sim.ix (by simp) (fun z0 hz0 => ?_)
    conv => arg 3; whnf
    refine Sim.go (idx_map _ hz0) ?_
    conv => arg 3; whnf
    refine Sim.ix (by simp) (fun z2 hz2 => ?_)
    conv => arg 3; whnf
    refine Sim.go (idx_map _ hz2) ?_
    conv => arg 3; whnf
    refine Sim.iteB (fun hc3 => ?_) (fun hc3 => ?_)
    · conv => arg 3; whnf
      exact Sim.ret ⟨_, rfl, rfl⟩
    · conv => arg 3; whnf
      exact Sim.ret ⟨_, _, rfl, rfl, rfl⟩
  · conv => arg 3; whnf
    exact Sim.ret ⟨_, rfl, rfl⟩
noncomputable def slices_Equal_api_Port_api_Port (s1 : List GPort) (s2 : List GPort) : Option Bool :=
  if (List.length s1 : Int) ≠ (List.length s2 : Int) then
    some false
  else
    (slices_Equal_api_Port_api_Port_0 s1 s2 (List.length s1 : Int) 0).bind fun r0 =>
    Sum.elim
      (fun r2 =>
        some r2)
      (fun r3 =>
        some true)
      r0
theorem slices_Equal_api_Port_api_Port_sim (s1 : List GPort) (s2 : List GPort) : Sim (slices_Equal_api_Port_api_Port s1 s2) (Gv fun r q => q = (.bool r, [])) (LM.call n_slices_Equal_api_Port_api_Port [.lst .no (List.map GPort.av s1), .lst .no (List.map GPort.av s2)] []) := by
  unfold slices_Equal_api_Port_api_Port
  refine sim_evR M XE rfl rfl fun S hS hw hw8 R hR => ?_
  conv => arg 3; whnf
  refine Sim.ki hS (m := (List.length s1 : Int)) (by simp) ?_
  conv => arg 3; whnf
  refine Sim.ki hS (m := (List.length s2 : Int)) (by simp) ?_
  conv => arg 3; whnf
  refine Sim.ite Iff.rfl (fun hc => ?_) (fun hc => ?_)
  · conv => arg 3; whnf
    exact Sim.ret ⟨_, rfl, rfl⟩
  · conv => arg 3; whnf
    refine Sim.ki hS (m := (List.length s1 : Int)) (by simp) ?_
    conv => arg 3; whnf
    refine Sim.callL hR (slices_Equal_api_Port_api_Port_0_sim s1 s2 (List.length s1 : Int) 0 _ rfl) ?_
    rintro r0 q hr
    rcases r0 with r2 | r3
    · cases hr
      conv => arg 3; whnf
      exact Sim.ret ⟨_, rfl, rfl⟩
    · cases hr
      conv => arg 3; whnf
      exact Sim.ret ⟨_, rfl, rfl⟩
noncomputable def slices_Equal_string_string_0_step (s12 : List (List UInt8)) (s22 : List (List UInt8)) (x0 : Int) (x2 : Int) : Option ((Int) ⊕ ((Bool) ⊕ (Unit))) :=
  if x2 < x0 then
    (idx? s12 x2).bind fun z0 =>
    (idx? s22 x2).bind fun z2 =>
    if z0 ≠ z2 then
      some (.inr (.inl false))
    else
      some (.inl (wr (x2 + 1)))
  else
    some (.inr (.inr ()))
noncomputable def slices_Equal_string_string_0 (s12 : List (List UInt8)) (s22 : List (List UInt8)) (x0 : Int) (x2 : Int) : Option ((Bool) ⊕ (Unit)) :=
  loopO (fun s : Int => slices_Equal_string_string_0_step s12 s22 x0 s) x2
def slices_Equal_string_string_0_rel (s12 : List (List UInt8)) (s22 : List (List UInt8)) (x0 : Int) (r : ((Bool) ⊕ (Unit))) (q : Ex × PF.St) : Prop := (fun r (q : Ex × PF.St) => Sum.elim (fun r => (fun r (q : Ex × PF.St) => q = (Ex.ret, ⟨[(4, .bool r)], []⟩)) r q) (fun r => (fun r (q : Ex × PF.St) => q = ((.exit 0), ⟨[(4, .undef)], []⟩)) r q) r) r q
def slices_Equal_string_string_0_inv (s12 : List (List UInt8)) (s22 : List (List UInt8)) (x0 : Int) (v : Int) (e : PF.St) : Prop := e = ⟨[(0, .lst .no (List.map sav s12)), (1, .lst .no (List.map sav s22)), (12, .int .i64 x0), (13, .int .i64 v)], []⟩
theorem slices_Equal_string_string_0_sim (s12 : List (List UInt8)) (s22 : List (List UInt8)) (x0 : Int) (x2 : Int) (s : PF.St) (hk : keep [0, 1, 12, 13] [] s = some ⟨[(0, .lst .no (List.map sav s12)), (1, .lst .no (List.map sav s22)), (12, .int .i64 x0), (13, .int .i64 x2)], []⟩) : Sim (slices_Equal_string_string_0 s12 s22 x0 x2) (Gv (slices_Equal_string_string_0_rel s12 s22 x0)) (LM.loop ([0, 1, 12, 13], [], [4], B_slices_Equal_string_string_0) s) := by
  refine sim_loop M XE (slices_Equal_string_string_0_inv s12 s22 x0) (slices_Equal_string_string_0_rel s12 s22 x0) ?_ _ _ _ hk rfl
  clear hk
  rintro S hS hw hw8 R hR x2 env hp he
  change (⟨env, hp⟩ : PF.St) = ⟨[(0, .lst .no (List.map sav s12)), (1, .lst .no (List.map sav s22)), (12, .int .i64 x0), (13, .int .i64 x2)], []⟩ at he
  cases he
  show Sim (slices_Equal_string_string_0_step s12 s22 x0 x2) _ _
  unfold slices_Equal_string_string_0_step
  simp only [hw]
  conv => arg 3; whnf
  refine Sim.ite Iff.rfl (fun hc2 => ?_) (fun hc2 => ?_)
  · conv => arg 3; whnf
    refine Sim.ix (by simp) (fun z0 hz0 => ?_)
    conv => arg 3; whnf
    refine Sim.go (idx_map _ hz0) ?_
    conv => arg 3; whnf
    refine Sim.ix (by simp) (fun z2 hz2 => ?_)
    conv => arg 3; whnf
    refine Sim.go (idx_map _ hz2) ?_
    conv => arg 3; whnf
    refine Sim.ite Iff.rfl (fun hc3 => ?_) (fun hc3 => ?_)
    · conv => arg 3; whnf
      exact Sim.ret ⟨_, rfl, rfl⟩
    · conv => arg 3; whnf
      exact Sim.ret ⟨_, _, rfl, rfl, rfl⟩
  · conv => arg 3; whnf
    exact Sim.ret ⟨_, rfl, rfl⟩
noncomputable def slices_Equal_string_string (s1 : List (List UInt8)) (s2 : List (List UInt8)) : Option Bool :=
  if (List.length s1 : Int) ≠ (List.length s2 : Int) then
    some false
  else
    (slices_Equal_string_string_0 s1 s2 (List.length s1 : Int) 0).bind fun r0 =>
    Sum.elim
      (fun r2 =>
        some r2)
      (fun r3 =>
        some true)
      r0
theorem slices_Equal_string_string_sim (s1 : List (List UInt8)) (s2 : List (List UInt8)) : Sim (slices_Equal_string_string s1 s2) (Gv fun r q => q = (.bool r, [])) (LM.call n_slices_Equal_string_string [.lst .no (List.map sav s1), .lst .no (List.map sav s2)] []) := by
  unfold slices_Equal_string_string
  refine sim_evR M XE rfl rfl fun S hS hw hw8 R hR => ?_
  conv => arg 3; whnf
  refine Sim.ki hS (m := (List.length s1 : Int)) (by simp) ?_
  conv => arg 3; whnf
  refine Sim.ki hS (m := (List.length s2 : Int)) (by simp) ?_
  conv => arg 3; whnf
  refine Sim.ite Iff.rfl (fun hc => ?_) (fun hc => ?_)
  · conv => arg 3; whnf
    exact Sim.ret ⟨_, rfl, rfl⟩
  · conv => arg 3; whnf
    refine Sim.ki hS (m := (List.length s1 : Int)) (by simp) ?_
    conv => arg 3; whnf
    refine Sim.callL hR (slices_Equal_string_string_0_sim s1 s2 (List.length s1 : Int) 0 _ rfl) ?_
    rintro r0 q hr
    rcases r0 with r2 | r3
    · cases hr
      conv => arg 3; whnf
      exact Sim.ret ⟨_, rfl, rfl⟩
    · cases hr
      conv => arg 3; whnf
      exact Sim.ret ⟨_, rfl, rfl⟩
noncomputable def slices_Equal_api_Entry_api_Entry_0_step (s12 : List GEntry) (s22 : List GEntry) (x0 : Int) (x2 : Int) : Option ((Int) ⊕ ((Bool) ⊕ (Unit))) :=
  if x2 < x0 then
    (idx? s12 x2).bind fun z0 =>
    (idx? s22 x2).bind fun z2 =>
    if (!(decide (z0.From = z2.From) && (decide (z0.At = z2.At) && true))) = true then
      some (.inr (.inl false))
    else
      some (.inl (wr (x2 + 1)))
  else
    some (.inr (.inr ()))
noncomputable def slices_Equal_api_Entry_api_Entry_0 (s12 : List GEntry) (s22 : List GEntry) (x0 : Int) (x2 : Int) : Option ((Bool) ⊕ (Unit)) :=
  loopO (fun s : Int => slices_Equal_api_Entry_api_Entry_0_step s12 s22 x0 s) x2
def slices_Equal_api_Entry_api_Entry_0_rel (s12 : List GEntry) (s22 : List GEntry) (x0 : Int) (r : ((Bool) ⊕ (Unit))) (q : Ex × PF.St) : Prop := (fun r (q : Ex × PF.St) => Sum.elim (fun r => (fun r (q : Ex × PF.St) => q = (Ex.ret, ⟨[(4, .bool r)], []⟩)) r q) (fun r => (fun r (q : Ex × PF.St) => q = ((.exit 0), ⟨[(4, .undef)], []⟩)) r q) r) r q
def slices_Equal_api_Entry_api_Entry_0_inv (s12 : List GEntry) (s22 : List GEntry) (x0 : Int) (v : Int) (e : PF.St) : Prop := e = ⟨[(0, .lst .no (List.map GEntry.av s12)), (1, .lst .no (List.map GEntry.av s22)), (12, .int .i64 x0), (13, .int .i64 v)], []⟩
theorem slices_Equal_api_Entry_api_Entry_0_sim (s12 : List GEntry) (s22 : List GEntry) (x0 : Int) (x2 : Int) (s : PF.St) (hk : keep [0, 1, 12, 13] [] s = some ⟨[(0, .lst .no (List.map GEntry.av s12)), (1, .lst .no (List.map GEntry.av s22)), (12, .int .i64 x0), (13, .int .i64 x2)], []⟩) : Sim (slices_Equal_api_Entry_api_Entry_0 s12 s22 x0 x2) (Gv (slices_Equal_api_Entry_api_Entry_0_rel s12 s22 x0)) (LM.loop ([0, 1, 12, 13], [], [4], B_slices_Equal_api_Entry_api_Entry_0) s) := by
  refine sim_loop M XE (slices_Equal_api_Entry_api_Entry_0_inv s12 s22 x0) (slices_Equal_api_Entry_api_Entry_0_rel s12 s22 x0) ?_ _ _ _ hk rfl
  clear hk
  rintro S hS hw hw8 R hR x2 env hp he
  change (⟨env, hp⟩ : PF.St) = ⟨[(0, .lst .no (List.map GEntry.av s12)), (1, .lst .no (List.map GEntry.av s22)), (12, .int .i64 x0), (13, .int .i64 x2)], []⟩ at he
  cases he
  show Sim (slices_Equal_api_Entry_api_Entry_0_step s12 s22 x0 x2) _ _
  unfold slices_Equal_api_Entry_api_Entry_0_step
  simp only [hw]
  conv => arg 3; whnf
  refine Sim.ite Iff.rfl (fun hc2 => ?_) (fun hc2 => ?_)
  · conv => arg 3; whnf
    refine Sim.ix (by simp) (fun z0 hz0 => ?_)
    conv => arg 3; whnf
    refine Sim.go (idx_map _ hz0) ?_
    conv => arg 3; whnf
    refine Sim.ix (by simp) (fun z2 hz2 => ?_)
    conv => arg 3; whnf
    refine Sim.go (idx_map _ hz2) ?_
    conv => arg 3; whnf
    refine Sim.iteB (fun hc3 => ?_) (fun hc3 => ?_)
    · conv => arg 3; whnf
      exact Sim.ret ⟨_, rfl, rfl⟩
    · conv => arg 3; whnf
      exact Sim.ret ⟨_, _, rfl, rfl, rfl⟩
  · conv => arg 3; whnf
    exact Sim.ret ⟨_, rfl, rfl⟩
noncomputable def slices_Equal_api_Entry_api_Entry (s1 : List GEntry) (s2 : List GEntry) : Option Bool :=
  if (List.length s1 : Int) ≠ (List.length s2 : Int) then
    some false
  else
    (slices_Equal_api_Entry_api_Entry_0 s1 s2 (List.length s1 : Int) 0).bind fun r0 =>
    Sum.elim
      (fun r2 =>
        some r2)
      (fun r3 =>
        some true)
      r0
theorem slices_Equal_api_Entry_api_Entry_sim (s1 : List GEntry) (s2 : List GEntry) : Sim (slices_Equal_api_Entry_api_Entry s1 s2) (Gv fun r q => q = (.bool r, [])) (LM.call n_slices_Equal_api_Entry_api_Entry [.lst .no (List.map GEntry.av s1), .lst .no (List.map GEntry.av s2)] []) := by
  unfold slices_Equal_api_Entry_api_Entry
  refine sim_evR M XE rfl rfl fun S hS hw hw8 R hR => ?_
  conv => arg 3; whnf
  refine Sim.ki hS (m := (List.length s1 : Int)) (by simp) ?_
  conv => arg 3; whnf
  refine Sim.ki hS (m := (List.length s2 : Int)) (by simp) ?_
  conv => arg 3; whnf
  refine Sim.ite Iff.rfl (fun hc => ?_) (fun hc => ?_)
  · conv => arg 3; whnf
    exact Sim.ret ⟨_, rfl, rfl⟩
  · conv => arg 3; whnf
    refine Sim.ki hS (m := (List.length s1 : Int)) (by simp) ?_
    conv => arg 3; whnf
    refine Sim.callL hR (slices_Equal_api_Entry_api_Entry_0_sim s1 s2 (List.length s1 : Int) 0 _ rfl) ?_
    rintro r0 q hr
    rcases r0 with r2 | r3
    · cases hr
      conv => arg 3; whnf
      exact Sim.ret ⟨_, rfl, rfl⟩
    · cases hr
      conv => arg 3; whnf
      exact Sim.ret ⟨_, rfl, rfl⟩
noncomputable def mem_Same (a0 : GMem) (b0 : GMem) : Option Bool :=
  (mem_Same_1 a0).bind fun r0 =>
  (mem_Same_1 b0).bind fun r2 =>
  if (!(decide (r0.a0 = r2.a0) && (decide (r0.a1 = r2.a1) && (decide (r0.a2 = r2.a2) && (decide (r0.a3 = r2.a3) && (decide (r0.a4 = r2.a4) && (decide (r0.a5 = r2.a5) && true))))))) = true then
    some false
  else
    (mem_Same_2 a0).bind fun r3 =>
    (mem_Same_2 b0).bind fun r4 =>
    if (!(decide (r3.a0 = r4.a0) && (decide (r3.a1 = r4.a1) && (decide (r3.a2 = r4.a2) && (decide (r3.a3 = r4.a3) && (decide (r3.a4 = r4.a4) && (decide (r3.a5 = r4.a5) && (decide (r3.a6 = r4.a6) && (decide (r3.a7 = r4.a7) && (decide (r3.a8 = r4.a8) && true)))))))))) = true then
      some false
    else
      if (!(decide (a0.Diag.a0 = b0.Diag.a0) && (decide (a0.Diag.a1 = b0.Diag.a1) && (decide (a0.Diag.a2 = b0.Diag.a2) && (decide (a0.Diag.a3 = b0.Diag.a3) && (decide (a0.Diag.a4 = b0.Diag.a4) && (decide (a0.Diag.a5 = b0.Diag.a5) && true))))))) = true then
        some false
      else
        (slices_Equal_api_Port_api_Port a0.Ports b0.Ports).bind fun r5 =>
        if r5 = true then
          (slices_Equal_string_string a0.Hold b0.Hold).bind fun r6 =>
          if r6 = true then
            (slices_Equal_api_Entry_api_Entry a0.Log b0.Log).bind fun r7 =>
            some r7
          else
            some false
        else
          some false
theorem mem_Same_sim (a0 : GMem) (b0 : GMem) : Sim (mem_Same a0 b0) (Gv fun r q => q = (.bool r, [])) (LM.call n_mem_Same [.agg [.int .i64 a0.Clock, .int .i64 a0.Anchor, .int .i64 a0.Since, .str a0.Pipe, .int .i64 a0.Age, .str a0.Vec, .str a0.Agreed, .int .i64 a0.Number, .int .i64 a0.Regular, .str a0.Members, .str a0.Seen, .str a0.Heard, .str a0.Sent, .str a0.Out, .str a0.Line, .lst .no (List.map GPort.av a0.Ports), .lst .no (List.map sav a0.Hold), .lst .no (List.map GEntry.av a0.Log), .int .i64 a0.Diag.a0, .int .i64 a0.Diag.a1, .int .i64 a0.Diag.a2, .int .i64 a0.Diag.a3, .int .i64 a0.Diag.a4, .int .i64 a0.Diag.a5], .agg [.int .i64 b0.Clock, .int .i64 b0.Anchor, .int .i64 b0.Since, .str b0.Pipe, .int .i64 b0.Age, .str b0.Vec, .str b0.Agreed, .int .i64 b0.Number, .int .i64 b0.Regular, .str b0.Members, .str b0.Seen, .str b0.Heard, .str b0.Sent, .str b0.Out, .str b0.Line, .lst .no (List.map GPort.av b0.Ports), .lst .no (List.map sav b0.Hold), .lst .no (List.map GEntry.av b0.Log), .int .i64 b0.Diag.a0, .int .i64 b0.Diag.a1, .int .i64 b0.Diag.a2, .int .i64 b0.Diag.a3, .int .i64 b0.Diag.a4, .int .i64 b0.Diag.a5]] []) := by
  unfold mem_Same
  refine sim_evR M XE rfl rfl fun S hS hw hw8 R hR => ?_
  conv => arg 3; whnf
  refine Sim.callR hR (mem_Same_1_sim a0) ?_
  rintro r0 q rfl
  conv => arg 3; whnf
  refine Sim.callR hR (mem_Same_1_sim b0) ?_
  rintro r2 q rfl
  conv => arg 3; whnf
  refine Sim.iteB (fun hc => ?_) (fun hc => ?_)
  · conv => arg 3; whnf
    refine Sim.goB hc ?_
    conv => arg 3; whnf
    refine Sim.goB hc ?_
    conv => arg 3; whnf
    refine Sim.goB hc ?_
    conv => arg 3; whnf
    refine Sim.goB hc ?_
    conv => arg 3; whnf
    refine Sim.goB hc ?_
    conv => arg 3; whnf
    refine Sim.goB hc ?_
    conv => arg 3; whnf
    refine Sim.goB hc ?_
    conv => arg 3; whnf
    exact Sim.ret ⟨_, rfl, rfl⟩
  · conv => arg 3; whnf
    refine Sim.goF hc ?_
    conv => arg 3; whnf
    refine Sim.goF hc ?_
    conv => arg 3; whnf
    refine Sim.callR hR (mem_Same_2_sim a0) ?_
    rintro r3 q rfl
    conv => arg 3; whnf
    refine Sim.goF hc ?_
    conv => arg 3; whnf
    refine Sim.goF hc ?_
    conv => arg 3; whnf
    refine Sim.goF hc ?_
    conv => arg 3; whnf
    refine Sim.callR hR (mem_Same_2_sim b0) ?_
    rintro r4 q rfl
    conv => arg 3; whnf
    refine Sim.goF hc ?_
    conv => arg 3; whnf
    refine Sim.goF hc ?_
    conv => arg 3; whnf
    refine Sim.iteB (fun hc2 => ?_) (fun hc2 => ?_)
    · conv => arg 3; whnf
      refine Sim.goB hc2 ?_
      conv => arg 3; whnf
      refine Sim.goB hc2 ?_
      conv => arg 3; whnf
      refine Sim.goB hc2 ?_
      conv => arg 3; whnf
      refine Sim.goB hc2 ?_
      conv => arg 3; whnf
      refine Sim.goB hc2 ?_
      conv => arg 3; whnf
      exact Sim.ret ⟨_, rfl, rfl⟩
    · conv => arg 3; whnf
      refine Sim.goF hc2 ?_
      conv => arg 3; whnf
      refine Sim.goF hc2 ?_
      conv => arg 3; whnf
      refine Sim.goF hc2 ?_
      conv => arg 3; whnf
      refine Sim.goF hc2 ?_
      conv => arg 3; whnf
      refine Sim.goF hc2 ?_
      conv => arg 3; whnf
      refine Sim.iteB (fun hc3 => ?_) (fun hc3 => ?_)
      · conv => arg 3; whnf
        exact Sim.ret ⟨_, rfl, rfl⟩
      · conv => arg 3; whnf
        refine Sim.callR hR (slices_Equal_api_Port_api_Port_sim a0.Ports b0.Ports) ?_
        rintro r5 q rfl
        conv => arg 3; whnf
        refine Sim.iteB (fun hc4 => ?_) (fun hc4 => ?_)
        · conv => arg 3; whnf
          refine Sim.goB hc4 ?_
          conv => arg 3; whnf
          refine Sim.goB hc4 ?_
          conv => arg 3; whnf
          refine Sim.goB hc4 ?_
          conv => arg 3; whnf
          refine Sim.goB hc4 ?_
          conv => arg 3; whnf
          refine Sim.callR hR (slices_Equal_string_string_sim a0.Hold b0.Hold) ?_
          rintro r6 q rfl
          conv => arg 3; whnf
          refine Sim.goB hc4 ?_
          conv => arg 3; whnf
          refine Sim.iteB (fun hc5 => ?_) (fun hc5 => ?_)
          · conv => arg 3; whnf
            refine Sim.goB hc5 ?_
            conv => arg 3; whnf
            refine Sim.goB hc5 ?_
            conv => arg 3; whnf
            refine Sim.goB hc5 ?_
            conv => arg 3; whnf
            refine Sim.goB hc5 ?_
            conv => arg 3; whnf
            refine Sim.callR hR (slices_Equal_api_Entry_api_Entry_sim a0.Log b0.Log) ?_
            rintro r7 q rfl
            conv => arg 3; whnf
            refine Sim.goB hc5 ?_
            conv => arg 3; whnf
            exact Sim.ret ⟨_, rfl, rfl⟩
          · conv => arg 3; whnf
            refine Sim.goF hc5 ?_
            conv => arg 3; whnf
            refine Sim.goF hc5 ?_
            conv => arg 3; whnf
            refine Sim.goF hc5 ?_
            conv => arg 3; whnf
            refine Sim.goF hc5 ?_
            conv => arg 3; whnf
            refine Sim.goF hc5 ?_
            conv => arg 3; whnf
            exact Sim.ret ⟨_, rfl, rfl⟩
        · conv => arg 3; whnf
          refine Sim.goF hc4 ?_
          conv => arg 3; whnf
          refine Sim.goF hc4 ?_
          conv => arg 3; whnf
          refine Sim.goF hc4 ?_
          conv => arg 3; whnf
          refine Sim.goF hc4 ?_
          conv => arg 3; whnf
          refine Sim.goF hc4 ?_
          conv => arg 3; whnf
          exact Sim.ret ⟨_, rfl, rfl⟩
noncomputable def mem_Well (c0 : GConf) (m0 : GMem) : Option Bool :=
  (conf_Plain c0).bind fun r0 =>
  if r0 = 0 then
    (mem_Mend c0 m0).bind fun r2 =>
    (mem_Same m0 r2).bind fun r3 =>
    some r3
  else
    some false
theorem mem_Well_sim (c0 : GConf) (m0 : GMem) : Sim (mem_Well c0 m0) (Gv fun r q => q = (.bool r, [])) (LM.call n_mem_Well [.agg [.int .i64 c0.N, .int .i64 c0.F, .int .i64 c0.D, .int .i64 c0.Period, .int .i64 c0.Rate, .int .i64 c0.Drift, .int .i64 c0.Offset, .int .i64 c0.Slot, .int .i64 c0.Mod, .int .i64 c0.Fresh, .lst .no (List.map iav c0.Table)], .agg [.int .i64 m0.Clock, .int .i64 m0.Anchor, .int .i64 m0.Since, .str m0.Pipe, .int .i64 m0.Age, .str m0.Vec, .str m0.Agreed, .int .i64 m0.Number, .int .i64 m0.Regular, .str m0.Members, .str m0.Seen, .str m0.Heard, .str m0.Sent, .str m0.Out, .str m0.Line, .lst .no (List.map GPort.av m0.Ports), .lst .no (List.map sav m0.Hold), .lst .no (List.map GEntry.av m0.Log), .int .i64 m0.Diag.a0, .int .i64 m0.Diag.a1, .int .i64 m0.Diag.a2, .int .i64 m0.Diag.a3, .int .i64 m0.Diag.a4, .int .i64 m0.Diag.a5]] []) := by
  unfold mem_Well
  refine sim_evR M XE rfl rfl fun S hS hw hw8 R hR => ?_
  conv => arg 3; whnf
  refine Sim.callR hR (conf_Plain_sim c0) ?_
  rintro r0 q rfl
  conv => arg 3; whnf
  refine Sim.ite Iff.rfl (fun hc => ?_) (fun hc => ?_)
  · conv => arg 3; whnf
    refine Sim.goB (decide_eq_true hc) ?_
    conv => arg 3; whnf
    refine Sim.goB (decide_eq_true hc) ?_
    conv => arg 3; whnf
    refine Sim.goB (decide_eq_true hc) ?_
    conv => arg 3; whnf
    refine Sim.callR hR (mem_Mend_sim c0 m0) ?_
    rintro r2 q rfl
    conv => arg 3; whnf
    refine Sim.goB (decide_eq_true hc) ?_
    conv => arg 3; whnf
    refine Sim.callR hR (mem_Same_sim m0 r2) ?_
    rintro r3 q rfl
    conv => arg 3; whnf
    refine Sim.goB (decide_eq_true hc) ?_
    conv => arg 3; whnf
    exact Sim.ret ⟨_, rfl, rfl⟩
  · conv => arg 3; whnf
    refine Sim.goF (decide_eq_false hc) ?_
    conv => arg 3; whnf
    refine Sim.goF (decide_eq_false hc) ?_
    conv => arg 3; whnf
    refine Sim.goF (decide_eq_false hc) ?_
    conv => arg 3; whnf
    refine Sim.goF (decide_eq_false hc) ?_
    conv => arg 3; whnf
    refine Sim.goF (decide_eq_false hc) ?_
    conv => arg 3; whnf
    exact Sim.ret ⟨_, rfl, rfl⟩
noncomputable def l28_small : Option GConf :=
  some (GConf.mk 4 1 1 20 64 1 64 190 10 3 [0, 1, 2, 3])
theorem l28_small_sim : Sim (l28_small) (Gv fun r q => q = (.agg [.int .i64 r.N, .int .i64 r.F, .int .i64 r.D, .int .i64 r.Period, .int .i64 r.Rate, .int .i64 r.Drift, .int .i64 r.Offset, .int .i64 r.Slot, .int .i64 r.Mod, .int .i64 r.Fresh, .lst .no (List.map iav r.Table)], [])) (LM.call n_l28_small [] []) := Sim.ret ⟨(.agg [.int .i64 4, .int .i64 1, .int .i64 1, .int .i64 20, .int .i64 64, .int .i64 1, .int .i64 64, .int .i64 190, .int .i64 10, .int .i64 3, .lst .no (List.map iav [0, 1, 2, 3])], []), (lim_call M XE).2 ⟨400, by kernel_rfl⟩, rfl⟩
def l28_known : Option Bool := some true
theorem l28_known_sim : Sim l28_known (Gv fun r q => q = (.bool r, [])) (LM.call n_l28_known [] []) := Sim.ret ⟨_, (lim_call M XE).2 ⟨400, by kernel_rfl⟩, rfl⟩
noncomputable def r03_within (n0 : Int) (low : Int) (high : Int) : Option Bool :=
  if low ≤ n0 then
    some (decide (n0 ≤ high))
  else
    some false
theorem r03_within_sim (n0 : Int) (low : Int) (high : Int) : Sim (r03_within n0 low high) (Gv fun r q => q = (.bool r, [])) (LM.call n_r03_within [.int .i64 n0, .int .i64 low, .int .i64 high] []) := by
  unfold r03_within
  refine sim_evR M XE rfl rfl fun S hS hw hw8 R hR => ?_
  conv => arg 3; whnf
  refine Sim.ite Iff.rfl (fun hc => ?_) (fun hc => ?_)
  · conv => arg 3; whnf
    refine Sim.goB (decide_eq_true hc) ?_
    conv => arg 3; whnf
    refine Sim.goB (decide_eq_true hc) ?_
    conv => arg 3; whnf
    refine Sim.goB (decide_eq_true hc) ?_
    conv => arg 3; whnf
    exact Sim.ret ⟨_, rfl, rfl⟩
  · conv => arg 3; whnf
    refine Sim.goF (decide_eq_false hc) ?_
    conv => arg 3; whnf
    refine Sim.goF (decide_eq_false hc) ?_
    conv => arg 3; whnf
    refine Sim.goF (decide_eq_false hc) ?_
    conv => arg 3; whnf
    exact Sim.ret ⟨_, rfl, rfl⟩
noncomputable def r03_owned_0_step (c2 : GConf) (i0 : Int) : Option ((Int) ⊕ ((Bool) ⊕ (Unit))) :=
  if i0 < (List.length c2.Table : Int) then
    (idx? c2.Table i0).bind fun z0 =>
    (r03_within z0 0 (wr (c2.N - 1))).bind fun r0 =>
    if (!r0) = true then
      some (.inr (.inl false))
    else
      some (.inl (wr (i0 + 1)))
  else
    some (.inr (.inr ()))
noncomputable def r03_owned_0 (c2 : GConf) (i0 : Int) : Option ((Bool) ⊕ (Unit)) :=
  loopO (fun s : Int => r03_owned_0_step c2 s) i0
def r03_owned_0_rel (c2 : GConf) (r : ((Bool) ⊕ (Unit))) (q : Ex × PF.St) : Prop := (fun r (q : Ex × PF.St) => Sum.elim (fun r => (fun r (q : Ex × PF.St) => q = (Ex.ret, ⟨[(1, .ptr 101 0), (2, .bool r)], [(101, ⟨true, [.int .i64 c2.N, .int .i64 c2.F, .int .i64 c2.D, .int .i64 c2.Period, .int .i64 c2.Rate, .int .i64 c2.Drift, .int .i64 c2.Offset, .int .i64 c2.Slot, .int .i64 c2.Mod, .int .i64 c2.Fresh, .lst .no (List.map iav c2.Table)]⟩)]⟩)) r q) (fun r => (fun r (q : Ex × PF.St) => q = ((.exit 0), ⟨[(1, .ptr 101 0), (2, .undef)], [(101, ⟨true, [.int .i64 c2.N, .int .i64 c2.F, .int .i64 c2.D, .int .i64 c2.Period, .int .i64 c2.Rate, .int .i64 c2.Drift, .int .i64 c2.Offset, .int .i64 c2.Slot, .int .i64 c2.Mod, .int .i64 c2.Fresh, .lst .no (List.map iav c2.Table)]⟩)]⟩)) r q) r) r q
def r03_owned_0_inv (c2 : GConf) (v : Int) (e : PF.St) : Prop := e = ⟨[(1, .ptr 101 0), (3, .int .i64 v)], [(101, ⟨true, [.int .i64 c2.N, .int .i64 c2.F, .int .i64 c2.D, .int .i64 c2.Period, .int .i64 c2.Rate, .int .i64 c2.Drift, .int .i64 c2.Offset, .int .i64 c2.Slot, .int .i64 c2.Mod, .int .i64 c2.Fresh, .lst .no (List.map iav c2.Table)]⟩)]⟩
theorem r03_owned_0_sim (c2 : GConf) (i0 : Int) (s : PF.St) (hk : keep [1, 3] [101] s = some ⟨[(1, .ptr 101 0), (3, .int .i64 i0)], [(101, ⟨true, [.int .i64 c2.N, .int .i64 c2.F, .int .i64 c2.D, .int .i64 c2.Period, .int .i64 c2.Rate, .int .i64 c2.Drift, .int .i64 c2.Offset, .int .i64 c2.Slot, .int .i64 c2.Mod, .int .i64 c2.Fresh, .lst .no (List.map iav c2.Table)]⟩)]⟩) : Sim (r03_owned_0 c2 i0) (Gv (r03_owned_0_rel c2)) (LM.loop ([1, 3], [101], [1, 2], B_r03_owned_0) s) := by
  refine sim_loop M XE (r03_owned_0_inv c2) (r03_owned_0_rel c2) ?_ _ _ _ hk rfl
  clear hk
  rintro S hS hw hw8 R hR i0 env hp he
  change (⟨env, hp⟩ : PF.St) = ⟨[(1, .ptr 101 0), (3, .int .i64 i0)], [(101, ⟨true, [.int .i64 c2.N, .int .i64 c2.F, .int .i64 c2.D, .int .i64 c2.Period, .int .i64 c2.Rate, .int .i64 c2.Drift, .int .i64 c2.Offset, .int .i64 c2.Slot, .int .i64 c2.Mod, .int .i64 c2.Fresh, .lst .no (List.map iav c2.Table)]⟩)]⟩ at he
  cases he
  show Sim (r03_owned_0_step c2 i0) _ _
  unfold r03_owned_0_step
  simp only [hw]
  conv => arg 3; whnf
  refine Sim.ki hS (m := (List.length c2.Table : Int)) (by simp) ?_
  conv => arg 3; whnf
  refine Sim.ite Iff.rfl (fun hc => ?_) (fun hc => ?_)
  · conv => arg 3; whnf
    refine Sim.ix (by simp) (fun z0 hz0 => ?_)
    conv => arg 3; whnf
    refine Sim.go (idx_map _ hz0) ?_
    conv => arg 3; whnf
    refine Sim.callR hR (r03_within_sim z0 0 (S.wr (c2.N - 1))) ?_
    rintro r0 q rfl
    conv => arg 3; whnf
    refine Sim.iteB (fun hc2 => ?_) (fun hc2 => ?_)
    · conv => arg 3; whnf
      exact Sim.ret ⟨_, rfl, rfl⟩
    · conv => arg 3; whnf
      exact Sim.ret ⟨_, _, rfl, rfl, rfl⟩
  · conv => arg 3; whnf
    exact Sim.ret ⟨_, rfl, rfl⟩
noncomputable def r03_owned_1_step (n2 : Int) (c4 : GConf) (has : Bool) (i2 : Int) : Option ((Bool × Int) ⊕ Bool) :=
  if i2 < (List.length c4.Table : Int) then
    if has = true then
      some (.inl (true, (wr (i2 + 1))))
    else
      (idx? c4.Table i2).bind fun z2 =>
      some (.inl ((decide (z2 = n2)), (wr (i2 + 1))))
  else
    some (.inr has)
noncomputable def r03_owned_1 (n2 : Int) (c4 : GConf) (has : Bool) (i2 : Int) : Option Bool :=
  loopO (fun s : Bool × Int => r03_owned_1_step n2 c4 s.1 s.2) (has, i2)
def r03_owned_1_rel (n2 : Int) (c4 : GConf) (r : Bool) (q : Ex × PF.St) : Prop := (fun r (q : Ex × PF.St) => q = ((.exit 4), ⟨[(1, .ptr 101 0), (4, .int .i64 n2), (5, .bool r)], [(101, ⟨true, [.int .i64 c4.N, .int .i64 c4.F, .int .i64 c4.D, .int .i64 c4.Period, .int .i64 c4.Rate, .int .i64 c4.Drift, .int .i64 c4.Offset, .int .i64 c4.Slot, .int .i64 c4.Mod, .int .i64 c4.Fresh, .lst .no (List.map iav c4.Table)]⟩)]⟩)) r q
def r03_owned_1_inv (n2 : Int) (c4 : GConf) (v : Bool × Int) (e : PF.St) : Prop := e = ⟨[(1, .ptr 101 0), (4, .int .i64 n2), (5, .bool v.1), (6, .int .i64 v.2)], [(101, ⟨true, [.int .i64 c4.N, .int .i64 c4.F, .int .i64 c4.D, .int .i64 c4.Period, .int .i64 c4.Rate, .int .i64 c4.Drift, .int .i64 c4.Offset, .int .i64 c4.Slot, .int .i64 c4.Mod, .int .i64 c4.Fresh, .lst .no (List.map iav c4.Table)]⟩)]⟩
theorem r03_owned_1_sim (n2 : Int) (c4 : GConf) (has : Bool) (i2 : Int) (s : PF.St) (hk : keep [1, 4, 5, 6] [101] s = some ⟨[(1, .ptr 101 0), (4, .int .i64 n2), (5, .bool has), (6, .int .i64 i2)], [(101, ⟨true, [.int .i64 c4.N, .int .i64 c4.F, .int .i64 c4.D, .int .i64 c4.Period, .int .i64 c4.Rate, .int .i64 c4.Drift, .int .i64 c4.Offset, .int .i64 c4.Slot, .int .i64 c4.Mod, .int .i64 c4.Fresh, .lst .no (List.map iav c4.Table)]⟩)]⟩) : Sim (r03_owned_1 n2 c4 has i2) (Gv (r03_owned_1_rel n2 c4)) (LM.loop ([1, 4, 5, 6], [101], [1, 4, 5], B_r03_owned_1) s) := by
  refine sim_loop M XE (r03_owned_1_inv n2 c4) (r03_owned_1_rel n2 c4) ?_ _ _ _ hk rfl
  clear hk
  rintro S hS hw hw8 R hR ⟨has, i2⟩ env hp he
  change (⟨env, hp⟩ : PF.St) = ⟨[(1, .ptr 101 0), (4, .int .i64 n2), (5, .bool has), (6, .int .i64 i2)], [(101, ⟨true, [.int .i64 c4.N, .int .i64 c4.F, .int .i64 c4.D, .int .i64 c4.Period, .int .i64 c4.Rate, .int .i64 c4.Drift, .int .i64 c4.Offset, .int .i64 c4.Slot, .int .i64 c4.Mod, .int .i64 c4.Fresh, .lst .no (List.map iav c4.Table)]⟩)]⟩ at he
  cases he
  show Sim (r03_owned_1_step n2 c4 has i2) _ _
  unfold r03_owned_1_step
  simp only [hw]
  conv => arg 3; whnf
  refine Sim.ki hS (m := (List.length c4.Table : Int)) (by simp) ?_
  conv => arg 3; whnf
  refine Sim.ite Iff.rfl (fun hc4 => ?_) (fun hc4 => ?_)
  · conv => arg 3; whnf
    refine Sim.iteB (fun hc5 => ?_) (fun hc5 => ?_)
    · conv => arg 3; whnf
      refine Sim.goB hc5 ?_
      conv => arg 3; whnf
      refine Sim.goB hc5 ?_
      conv => arg 3; whnf
      refine Sim.goB hc5 ?_
      conv => arg 3; whnf
      refine Sim.goB hc5 ?_
      conv => arg 3; whnf
      refine Sim.goB hc5 ?_
      conv => arg 3; whnf
      refine Sim.goB hc5 ?_
      conv => arg 3; whnf
      refine Sim.goB hc5 ?_
      conv => arg 3; whnf
      exact Sim.ret ⟨_, _, rfl, rfl, rfl⟩
    · conv => arg 3; whnf
      refine Sim.goF hc5 ?_
      conv => arg 3; whnf
      refine Sim.goF hc5 ?_
      conv => arg 3; whnf
      refine Sim.goF hc5 ?_
      conv => arg 3; whnf
      refine Sim.ix (by simp) (fun z2 hz2 => ?_)
      conv => arg 3; whnf
      refine Sim.go (idx_map _ hz2) ?_
      conv => arg 3; whnf
      refine Sim.goF hc5 ?_
      conv => arg 3; whnf
      refine Sim.goF hc5 ?_
      conv => arg 3; whnf
      refine Sim.goF hc5 ?_
      conv => arg 3; whnf
      refine Sim.goF hc5 ?_
      conv => arg 3; whnf
      exact Sim.ret ⟨_, _, rfl, rfl, rfl⟩
  · conv => arg 3; whnf
    exact Sim.ret ⟨_, rfl, rfl⟩
noncomputable def r03_owned_2_step (c3 : GConf) (n0 : Int) : Option ((Int) ⊕ ((Bool) ⊕ (Unit))) :=
  if n0 < c3.N then
    (r03_owned_1 n0 c3 false 0).bind fun r5 =>
    if (!r5) = true then
      some (.inr (.inl false))
    else
      some (.inl (wr (n0 + 1)))
  else
    some (.inr (.inr ()))
noncomputable def r03_owned_2 (c3 : GConf) (n0 : Int) : Option ((Bool) ⊕ (Unit)) :=
  loopO (fun s : Int => r03_owned_2_step c3 s) n0
def r03_owned_2_rel (c3 : GConf) (r : ((Bool) ⊕ (Unit))) (q : Ex × PF.St) : Prop := (fun r (q : Ex × PF.St) => Sum.elim (fun r => (fun r (q : Ex × PF.St) => q = (Ex.ret, ⟨[(2, .bool r)], [(101, ⟨true, [.int .i64 c3.N, .int .i64 c3.F, .int .i64 c3.D, .int .i64 c3.Period, .int .i64 c3.Rate, .int .i64 c3.Drift, .int .i64 c3.Offset, .int .i64 c3.Slot, .int .i64 c3.Mod, .int .i64 c3.Fresh, .lst .no (List.map iav c3.Table)]⟩)]⟩)) r q) (fun r => (fun r (q : Ex × PF.St) => q = ((.exit 2), ⟨[(2, .undef)], [(101, ⟨true, [.int .i64 c3.N, .int .i64 c3.F, .int .i64 c3.D, .int .i64 c3.Period, .int .i64 c3.Rate, .int .i64 c3.Drift, .int .i64 c3.Offset, .int .i64 c3.Slot, .int .i64 c3.Mod, .int .i64 c3.Fresh, .lst .no (List.map iav c3.Table)]⟩)]⟩)) r q) r) r q
def r03_owned_2_inv (c3 : GConf) (v : Int) (e : PF.St) : Prop := e = ⟨[(1, .ptr 101 0), (4, .int .i64 v)], [(101, ⟨true, [.int .i64 c3.N, .int .i64 c3.F, .int .i64 c3.D, .int .i64 c3.Period, .int .i64 c3.Rate, .int .i64 c3.Drift, .int .i64 c3.Offset, .int .i64 c3.Slot, .int .i64 c3.Mod, .int .i64 c3.Fresh, .lst .no (List.map iav c3.Table)]⟩)]⟩
theorem r03_owned_2_sim (c3 : GConf) (n0 : Int) (s : PF.St) (hk : keep [1, 4] [101] s = some ⟨[(1, .ptr 101 0), (4, .int .i64 n0)], [(101, ⟨true, [.int .i64 c3.N, .int .i64 c3.F, .int .i64 c3.D, .int .i64 c3.Period, .int .i64 c3.Rate, .int .i64 c3.Drift, .int .i64 c3.Offset, .int .i64 c3.Slot, .int .i64 c3.Mod, .int .i64 c3.Fresh, .lst .no (List.map iav c3.Table)]⟩)]⟩) : Sim (r03_owned_2 c3 n0) (Gv (r03_owned_2_rel c3)) (LM.loop ([1, 4], [101], [2], B_r03_owned_2) s) := by
  refine sim_loop M XE (r03_owned_2_inv c3) (r03_owned_2_rel c3) ?_ _ _ _ hk rfl
  clear hk
  rintro S hS hw hw8 R hR n0 env hp he
  change (⟨env, hp⟩ : PF.St) = ⟨[(1, .ptr 101 0), (4, .int .i64 n0)], [(101, ⟨true, [.int .i64 c3.N, .int .i64 c3.F, .int .i64 c3.D, .int .i64 c3.Period, .int .i64 c3.Rate, .int .i64 c3.Drift, .int .i64 c3.Offset, .int .i64 c3.Slot, .int .i64 c3.Mod, .int .i64 c3.Fresh, .lst .no (List.map iav c3.Table)]⟩)]⟩ at he
  cases he
  show Sim (r03_owned_2_step c3 n0) _ _
  unfold r03_owned_2_step
  simp only [hw]
  conv => arg 3; whnf
  refine Sim.ite Iff.rfl (fun hc3 => ?_) (fun hc3 => ?_)
  · conv => arg 3; whnf
    refine Sim.callL hR (r03_owned_1_sim n0 c3 false 0 _ rfl) ?_
    rintro r5 q rfl
    conv => arg 3; whnf
    refine Sim.iteB (fun hc6 => ?_) (fun hc6 => ?_)
    · conv => arg 3; whnf
      exact Sim.ret ⟨_, rfl, rfl⟩
    · conv => arg 3; whnf
      exact Sim.ret ⟨_, _, rfl, rfl, rfl⟩
  · conv => arg 3; whnf
    exact Sim.ret ⟨_, rfl, rfl⟩
noncomputable def r03_owned (c0 : GConf) : Option Bool :=
  (r03_owned_0 c0 0).bind fun r2 =>
  Sum.elim
    (fun r3 =>
      some r3)
    (fun r4 =>
      (r03_owned_2 c0 0).bind fun r6 =>
      Sum.elim
        (fun r7 =>
          some r7)
        (fun r8 =>
          some true)
        r6)
    r2
theorem r03_owned_sim (c0 : GConf) : Sim (r03_owned c0) (Gv fun r q => q = (.bool r, [])) (LM.call n_r03_owned [.agg [.int .i64 c0.N, .int .i64 c0.F, .int .i64 c0.D, .int .i64 c0.Period, .int .i64 c0.Rate, .int .i64 c0.Drift, .int .i64 c0.Offset, .int .i64 c0.Slot, .int .i64 c0.Mod, .int .i64 c0.Fresh, .lst .no (List.map iav c0.Table)]] []) := by
  unfold r03_owned
  refine sim_evR M XE rfl rfl fun S hS hw hw8 R hR => ?_
  conv => arg 3; whnf
  refine Sim.callL hR (r03_owned_0_sim c0 0 _ rfl) ?_
  rintro r2 q hr
  rcases r2 with r3 | r4
  · cases hr
    conv => arg 3; whnf
    exact Sim.ret ⟨_, rfl, rfl⟩
  · cases hr
    conv => arg 3; whnf
    refine Sim.callL hR (r03_owned_2_sim c0 0 _ rfl) ?_
    rintro r6 q hr
    rcases r6 with r7 | r8
    · cases hr
      conv => arg 3; whnf
      exact Sim.ret ⟨_, rfl, rfl⟩
    · cases hr
      conv => arg 3; whnf
      exact Sim.ret ⟨_, rfl, rfl⟩
noncomputable def r03_Plain (L0 : GConf) : Option Int :=
  (r03_within L0.N 4 13).bind fun r0 =>
  if (!r0) = true then
    some 7
  else
    (r03_within L0.F 0 4).bind fun r2 =>
    if (!r2) = true then
      some 7
    else
      if L0.N ≤ (wr (3 * L0.F)) then
        some 7
      else
        (r03_within L0.D 1 4).bind fun r3 =>
        if (!r3) = true then
          some 10
        else
          (r03_within L0.Period (wr ((wr ((wr (6 * (wr (L0.F + 1)))) * L0.D)) + 1)) 400).bind fun r4 =>
          if (!r4) = true then
            some 8
          else
            (r03_within L0.Rate 1 64).bind fun r5 =>
            if (!r5) = true then
              some 8
            else
              (r03_within L0.Drift 0 (wr (L0.Rate - 1))).bind fun r6 =>
              if (!r6) = true then
                some 8
              else
                (r03_within L0.Offset 0 30000).bind fun r7 =>
                if (!r7) = true then
                  some 8
                else
                  (r03_within L0.Slot 1 30000).bind fun r8 =>
                  if (!r8) = true then
                    some 8
                  else
                    (r03_within L0.Mod 2 250).bind fun r9 =>
                    if (!r9) = true then
                      some 8
                    else
                      (r03_within L0.Fresh 1 100).bind fun r10 =>
                      if (!r10) = true then
                        some 8
                      else
                        (r03_within (List.length L0.Table : Int) 1 32).bind fun r11 =>
                        if (!r11) = true then
                          some 11
                        else
                          (r03_owned L0).bind fun r12 =>
                          if (!r12) = true then
                            some 11
                          else
                            some 0
theorem r03_Plain_sim (L0 : GConf) : Sim (r03_Plain L0) (Gv fun r q => q = (.int .i64 r, [])) (LM.call n_r03_Plain [.agg [.int .i64 L0.N, .int .i64 L0.F, .int .i64 L0.D, .int .i64 L0.Period, .int .i64 L0.Rate, .int .i64 L0.Drift, .int .i64 L0.Offset, .int .i64 L0.Slot, .int .i64 L0.Mod, .int .i64 L0.Fresh, .lst .no (List.map iav L0.Table)]] []) := by
  unfold r03_Plain
  refine sim_evR M XE rfl rfl fun S hS hw hw8 R hR => ?_
  simp only [hw]
  conv => arg 3; whnf
  refine Sim.callR hR (r03_within_sim L0.N 4 13) ?_
  rintro r0 q rfl
  conv => arg 3; whnf
  refine Sim.iteB (fun hc => ?_) (fun hc => ?_)
  · conv => arg 3; whnf
    refine Sim.goB hc ?_
    conv => arg 3; whnf
    refine Sim.goB hc ?_
    conv => arg 3; whnf
    refine Sim.goB hc ?_
    conv => arg 3; whnf
    refine Sim.goB hc ?_
    conv => arg 3; whnf
    exact Sim.ret ⟨_, rfl, rfl⟩
  · conv => arg 3; whnf
    refine Sim.goF hc ?_
    conv => arg 3; whnf
    refine Sim.goF hc ?_
    conv => arg 3; whnf
    refine Sim.callR hR (r03_within_sim L0.F 0 4) ?_
    rintro r2 q rfl
    conv => arg 3; whnf
    refine Sim.goF hc ?_
    conv => arg 3; whnf
    refine Sim.goF hc ?_
    conv => arg 3; whnf
    refine Sim.iteB (fun hc2 => ?_) (fun hc2 => ?_)
    · conv => arg 3; whnf
      refine Sim.goB hc2 ?_
      conv => arg 3; whnf
      refine Sim.goB hc2 ?_
      conv => arg 3; whnf
      refine Sim.goB hc2 ?_
      conv => arg 3; whnf
      refine Sim.goB hc2 ?_
      conv => arg 3; whnf
      refine Sim.goB hc2 ?_
      conv => arg 3; whnf
      refine Sim.goB hc2 ?_
      conv => arg 3; whnf
      exact Sim.ret ⟨_, rfl, rfl⟩
    · conv => arg 3; whnf
      refine Sim.goF hc2 ?_
      conv => arg 3; whnf
      refine Sim.goF hc2 ?_
      conv => arg 3; whnf
      refine Sim.goF hc2 ?_
      conv => arg 3; whnf
      refine Sim.goF hc2 ?_
      conv => arg 3; whnf
      refine Sim.goF hc2 ?_
      conv => arg 3; whnf
      refine Sim.goF hc2 ?_
      conv => arg 3; whnf
      refine Sim.ite Iff.rfl (fun hc3 => ?_) (fun hc3 => ?_)
      · conv => arg 3; whnf
        exact Sim.ret ⟨_, rfl, rfl⟩
      · conv => arg 3; whnf
        refine Sim.callR hR (r03_within_sim L0.D 1 4) ?_
        rintro r3 q rfl
        conv => arg 3; whnf
        refine Sim.iteB (fun hc4 => ?_) (fun hc4 => ?_)
        · conv => arg 3; whnf
          exact Sim.ret ⟨_, rfl, rfl⟩
        · conv => arg 3; whnf
          refine Sim.callR hR (r03_within_sim L0.Period (S.wr ((S.wr ((S.wr (6 * (S.wr (L0.F + 1)))) * L0.D)) + 1)) 400) ?_
          rintro r4 q rfl
          conv => arg 3; whnf
          refine Sim.iteB (fun hc5 => ?_) (fun hc5 => ?_)
          · conv => arg 3; whnf
            refine Sim.goB hc5 ?_
            conv => arg 3; whnf
            refine Sim.goB hc5 ?_
            conv => arg 3; whnf
            refine Sim.goB hc5 ?_
            conv => arg 3; whnf
            refine Sim.goB hc5 ?_
            conv => arg 3; whnf
            exact Sim.ret ⟨_, rfl, rfl⟩
          · conv => arg 3; whnf
            refine Sim.goF hc5 ?_
            conv => arg 3; whnf
            refine Sim.goF hc5 ?_
            conv => arg 3; whnf
            refine Sim.callR hR (r03_within_sim L0.Rate 1 64) ?_
            rintro r5 q rfl
            conv => arg 3; whnf
            refine Sim.goF hc5 ?_
            conv => arg 3; whnf
            refine Sim.goF hc5 ?_
            conv => arg 3; whnf
            refine Sim.iteB (fun hc6 => ?_) (fun hc6 => ?_)
            · conv => arg 3; whnf
              refine Sim.goB hc6 ?_
              conv => arg 3; whnf
              refine Sim.goB hc6 ?_
              conv => arg 3; whnf
              refine Sim.goB hc6 ?_
              conv => arg 3; whnf
              refine Sim.goB hc6 ?_
              conv => arg 3; whnf
              refine Sim.goB hc6 ?_
              conv => arg 3; whnf
              refine Sim.goB hc6 ?_
              conv => arg 3; whnf
              refine Sim.goB hc6 ?_
              conv => arg 3; whnf
              exact Sim.ret ⟨_, rfl, rfl⟩
            · conv => arg 3; whnf
              refine Sim.goF hc6 ?_
              conv => arg 3; whnf
              refine Sim.goF hc6 ?_
              conv => arg 3; whnf
              refine Sim.goF hc6 ?_
              conv => arg 3; whnf
              refine Sim.goF hc6 ?_
              conv => arg 3; whnf
              refine Sim.goF hc6 ?_
              conv => arg 3; whnf
              refine Sim.callR hR (r03_within_sim L0.Drift 0 (S.wr (L0.Rate - 1))) ?_
              rintro r6 q rfl
              conv => arg 3; whnf
              refine Sim.goF hc6 ?_
              conv => arg 3; whnf
              refine Sim.goF hc6 ?_
              conv => arg 3; whnf
              refine Sim.iteB (fun hc7 => ?_) (fun hc7 => ?_)
              · conv => arg 3; whnf
                refine Sim.goB hc7 ?_
                conv => arg 3; whnf
                refine Sim.goB hc7 ?_
                conv => arg 3; whnf
                refine Sim.goB hc7 ?_
                conv => arg 3; whnf
                refine Sim.goB hc7 ?_
                conv => arg 3; whnf
                exact Sim.ret ⟨_, rfl, rfl⟩
              · conv => arg 3; whnf
                refine Sim.goF hc7 ?_
                conv => arg 3; whnf
                refine Sim.goF hc7 ?_
                conv => arg 3; whnf
                refine Sim.callR hR (r03_within_sim L0.Offset 0 30000) ?_
                rintro r7 q rfl
                conv => arg 3; whnf
                refine Sim.goF hc7 ?_
                conv => arg 3; whnf
                refine Sim.goF hc7 ?_
                conv => arg 3; whnf
                refine Sim.iteB (fun hc8 => ?_) (fun hc8 => ?_)
                · conv => arg 3; whnf
                  refine Sim.goB hc8 ?_
                  conv => arg 3; whnf
                  refine Sim.goB hc8 ?_
                  conv => arg 3; whnf
                  refine Sim.goB hc8 ?_
                  conv => arg 3; whnf
                  refine Sim.goB hc8 ?_
                  conv => arg 3; whnf
                  exact Sim.ret ⟨_, rfl, rfl⟩
                · conv => arg 3; whnf
                  refine Sim.goF hc8 ?_
                  conv => arg 3; whnf
                  refine Sim.goF hc8 ?_
                  conv => arg 3; whnf
                  refine Sim.callR hR (r03_within_sim L0.Slot 1 30000) ?_
                  rintro r8 q rfl
                  conv => arg 3; whnf
                  refine Sim.goF hc8 ?_
                  conv => arg 3; whnf
                  refine Sim.goF hc8 ?_
                  conv => arg 3; whnf
                  refine Sim.iteB (fun hc9 => ?_) (fun hc9 => ?_)
                  · conv => arg 3; whnf
                    refine Sim.goB hc9 ?_
                    conv => arg 3; whnf
                    refine Sim.goB hc9 ?_
                    conv => arg 3; whnf
                    refine Sim.goB hc9 ?_
                    conv => arg 3; whnf
                    refine Sim.goB hc9 ?_
                    conv => arg 3; whnf
                    exact Sim.ret ⟨_, rfl, rfl⟩
                  · conv => arg 3; whnf
                    refine Sim.goF hc9 ?_
                    conv => arg 3; whnf
                    refine Sim.goF hc9 ?_
                    conv => arg 3; whnf
                    refine Sim.callR hR (r03_within_sim L0.Mod 2 250) ?_
                    rintro r9 q rfl
                    conv => arg 3; whnf
                    refine Sim.goF hc9 ?_
                    conv => arg 3; whnf
                    refine Sim.goF hc9 ?_
                    conv => arg 3; whnf
                    refine Sim.iteB (fun hc10 => ?_) (fun hc10 => ?_)
                    · conv => arg 3; whnf
                      refine Sim.goB hc10 ?_
                      conv => arg 3; whnf
                      refine Sim.goB hc10 ?_
                      conv => arg 3; whnf
                      refine Sim.goB hc10 ?_
                      conv => arg 3; whnf
                      refine Sim.goB hc10 ?_
                      conv => arg 3; whnf
                      exact Sim.ret ⟨_, rfl, rfl⟩
                    · conv => arg 3; whnf
                      refine Sim.goF hc10 ?_
                      conv => arg 3; whnf
                      refine Sim.goF hc10 ?_
                      conv => arg 3; whnf
                      refine Sim.callR hR (r03_within_sim L0.Fresh 1 100) ?_
                      rintro r10 q rfl
                      conv => arg 3; whnf
                      refine Sim.goF hc10 ?_
                      conv => arg 3; whnf
                      refine Sim.goF hc10 ?_
                      conv => arg 3; whnf
                      refine Sim.iteB (fun hc11 => ?_) (fun hc11 => ?_)
                      · conv => arg 3; whnf
                        exact Sim.ret ⟨_, rfl, rfl⟩
                      · conv => arg 3; whnf
                        refine Sim.ki hS (m := (List.length L0.Table : Int)) (by simp) ?_
                        conv => arg 3; whnf
                        refine Sim.callR hR (r03_within_sim (List.length L0.Table : Int) 1 32) ?_
                        rintro r11 q rfl
                        conv => arg 3; whnf
                        refine Sim.iteB (fun hc12 => ?_) (fun hc12 => ?_)
                        · conv => arg 3; whnf
                          refine Sim.goB hc12 ?_
                          conv => arg 3; whnf
                          refine Sim.goB hc12 ?_
                          conv => arg 3; whnf
                          refine Sim.goB hc12 ?_
                          conv => arg 3; whnf
                          exact Sim.ret ⟨_, rfl, rfl⟩
                        · conv => arg 3; whnf
                          refine Sim.goF hc12 ?_
                          conv => arg 3; whnf
                          refine Sim.callR hR (r03_owned_sim L0) ?_
                          rintro r12 q rfl
                          conv => arg 3; whnf
                          refine Sim.goF hc12 ?_
                          conv => arg 3; whnf
                          refine Sim.goF hc12 ?_
                          conv => arg 3; whnf
                          refine Sim.iteB (fun hc13 => ?_) (fun hc13 => ?_)
                          · conv => arg 3; whnf
                            exact Sim.ret ⟨_, rfl, rfl⟩
                          · conv => arg 3; whnf
                            exact Sim.ret ⟨_, rfl, rfl⟩
noncomputable def r28_Host (c0 : GConf) (m0 : GMem) (text : List UInt8) : Option (GMem × Int) :=
  (r03_Plain c0).bind fun r0 =>
  if r0 ≠ 0 then
    (r03_Plain c0).bind fun r2 =>
    some ((GMem.mk 0 0 0 ([] : List UInt8) 0 ([] : List UInt8) ([] : List UInt8) 0 0 ([] : List UInt8) ([] : List UInt8) ([] : List UInt8) ([] : List UInt8) ([] : List UInt8) ([] : List UInt8) ([] : List GPort) ([] : List (List UInt8)) ([] : List GEntry) (Ar6.mk 0 0 0 0 0 0)), r2)
  else
    if 16 < (List.length text : Int) then
      some ((GMem.mk 0 0 0 ([] : List UInt8) 0 ([] : List UInt8) ([] : List UInt8) 0 0 ([] : List UInt8) ([] : List UInt8) ([] : List UInt8) ([] : List UInt8) ([] : List UInt8) ([] : List UInt8) ([] : List GPort) ([] : List (List UInt8)) ([] : List GEntry) (Ar6.mk 0 0 0 0 0 0)), 15)
    else
      some ((GMem.mk m0.Clock m0.Anchor m0.Since m0.Pipe m0.Age m0.Vec m0.Agreed m0.Number m0.Regular m0.Members m0.Seen m0.Heard m0.Sent text m0.Line m0.Ports m0.Hold m0.Log m0.Diag), 0)
theorem r28_Host_sim (c0 : GConf) (m0 : GMem) (text : List UInt8) : Sim (r28_Host c0 m0 text) (Gv fun r q => q = (.tup [.agg [.int .i64 r.1.Clock, .int .i64 r.1.Anchor, .int .i64 r.1.Since, .str r.1.Pipe, .int .i64 r.1.Age, .str r.1.Vec, .str r.1.Agreed, .int .i64 r.1.Number, .int .i64 r.1.Regular, .str r.1.Members, .str r.1.Seen, .str r.1.Heard, .str r.1.Sent, .str r.1.Out, .str r.1.Line, .lst .no (List.map GPort.av r.1.Ports), .lst .no (List.map sav r.1.Hold), .lst .no (List.map GEntry.av r.1.Log), .int .i64 r.1.Diag.a0, .int .i64 r.1.Diag.a1, .int .i64 r.1.Diag.a2, .int .i64 r.1.Diag.a3, .int .i64 r.1.Diag.a4, .int .i64 r.1.Diag.a5], .int .i64 r.2], [])) (LM.call n_r28_Host [.agg [.int .i64 c0.N, .int .i64 c0.F, .int .i64 c0.D, .int .i64 c0.Period, .int .i64 c0.Rate, .int .i64 c0.Drift, .int .i64 c0.Offset, .int .i64 c0.Slot, .int .i64 c0.Mod, .int .i64 c0.Fresh, .lst .no (List.map iav c0.Table)], .agg [.int .i64 m0.Clock, .int .i64 m0.Anchor, .int .i64 m0.Since, .str m0.Pipe, .int .i64 m0.Age, .str m0.Vec, .str m0.Agreed, .int .i64 m0.Number, .int .i64 m0.Regular, .str m0.Members, .str m0.Seen, .str m0.Heard, .str m0.Sent, .str m0.Out, .str m0.Line, .lst .no (List.map GPort.av m0.Ports), .lst .no (List.map sav m0.Hold), .lst .no (List.map GEntry.av m0.Log), .int .i64 m0.Diag.a0, .int .i64 m0.Diag.a1, .int .i64 m0.Diag.a2, .int .i64 m0.Diag.a3, .int .i64 m0.Diag.a4, .int .i64 m0.Diag.a5], .str text] []) := by
  unfold r28_Host
  refine sim_evR M XE rfl rfl fun S hS hw hw8 R hR => ?_
  conv => arg 3; whnf
  refine Sim.callR hR (r03_Plain_sim c0) ?_
  rintro r0 q rfl
  conv => arg 3; whnf
  refine Sim.ite Iff.rfl (fun hc => ?_) (fun hc => ?_)
  · conv => arg 3; whnf
    refine Sim.callR hR (r03_Plain_sim c0) ?_
    rintro r2 q rfl
    conv => arg 3; whnf
    exact Sim.ret ⟨_, rfl, rfl⟩
  · conv => arg 3; whnf
    refine Sim.ite Iff.rfl (fun hc2 => ?_) (fun hc2 => ?_)
    · conv => arg 3; whnf
      exact Sim.ret ⟨_, rfl, rfl⟩
    · conv => arg 3; whnf
      exact Sim.ret ⟨_, rfl, rfl⟩
noncomputable def r26_Same_0_step (a2 : List GPort) (b2 : List GPort) (i0 : Int) : Option ((Int) ⊕ ((Bool) ⊕ (Unit))) :=
  if i0 < (List.length a2 : Int) then
    (idx? a2 i0).bind fun z0 =>
    (idx? b2 i0).bind fun z2 =>
    if (!(decide (z0.Text = z2.Text) && (decide (z0.Cycle = z2.Cycle) && (decide (z0.Age = z2.Age) && true)))) = true then
      some (.inr (.inl false))
    else
      some (.inl (wr (i0 + 1)))
  else
    some (.inr (.inr ()))
noncomputable def r26_Same_0 (a2 : List GPort) (b2 : List GPort) (i0 : Int) : Option ((Bool) ⊕ (Unit)) :=
  loopO (fun s : Int => r26_Same_0_step a2 b2 s) i0
def r26_Same_0_rel (a2 : List GPort) (b2 : List GPort) (r : ((Bool) ⊕ (Unit))) (q : Ex × PF.St) : Prop := (fun r (q : Ex × PF.St) => Sum.elim (fun r => (fun r (q : Ex × PF.St) => q = (Ex.ret, ⟨[(4, .bool r)], []⟩)) r q) (fun r => (fun r (q : Ex × PF.St) => q = ((.exit 0), ⟨[(4, .undef)], []⟩)) r q) r) r q
def r26_Same_0_inv (a2 : List GPort) (b2 : List GPort) (v : Int) (e : PF.St) : Prop := e = ⟨[(0, .lst .no (List.map GPort.av a2)), (1, .lst .no (List.map GPort.av b2)), (5, .int .i64 v)], []⟩
theorem r26_Same_0_sim (a2 : List GPort) (b2 : List GPort) (i0 : Int) (s : PF.St) (hk : keep [0, 1, 5] [] s = some ⟨[(0, .lst .no (List.map GPort.av a2)), (1, .lst .no (List.map GPort.av b2)), (5, .int .i64 i0)], []⟩) : Sim (r26_Same_0 a2 b2 i0) (Gv (r26_Same_0_rel a2 b2)) (LM.loop ([0, 1, 5], [], [4], B_r26_Same_0) s) := by
  refine sim_loop M XE (r26_Same_0_inv a2 b2) (r26_Same_0_rel a2 b2) ?_ _ _ _ hk rfl
  clear hk
  rintro S hS hw hw8 R hR i0 env hp he
  change (⟨env, hp⟩ : PF.St) = ⟨[(0, .lst .no (List.map GPort.av a2)), (1, .lst .no (List.map GPort.av b2)), (5, .int .i64 i0)], []⟩ at he
  cases he
  show Sim (r26_Same_0_step a2 b2 i0) _ _
  unfold r26_Same_0_step
  simp only [hw]
  conv => arg 3; whnf
  refine Sim.ki hS (m := (List.length a2 : Int)) (by simp) ?_
  conv => arg 3; whnf
  refine Sim.ite Iff.rfl (fun hc2 => ?_) (fun hc2 => ?_)
  · conv => arg 3; whnf
    refine Sim.ix (by simp) (fun z0 hz0 => ?_)
    conv => arg 3; whnf
    refine Sim.go (idx_map _ hz0) ?_
    conv => arg 3; whnf
    refine Sim.ix (by simp) (fun z2 hz2 => ?_)
    conv => arg 3; whnf
    refine Sim.go (idx_map _ hz2) ?_
    conv => arg 3; whnf
    refine Sim.iteB (fun hc3 => ?_) (fun hc3 => ?_)
    · conv => arg 3; whnf
      exact Sim.ret ⟨_, rfl, rfl⟩
    · conv => arg 3; whnf
      exact Sim.ret ⟨_, _, rfl, rfl, rfl⟩
  · conv => arg 3; whnf
    exact Sim.ret ⟨_, rfl, rfl⟩
noncomputable def r26_Same (a0 : List GPort) (b0 : List GPort) : Option Bool :=
  if (List.length a0 : Int) ≠ (List.length b0 : Int) then
    some false
  else
    (r26_Same_0 a0 b0 0).bind fun r0 =>
    Sum.elim
      (fun r2 =>
        some r2)
      (fun r3 =>
        some true)
      r0
theorem r26_Same_sim (a0 : List GPort) (b0 : List GPort) : Sim (r26_Same a0 b0) (Gv fun r q => q = (.bool r, [])) (LM.call n_r26_Same [.lst .no (List.map GPort.av a0), .lst .no (List.map GPort.av b0)] []) := by
  unfold r26_Same
  refine sim_evR M XE rfl rfl fun S hS hw hw8 R hR => ?_
  conv => arg 3; whnf
  refine Sim.ki hS (m := (List.length a0 : Int)) (by simp) ?_
  conv => arg 3; whnf
  refine Sim.ki hS (m := (List.length b0 : Int)) (by simp) ?_
  conv => arg 3; whnf
  refine Sim.ite Iff.rfl (fun hc => ?_) (fun hc => ?_)
  · conv => arg 3; whnf
    exact Sim.ret ⟨_, rfl, rfl⟩
  · conv => arg 3; whnf
    refine Sim.callL hR (r26_Same_0_sim a0 b0 0 _ rfl) ?_
    rintro r0 q hr
    rcases r0 with r2 | r3
    · cases hr
      conv => arg 3; whnf
      exact Sim.ret ⟨_, rfl, rfl⟩
    · cases hr
      conv => arg 3; whnf
      exact Sim.ret ⟨_, rfl, rfl⟩
noncomputable def r12_Same_0_step (a2 : List (List UInt8)) (b2 : List (List UInt8)) (i0 : Int) : Option ((Int) ⊕ ((Bool) ⊕ (Unit))) :=
  if i0 < (List.length a2 : Int) then
    (idx? a2 i0).bind fun z0 =>
    (idx? b2 i0).bind fun z2 =>
    if z0 ≠ z2 then
      some (.inr (.inl false))
    else
      some (.inl (wr (i0 + 1)))
  else
    some (.inr (.inr ()))
noncomputable def r12_Same_0 (a2 : List (List UInt8)) (b2 : List (List UInt8)) (i0 : Int) : Option ((Bool) ⊕ (Unit)) :=
  loopO (fun s : Int => r12_Same_0_step a2 b2 s) i0
def r12_Same_0_rel (a2 : List (List UInt8)) (b2 : List (List UInt8)) (r : ((Bool) ⊕ (Unit))) (q : Ex × PF.St) : Prop := (fun r (q : Ex × PF.St) => Sum.elim (fun r => (fun r (q : Ex × PF.St) => q = (Ex.ret, ⟨[(4, .bool r)], []⟩)) r q) (fun r => (fun r (q : Ex × PF.St) => q = ((.exit 0), ⟨[(4, .undef)], []⟩)) r q) r) r q
def r12_Same_0_inv (a2 : List (List UInt8)) (b2 : List (List UInt8)) (v : Int) (e : PF.St) : Prop := e = ⟨[(0, .lst .no (List.map sav a2)), (1, .lst .no (List.map sav b2)), (5, .int .i64 v)], []⟩
theorem r12_Same_0_sim (a2 : List (List UInt8)) (b2 : List (List UInt8)) (i0 : Int) (s : PF.St) (hk : keep [0, 1, 5] [] s = some ⟨[(0, .lst .no (List.map sav a2)), (1, .lst .no (List.map sav b2)), (5, .int .i64 i0)], []⟩) : Sim (r12_Same_0 a2 b2 i0) (Gv (r12_Same_0_rel a2 b2)) (LM.loop ([0, 1, 5], [], [4], B_r12_Same_0) s) := by
  refine sim_loop M XE (r12_Same_0_inv a2 b2) (r12_Same_0_rel a2 b2) ?_ _ _ _ hk rfl
  clear hk
  rintro S hS hw hw8 R hR i0 env hp he
  change (⟨env, hp⟩ : PF.St) = ⟨[(0, .lst .no (List.map sav a2)), (1, .lst .no (List.map sav b2)), (5, .int .i64 i0)], []⟩ at he
  cases he
  show Sim (r12_Same_0_step a2 b2 i0) _ _
  unfold r12_Same_0_step
  simp only [hw]
  conv => arg 3; whnf
  refine Sim.ki hS (m := (List.length a2 : Int)) (by simp) ?_
  conv => arg 3; whnf
  refine Sim.ite Iff.rfl (fun hc2 => ?_) (fun hc2 => ?_)
  · conv => arg 3; whnf
    refine Sim.ix (by simp) (fun z0 hz0 => ?_)
    conv => arg 3; whnf
    refine Sim.go (idx_map _ hz0) ?_
    conv => arg 3; whnf
    refine Sim.ix (by simp) (fun z2 hz2 => ?_)
    conv => arg 3; whnf
    refine Sim.go (idx_map _ hz2) ?_
    conv => arg 3; whnf
    refine Sim.ite Iff.rfl (fun hc3 => ?_) (fun hc3 => ?_)
    · conv => arg 3; whnf
      exact Sim.ret ⟨_, rfl, rfl⟩
    · conv => arg 3; whnf
      exact Sim.ret ⟨_, _, rfl, rfl, rfl⟩
  · conv => arg 3; whnf
    exact Sim.ret ⟨_, rfl, rfl⟩
noncomputable def r12_Same (a0 : List (List UInt8)) (b0 : List (List UInt8)) : Option Bool :=
  if (List.length a0 : Int) ≠ (List.length b0 : Int) then
    some false
  else
    (r12_Same_0 a0 b0 0).bind fun r0 =>
    Sum.elim
      (fun r2 =>
        some r2)
      (fun r3 =>
        some true)
      r0
theorem r12_Same_sim (a0 : List (List UInt8)) (b0 : List (List UInt8)) : Sim (r12_Same a0 b0) (Gv fun r q => q = (.bool r, [])) (LM.call n_r12_Same [.lst .no (List.map sav a0), .lst .no (List.map sav b0)] []) := by
  unfold r12_Same
  refine sim_evR M XE rfl rfl fun S hS hw hw8 R hR => ?_
  conv => arg 3; whnf
  refine Sim.ki hS (m := (List.length a0 : Int)) (by simp) ?_
  conv => arg 3; whnf
  refine Sim.ki hS (m := (List.length b0 : Int)) (by simp) ?_
  conv => arg 3; whnf
  refine Sim.ite Iff.rfl (fun hc => ?_) (fun hc => ?_)
  · conv => arg 3; whnf
    exact Sim.ret ⟨_, rfl, rfl⟩
  · conv => arg 3; whnf
    refine Sim.callL hR (r12_Same_0_sim a0 b0 0 _ rfl) ?_
    rintro r0 q hr
    rcases r0 with r2 | r3
    · cases hr
      conv => arg 3; whnf
      exact Sim.ret ⟨_, rfl, rfl⟩
    · cases hr
      conv => arg 3; whnf
      exact Sim.ret ⟨_, rfl, rfl⟩
noncomputable def r06_Same_0_step (a2 : List GEntry) (b2 : List GEntry) (i0 : Int) : Option ((Int) ⊕ ((Bool) ⊕ (Unit))) :=
  if i0 < (List.length a2 : Int) then
    (idx? a2 i0).bind fun z0 =>
    (idx? b2 i0).bind fun z2 =>
    if (!(decide (z0.From = z2.From) && (decide (z0.At = z2.At) && true))) = true then
      some (.inr (.inl false))
    else
      some (.inl (wr (i0 + 1)))
  else
    some (.inr (.inr ()))
noncomputable def r06_Same_0 (a2 : List GEntry) (b2 : List GEntry) (i0 : Int) : Option ((Bool) ⊕ (Unit)) :=
  loopO (fun s : Int => r06_Same_0_step a2 b2 s) i0
def r06_Same_0_rel (a2 : List GEntry) (b2 : List GEntry) (r : ((Bool) ⊕ (Unit))) (q : Ex × PF.St) : Prop := (fun r (q : Ex × PF.St) => Sum.elim (fun r => (fun r (q : Ex × PF.St) => q = (Ex.ret, ⟨[(4, .bool r)], []⟩)) r q) (fun r => (fun r (q : Ex × PF.St) => q = ((.exit 0), ⟨[(4, .undef)], []⟩)) r q) r) r q
def r06_Same_0_inv (a2 : List GEntry) (b2 : List GEntry) (v : Int) (e : PF.St) : Prop := e = ⟨[(0, .lst .no (List.map GEntry.av a2)), (1, .lst .no (List.map GEntry.av b2)), (5, .int .i64 v)], []⟩
theorem r06_Same_0_sim (a2 : List GEntry) (b2 : List GEntry) (i0 : Int) (s : PF.St) (hk : keep [0, 1, 5] [] s = some ⟨[(0, .lst .no (List.map GEntry.av a2)), (1, .lst .no (List.map GEntry.av b2)), (5, .int .i64 i0)], []⟩) : Sim (r06_Same_0 a2 b2 i0) (Gv (r06_Same_0_rel a2 b2)) (LM.loop ([0, 1, 5], [], [4], B_r06_Same_0) s) := by
  refine sim_loop M XE (r06_Same_0_inv a2 b2) (r06_Same_0_rel a2 b2) ?_ _ _ _ hk rfl
  clear hk
  rintro S hS hw hw8 R hR i0 env hp he
  change (⟨env, hp⟩ : PF.St) = ⟨[(0, .lst .no (List.map GEntry.av a2)), (1, .lst .no (List.map GEntry.av b2)), (5, .int .i64 i0)], []⟩ at he
  cases he
  show Sim (r06_Same_0_step a2 b2 i0) _ _
  unfold r06_Same_0_step
  simp only [hw]
  conv => arg 3; whnf
  refine Sim.ki hS (m := (List.length a2 : Int)) (by simp) ?_
  conv => arg 3; whnf
  refine Sim.ite Iff.rfl (fun hc2 => ?_) (fun hc2 => ?_)
  · conv => arg 3; whnf
    refine Sim.ix (by simp) (fun z0 hz0 => ?_)
    conv => arg 3; whnf
    refine Sim.go (idx_map _ hz0) ?_
    conv => arg 3; whnf
    refine Sim.ix (by simp) (fun z2 hz2 => ?_)
    conv => arg 3; whnf
    refine Sim.go (idx_map _ hz2) ?_
    conv => arg 3; whnf
    refine Sim.iteB (fun hc3 => ?_) (fun hc3 => ?_)
    · conv => arg 3; whnf
      exact Sim.ret ⟨_, rfl, rfl⟩
    · conv => arg 3; whnf
      exact Sim.ret ⟨_, _, rfl, rfl, rfl⟩
  · conv => arg 3; whnf
    exact Sim.ret ⟨_, rfl, rfl⟩
noncomputable def r06_Same (a0 : List GEntry) (b0 : List GEntry) : Option Bool :=
  if (List.length a0 : Int) ≠ (List.length b0 : Int) then
    some false
  else
    (r06_Same_0 a0 b0 0).bind fun r0 =>
    Sum.elim
      (fun r2 =>
        some r2)
      (fun r3 =>
        some true)
      r0
theorem r06_Same_sim (a0 : List GEntry) (b0 : List GEntry) : Sim (r06_Same a0 b0) (Gv fun r q => q = (.bool r, [])) (LM.call n_r06_Same [.lst .no (List.map GEntry.av a0), .lst .no (List.map GEntry.av b0)] []) := by
  unfold r06_Same
  refine sim_evR M XE rfl rfl fun S hS hw hw8 R hR => ?_
  conv => arg 3; whnf
  refine Sim.ki hS (m := (List.length a0 : Int)) (by simp) ?_
  conv => arg 3; whnf
  refine Sim.ki hS (m := (List.length b0 : Int)) (by simp) ?_
  conv => arg 3; whnf
  refine Sim.ite Iff.rfl (fun hc => ?_) (fun hc => ?_)
  · conv => arg 3; whnf
    exact Sim.ret ⟨_, rfl, rfl⟩
  · conv => arg 3; whnf
    refine Sim.callL hR (r06_Same_0_sim a0 b0 0 _ rfl) ?_
    rintro r0 q hr
    rcases r0 with r2 | r3
    · cases hr
      conv => arg 3; whnf
      exact Sim.ret ⟨_, rfl, rfl⟩
    · cases hr
      conv => arg 3; whnf
      exact Sim.ret ⟨_, rfl, rfl⟩
noncomputable def r28_Same (L0 : GMem) (i0 : GMem) : Option Bool :=
  if L0.Clock ≠ i0.Clock then
    some false
  else
    if L0.Anchor ≠ i0.Anchor then
      some false
    else
      if L0.Since ≠ i0.Since then
        some false
      else
        if L0.Age ≠ i0.Age then
          some false
        else
          if L0.Number ≠ i0.Number then
            some false
          else
            if L0.Regular ≠ i0.Regular then
              some false
            else
              if (!(decide (L0.Diag.a0 = i0.Diag.a0) && (decide (L0.Diag.a1 = i0.Diag.a1) && (decide (L0.Diag.a2 = i0.Diag.a2) && (decide (L0.Diag.a3 = i0.Diag.a3) && (decide (L0.Diag.a4 = i0.Diag.a4) && (decide (L0.Diag.a5 = i0.Diag.a5) && true))))))) = true then
                some false
              else
                if L0.Pipe ≠ i0.Pipe then
                  some false
                else
                  if L0.Vec ≠ i0.Vec then
                    some false
                  else
                    if L0.Agreed ≠ i0.Agreed then
                      some false
                    else
                      if L0.Members ≠ i0.Members then
                        some false
                      else
                        if L0.Seen ≠ i0.Seen then
                          some false
                        else
                          if L0.Heard ≠ i0.Heard then
                            some false
                          else
                            if L0.Sent ≠ i0.Sent then
                              some false
                            else
                              if L0.Out ≠ i0.Out then
                                some false
                              else
                                if L0.Line ≠ i0.Line then
                                  some false
                                else
                                  (r26_Same L0.Ports i0.Ports).bind fun r0 =>
                                  if r0 = true then
                                    (r12_Same L0.Hold i0.Hold).bind fun r2 =>
                                    if r2 = true then
                                      (r06_Same L0.Log i0.Log).bind fun r3 =>
                                      some r3
                                    else
                                      some false
                                  else
                                    some false
theorem r28_Same_sim (L0 : GMem) (i0 : GMem) : Sim (r28_Same L0 i0) (Gv fun r q => q = (.bool r, [])) (LM.call n_r28_Same [.agg [.int .i64 L0.Clock, .int .i64 L0.Anchor, .int .i64 L0.Since, .str L0.Pipe, .int .i64 L0.Age, .str L0.Vec, .str L0.Agreed, .int .i64 L0.Number, .int .i64 L0.Regular, .str L0.Members, .str L0.Seen, .str L0.Heard, .str L0.Sent, .str L0.Out, .str L0.Line, .lst .no (List.map GPort.av L0.Ports), .lst .no (List.map sav L0.Hold), .lst .no (List.map GEntry.av L0.Log), .int .i64 L0.Diag.a0, .int .i64 L0.Diag.a1, .int .i64 L0.Diag.a2, .int .i64 L0.Diag.a3, .int .i64 L0.Diag.a4, .int .i64 L0.Diag.a5], .agg [.int .i64 i0.Clock, .int .i64 i0.Anchor, .int .i64 i0.Since, .str i0.Pipe, .int .i64 i0.Age, .str i0.Vec, .str i0.Agreed, .int .i64 i0.Number, .int .i64 i0.Regular, .str i0.Members, .str i0.Seen, .str i0.Heard, .str i0.Sent, .str i0.Out, .str i0.Line, .lst .no (List.map GPort.av i0.Ports), .lst .no (List.map sav i0.Hold), .lst .no (List.map GEntry.av i0.Log), .int .i64 i0.Diag.a0, .int .i64 i0.Diag.a1, .int .i64 i0.Diag.a2, .int .i64 i0.Diag.a3, .int .i64 i0.Diag.a4, .int .i64 i0.Diag.a5]] []) := by
  unfold r28_Same
  refine sim_evR M XE rfl rfl fun S hS hw hw8 R hR => ?_
  conv => arg 3; whnf
  refine Sim.ite Iff.rfl (fun hc => ?_) (fun hc => ?_)
  · conv => arg 3; whnf
    refine Sim.goB (decide_eq_true hc) ?_
    conv => arg 3; whnf
    refine Sim.goB (decide_eq_true hc) ?_
    conv => arg 3; whnf
    refine Sim.goB (decide_eq_true hc) ?_
    conv => arg 3; whnf
    refine Sim.goB (decide_eq_true hc) ?_
    conv => arg 3; whnf
    refine Sim.goB (decide_eq_true hc) ?_
    conv => arg 3; whnf
    exact Sim.ret ⟨_, rfl, rfl⟩
  · conv => arg 3; whnf
    refine Sim.goF (decide_eq_false hc) ?_
    conv => arg 3; whnf
    refine Sim.goF (decide_eq_false hc) ?_
    conv => arg 3; whnf
    refine Sim.goF (decide_eq_false hc) ?_
    conv => arg 3; whnf
    refine Sim.goF (decide_eq_false hc) ?_
    conv => arg 3; whnf
    refine Sim.goF (decide_eq_false hc) ?_
    conv => arg 3; whnf
    refine Sim.ite Iff.rfl (fun hc2 => ?_) (fun hc2 => ?_)
    · conv => arg 3; whnf
      refine Sim.goB (decide_eq_true hc2) ?_
      conv => arg 3; whnf
      refine Sim.goB (decide_eq_true hc2) ?_
      conv => arg 3; whnf
      refine Sim.goB (decide_eq_true hc2) ?_
      conv => arg 3; whnf
      refine Sim.goB (decide_eq_true hc2) ?_
      conv => arg 3; whnf
      refine Sim.goB (decide_eq_true hc2) ?_
      conv => arg 3; whnf
      exact Sim.ret ⟨_, rfl, rfl⟩
    · conv => arg 3; whnf
      refine Sim.goF (decide_eq_false hc2) ?_
      conv => arg 3; whnf
      refine Sim.goF (decide_eq_false hc2) ?_
      conv => arg 3; whnf
      refine Sim.goF (decide_eq_false hc2) ?_
      conv => arg 3; whnf
      refine Sim.goF (decide_eq_false hc2) ?_
      conv => arg 3; whnf
      refine Sim.goF (decide_eq_false hc2) ?_
      conv => arg 3; whnf
      refine Sim.ite Iff.rfl (fun hc3 => ?_) (fun hc3 => ?_)
      · conv => arg 3; whnf
        refine Sim.goB (decide_eq_true hc3) ?_
        conv => arg 3; whnf
        refine Sim.goB (decide_eq_true hc3) ?_
        conv => arg 3; whnf
        refine Sim.goB (decide_eq_true hc3) ?_
        conv => arg 3; whnf
        refine Sim.goB (decide_eq_true hc3) ?_
        conv => arg 3; whnf
        refine Sim.goB (decide_eq_true hc3) ?_
        conv => arg 3; whnf
        exact Sim.ret ⟨_, rfl, rfl⟩
      · conv => arg 3; whnf
        refine Sim.goF (decide_eq_false hc3) ?_
        conv => arg 3; whnf
        refine Sim.goF (decide_eq_false hc3) ?_
        conv => arg 3; whnf
        refine Sim.goF (decide_eq_false hc3) ?_
        conv => arg 3; whnf
        refine Sim.goF (decide_eq_false hc3) ?_
        conv => arg 3; whnf
        refine Sim.goF (decide_eq_false hc3) ?_
        conv => arg 3; whnf
        refine Sim.ite Iff.rfl (fun hc4 => ?_) (fun hc4 => ?_)
        · conv => arg 3; whnf
          refine Sim.goB (decide_eq_true hc4) ?_
          conv => arg 3; whnf
          refine Sim.goB (decide_eq_true hc4) ?_
          conv => arg 3; whnf
          refine Sim.goB (decide_eq_true hc4) ?_
          conv => arg 3; whnf
          refine Sim.goB (decide_eq_true hc4) ?_
          conv => arg 3; whnf
          refine Sim.goB (decide_eq_true hc4) ?_
          conv => arg 3; whnf
          exact Sim.ret ⟨_, rfl, rfl⟩
        · conv => arg 3; whnf
          refine Sim.goF (decide_eq_false hc4) ?_
          conv => arg 3; whnf
          refine Sim.goF (decide_eq_false hc4) ?_
          conv => arg 3; whnf
          refine Sim.goF (decide_eq_false hc4) ?_
          conv => arg 3; whnf
          refine Sim.goF (decide_eq_false hc4) ?_
          conv => arg 3; whnf
          refine Sim.goF (decide_eq_false hc4) ?_
          conv => arg 3; whnf
          refine Sim.ite Iff.rfl (fun hc5 => ?_) (fun hc5 => ?_)
          · conv => arg 3; whnf
            refine Sim.goB (decide_eq_true hc5) ?_
            conv => arg 3; whnf
            refine Sim.goB (decide_eq_true hc5) ?_
            conv => arg 3; whnf
            refine Sim.goB (decide_eq_true hc5) ?_
            conv => arg 3; whnf
            refine Sim.goB (decide_eq_true hc5) ?_
            conv => arg 3; whnf
            refine Sim.goB (decide_eq_true hc5) ?_
            conv => arg 3; whnf
            exact Sim.ret ⟨_, rfl, rfl⟩
          · conv => arg 3; whnf
            refine Sim.goF (decide_eq_false hc5) ?_
            conv => arg 3; whnf
            refine Sim.goF (decide_eq_false hc5) ?_
            conv => arg 3; whnf
            refine Sim.goF (decide_eq_false hc5) ?_
            conv => arg 3; whnf
            refine Sim.goF (decide_eq_false hc5) ?_
            conv => arg 3; whnf
            refine Sim.goF (decide_eq_false hc5) ?_
            conv => arg 3; whnf
            refine Sim.ite Iff.rfl (fun hc6 => ?_) (fun hc6 => ?_)
            · conv => arg 3; whnf
              refine Sim.goB (decide_eq_true hc6) ?_
              conv => arg 3; whnf
              refine Sim.goB (decide_eq_true hc6) ?_
              conv => arg 3; whnf
              refine Sim.goB (decide_eq_true hc6) ?_
              conv => arg 3; whnf
              refine Sim.goB (decide_eq_true hc6) ?_
              conv => arg 3; whnf
              refine Sim.goB (decide_eq_true hc6) ?_
              conv => arg 3; whnf
              exact Sim.ret ⟨_, rfl, rfl⟩
            · conv => arg 3; whnf
              refine Sim.goF (decide_eq_false hc6) ?_
              conv => arg 3; whnf
              refine Sim.goF (decide_eq_false hc6) ?_
              conv => arg 3; whnf
              refine Sim.goF (decide_eq_false hc6) ?_
              conv => arg 3; whnf
              refine Sim.goF (decide_eq_false hc6) ?_
              conv => arg 3; whnf
              refine Sim.goF (decide_eq_false hc6) ?_
              conv => arg 3; whnf
              refine Sim.iteB (fun hc7 => ?_) (fun hc7 => ?_)
              · conv => arg 3; whnf
                exact Sim.ret ⟨_, rfl, rfl⟩
              · conv => arg 3; whnf
                refine Sim.ite Iff.rfl (fun hc8 => ?_) (fun hc8 => ?_)
                · conv => arg 3; whnf
                  refine Sim.goB (decide_eq_true hc8) ?_
                  conv => arg 3; whnf
                  refine Sim.goB (decide_eq_true hc8) ?_
                  conv => arg 3; whnf
                  refine Sim.goB (decide_eq_true hc8) ?_
                  conv => arg 3; whnf
                  refine Sim.goB (decide_eq_true hc8) ?_
                  conv => arg 3; whnf
                  refine Sim.goB (decide_eq_true hc8) ?_
                  conv => arg 3; whnf
                  exact Sim.ret ⟨_, rfl, rfl⟩
                · conv => arg 3; whnf
                  refine Sim.goF (decide_eq_false hc8) ?_
                  conv => arg 3; whnf
                  refine Sim.goF (decide_eq_false hc8) ?_
                  conv => arg 3; whnf
                  refine Sim.goF (decide_eq_false hc8) ?_
                  conv => arg 3; whnf
                  refine Sim.goF (decide_eq_false hc8) ?_
                  conv => arg 3; whnf
                  refine Sim.goF (decide_eq_false hc8) ?_
                  conv => arg 3; whnf
                  refine Sim.ite Iff.rfl (fun hc9 => ?_) (fun hc9 => ?_)
                  · conv => arg 3; whnf
                    refine Sim.goB (decide_eq_true hc9) ?_
                    conv => arg 3; whnf
                    refine Sim.goB (decide_eq_true hc9) ?_
                    conv => arg 3; whnf
                    refine Sim.goB (decide_eq_true hc9) ?_
                    conv => arg 3; whnf
                    refine Sim.goB (decide_eq_true hc9) ?_
                    conv => arg 3; whnf
                    refine Sim.goB (decide_eq_true hc9) ?_
                    conv => arg 3; whnf
                    exact Sim.ret ⟨_, rfl, rfl⟩
                  · conv => arg 3; whnf
                    refine Sim.goF (decide_eq_false hc9) ?_
                    conv => arg 3; whnf
                    refine Sim.goF (decide_eq_false hc9) ?_
                    conv => arg 3; whnf
                    refine Sim.goF (decide_eq_false hc9) ?_
                    conv => arg 3; whnf
                    refine Sim.goF (decide_eq_false hc9) ?_
                    conv => arg 3; whnf
                    refine Sim.goF (decide_eq_false hc9) ?_
                    conv => arg 3; whnf
                    refine Sim.ite Iff.rfl (fun hc10 => ?_) (fun hc10 => ?_)
                    · conv => arg 3; whnf
                      refine Sim.goB (decide_eq_true hc10) ?_
                      conv => arg 3; whnf
                      refine Sim.goB (decide_eq_true hc10) ?_
                      conv => arg 3; whnf
                      refine Sim.goB (decide_eq_true hc10) ?_
                      conv => arg 3; whnf
                      refine Sim.goB (decide_eq_true hc10) ?_
                      conv => arg 3; whnf
                      refine Sim.goB (decide_eq_true hc10) ?_
                      conv => arg 3; whnf
                      exact Sim.ret ⟨_, rfl, rfl⟩
                    · conv => arg 3; whnf
                      refine Sim.goF (decide_eq_false hc10) ?_
                      conv => arg 3; whnf
                      refine Sim.goF (decide_eq_false hc10) ?_
                      conv => arg 3; whnf
                      refine Sim.goF (decide_eq_false hc10) ?_
                      conv => arg 3; whnf
                      refine Sim.goF (decide_eq_false hc10) ?_
                      conv => arg 3; whnf
                      refine Sim.goF (decide_eq_false hc10) ?_
                      conv => arg 3; whnf
                      refine Sim.ite Iff.rfl (fun hc11 => ?_) (fun hc11 => ?_)
                      · conv => arg 3; whnf
                        refine Sim.goB (decide_eq_true hc11) ?_
                        conv => arg 3; whnf
                        refine Sim.goB (decide_eq_true hc11) ?_
                        conv => arg 3; whnf
                        refine Sim.goB (decide_eq_true hc11) ?_
                        conv => arg 3; whnf
                        refine Sim.goB (decide_eq_true hc11) ?_
                        conv => arg 3; whnf
                        refine Sim.goB (decide_eq_true hc11) ?_
                        conv => arg 3; whnf
                        exact Sim.ret ⟨_, rfl, rfl⟩
                      · conv => arg 3; whnf
                        refine Sim.goF (decide_eq_false hc11) ?_
                        conv => arg 3; whnf
                        refine Sim.goF (decide_eq_false hc11) ?_
                        conv => arg 3; whnf
                        refine Sim.goF (decide_eq_false hc11) ?_
                        conv => arg 3; whnf
                        refine Sim.goF (decide_eq_false hc11) ?_
                        conv => arg 3; whnf
                        refine Sim.goF (decide_eq_false hc11) ?_
                        conv => arg 3; whnf
                        refine Sim.ite Iff.rfl (fun hc12 => ?_) (fun hc12 => ?_)
                        · conv => arg 3; whnf
                          refine Sim.goB (decide_eq_true hc12) ?_
                          conv => arg 3; whnf
                          refine Sim.goB (decide_eq_true hc12) ?_
                          conv => arg 3; whnf
                          refine Sim.goB (decide_eq_true hc12) ?_
                          conv => arg 3; whnf
                          refine Sim.goB (decide_eq_true hc12) ?_
                          conv => arg 3; whnf
                          refine Sim.goB (decide_eq_true hc12) ?_
                          conv => arg 3; whnf
                          exact Sim.ret ⟨_, rfl, rfl⟩
                        · conv => arg 3; whnf
                          refine Sim.goF (decide_eq_false hc12) ?_
                          conv => arg 3; whnf
                          refine Sim.goF (decide_eq_false hc12) ?_
                          conv => arg 3; whnf
                          refine Sim.goF (decide_eq_false hc12) ?_
                          conv => arg 3; whnf
                          refine Sim.goF (decide_eq_false hc12) ?_
                          conv => arg 3; whnf
                          refine Sim.goF (decide_eq_false hc12) ?_
                          conv => arg 3; whnf
                          refine Sim.ite Iff.rfl (fun hc13 => ?_) (fun hc13 => ?_)
                          · conv => arg 3; whnf
                            refine Sim.goB (decide_eq_true hc13) ?_
                            conv => arg 3; whnf
                            refine Sim.goB (decide_eq_true hc13) ?_
                            conv => arg 3; whnf
                            refine Sim.goB (decide_eq_true hc13) ?_
                            conv => arg 3; whnf
                            refine Sim.goB (decide_eq_true hc13) ?_
                            conv => arg 3; whnf
                            refine Sim.goB (decide_eq_true hc13) ?_
                            conv => arg 3; whnf
                            exact Sim.ret ⟨_, rfl, rfl⟩
                          · conv => arg 3; whnf
                            refine Sim.goF (decide_eq_false hc13) ?_
                            conv => arg 3; whnf
                            refine Sim.goF (decide_eq_false hc13) ?_
                            conv => arg 3; whnf
                            refine Sim.goF (decide_eq_false hc13) ?_
                            conv => arg 3; whnf
                            refine Sim.goF (decide_eq_false hc13) ?_
                            conv => arg 3; whnf
                            refine Sim.goF (decide_eq_false hc13) ?_
                            conv => arg 3; whnf
                            refine Sim.ite Iff.rfl (fun hc14 => ?_) (fun hc14 => ?_)
                            · conv => arg 3; whnf
                              refine Sim.goB (decide_eq_true hc14) ?_
                              conv => arg 3; whnf
                              refine Sim.goB (decide_eq_true hc14) ?_
                              conv => arg 3; whnf
                              refine Sim.goB (decide_eq_true hc14) ?_
                              conv => arg 3; whnf
                              refine Sim.goB (decide_eq_true hc14) ?_
                              conv => arg 3; whnf
                              refine Sim.goB (decide_eq_true hc14) ?_
                              conv => arg 3; whnf
                              exact Sim.ret ⟨_, rfl, rfl⟩
                            · conv => arg 3; whnf
                              refine Sim.goF (decide_eq_false hc14) ?_
                              conv => arg 3; whnf
                              refine Sim.goF (decide_eq_false hc14) ?_
                              conv => arg 3; whnf
                              refine Sim.goF (decide_eq_false hc14) ?_
                              conv => arg 3; whnf
                              refine Sim.goF (decide_eq_false hc14) ?_
                              conv => arg 3; whnf
                              refine Sim.goF (decide_eq_false hc14) ?_
                              conv => arg 3; whnf
                              refine Sim.ite Iff.rfl (fun hc15 => ?_) (fun hc15 => ?_)
                              · conv => arg 3; whnf
                                refine Sim.goB (decide_eq_true hc15) ?_
                                conv => arg 3; whnf
                                refine Sim.goB (decide_eq_true hc15) ?_
                                conv => arg 3; whnf
                                refine Sim.goB (decide_eq_true hc15) ?_
                                conv => arg 3; whnf
                                refine Sim.goB (decide_eq_true hc15) ?_
                                conv => arg 3; whnf
                                refine Sim.goB (decide_eq_true hc15) ?_
                                conv => arg 3; whnf
                                exact Sim.ret ⟨_, rfl, rfl⟩
                              · conv => arg 3; whnf
                                refine Sim.goF (decide_eq_false hc15) ?_
                                conv => arg 3; whnf
                                refine Sim.goF (decide_eq_false hc15) ?_
                                conv => arg 3; whnf
                                refine Sim.goF (decide_eq_false hc15) ?_
                                conv => arg 3; whnf
                                refine Sim.goF (decide_eq_false hc15) ?_
                                conv => arg 3; whnf
                                refine Sim.goF (decide_eq_false hc15) ?_
                                conv => arg 3; whnf
                                refine Sim.ite Iff.rfl (fun hc16 => ?_) (fun hc16 => ?_)
                                · conv => arg 3; whnf
                                  exact Sim.ret ⟨_, rfl, rfl⟩
                                · conv => arg 3; whnf
                                  refine Sim.callR hR (r26_Same_sim L0.Ports i0.Ports) ?_
                                  rintro r0 q rfl
                                  conv => arg 3; whnf
                                  refine Sim.iteB (fun hc17 => ?_) (fun hc17 => ?_)
                                  · conv => arg 3; whnf
                                    refine Sim.goB hc17 ?_
                                    conv => arg 3; whnf
                                    refine Sim.goB hc17 ?_
                                    conv => arg 3; whnf
                                    refine Sim.goB hc17 ?_
                                    conv => arg 3; whnf
                                    refine Sim.goB hc17 ?_
                                    conv => arg 3; whnf
                                    refine Sim.callR hR (r12_Same_sim L0.Hold i0.Hold) ?_
                                    rintro r2 q rfl
                                    conv => arg 3; whnf
                                    refine Sim.goB hc17 ?_
                                    conv => arg 3; whnf
                                    refine Sim.iteB (fun hc18 => ?_) (fun hc18 => ?_)
                                    · conv => arg 3; whnf
                                      refine Sim.goB hc18 ?_
                                      conv => arg 3; whnf
                                      refine Sim.goB hc18 ?_
                                      conv => arg 3; whnf
                                      refine Sim.goB hc18 ?_
                                      conv => arg 3; whnf
                                      refine Sim.goB hc18 ?_
                                      conv => arg 3; whnf
                                      refine Sim.callR hR (r06_Same_sim L0.Log i0.Log) ?_
                                      rintro r3 q rfl
                                      conv => arg 3; whnf
                                      refine Sim.goB hc18 ?_
                                      conv => arg 3; whnf
                                      exact Sim.ret ⟨_, rfl, rfl⟩
                                    · conv => arg 3; whnf
                                      refine Sim.goF hc18 ?_
                                      conv => arg 3; whnf
                                      refine Sim.goF hc18 ?_
                                      conv => arg 3; whnf
                                      refine Sim.goF hc18 ?_
                                      conv => arg 3; whnf
                                      refine Sim.goF hc18 ?_
                                      conv => arg 3; whnf
                                      refine Sim.goF hc18 ?_
                                      conv => arg 3; whnf
                                      exact Sim.ret ⟨_, rfl, rfl⟩
                                  · conv => arg 3; whnf
                                    refine Sim.goF hc17 ?_
                                    conv => arg 3; whnf
                                    refine Sim.goF hc17 ?_
                                    conv => arg 3; whnf
                                    refine Sim.goF hc17 ?_
                                    conv => arg 3; whnf
                                    refine Sim.goF hc17 ?_
                                    conv => arg 3; whnf
                                    refine Sim.goF hc17 ?_
                                    conv => arg 3; whnf
                                    exact Sim.ret ⟨_, rfl, rfl⟩
noncomputable def r03_Length (c0 : GConf) : Option Int :=
  (r03_Plain c0).bind fun r0 =>
  if r0 ≠ 0 then
    some 0
  else
    some (wr ((wr (3 * (wr (c0.F + 1)))) * c0.D))
theorem r03_Length_sim (c0 : GConf) : Sim (r03_Length c0) (Gv fun r q => q = (.int .i64 r, [])) (LM.call n_r03_Length [.agg [.int .i64 c0.N, .int .i64 c0.F, .int .i64 c0.D, .int .i64 c0.Period, .int .i64 c0.Rate, .int .i64 c0.Drift, .int .i64 c0.Offset, .int .i64 c0.Slot, .int .i64 c0.Mod, .int .i64 c0.Fresh, .lst .no (List.map iav c0.Table)]] []) := by
  unfold r03_Length
  refine sim_evR M XE rfl rfl fun S hS hw hw8 R hR => ?_
  simp only [hw]
  conv => arg 3; whnf
  refine Sim.callR hR (r03_Plain_sim c0) ?_
  rintro r0 q rfl
  conv => arg 3; whnf
  refine Sim.ite Iff.rfl (fun hc => ?_) (fun hc => ?_)
  · conv => arg 3; whnf
    exact Sim.ret ⟨_, rfl, rfl⟩
  · conv => arg 3; whnf
    exact Sim.ret ⟨_, rfl, rfl⟩
noncomputable def r03_Bits (c0 : GConf) : Option Int :=
  (r03_Plain c0).bind fun r0 =>
  if r0 ≠ 0 then
    some 0
  else
    some (wr (8 + c0.N))
theorem r03_Bits_sim (c0 : GConf) : Sim (r03_Bits c0) (Gv fun r q => q = (.int .i64 r, [])) (LM.call n_r03_Bits [.agg [.int .i64 c0.N, .int .i64 c0.F, .int .i64 c0.D, .int .i64 c0.Period, .int .i64 c0.Rate, .int .i64 c0.Drift, .int .i64 c0.Offset, .int .i64 c0.Slot, .int .i64 c0.Mod, .int .i64 c0.Fresh, .lst .no (List.map iav c0.Table)]] []) := by
  unfold r03_Bits
  refine sim_evR M XE rfl rfl fun S hS hw hw8 R hR => ?_
  simp only [hw]
  conv => arg 3; whnf
  refine Sim.callR hR (r03_Plain_sim c0) ?_
  rintro r0 q rfl
  conv => arg 3; whnf
  refine Sim.ite Iff.rfl (fun hc => ?_) (fun hc => ?_)
  · conv => arg 3; whnf
    exact Sim.ret ⟨_, rfl, rfl⟩
  · conv => arg 3; whnf
    exact Sim.ret ⟨_, rfl, rfl⟩
noncomputable def r01_Mod (n0 : Int) (by0 : Int) : Option Int :=
  if by0 < 1 then
    some 0
  else
    if by0 = 0 then none else
    if (Int.tmod n0 by0) < 0 then
      some (wr ((Int.tmod n0 by0) + by0))
    else
      some (Int.tmod n0 by0)
theorem r01_Mod_sim (n0 : Int) (by0 : Int) : Sim (r01_Mod n0 by0) (Gv fun r q => q = (.int .i64 r, [])) (LM.call n_r01_Mod [.int .i64 n0, .int .i64 by0] []) := by
  unfold r01_Mod
  refine sim_evR M XE rfl rfl fun S hS hw hw8 R hR => ?_
  simp only [hw]
  conv => arg 3; whnf
  refine Sim.ite Iff.rfl (fun hc => ?_) (fun hc => ?_)
  · conv => arg 3; whnf
    exact Sim.ret ⟨_, rfl, rfl⟩
  · conv => arg 3; whnf
    refine Sim.ite Iff.rfl (fun _ => Sim.no) (fun hc2 => ?_)
    conv => arg 3; whnf
    refine Sim.ite Iff.rfl (fun hc3 => ?_) (fun hc3 => ?_)
    · conv => arg 3; whnf
      exact Sim.ret ⟨_, rfl, rfl⟩
    · conv => arg 3; whnf
      exact Sim.ret ⟨_, rfl, rfl⟩
noncomputable def r05_Put (n0 : Int) : Option Int :=
  (r01_Mod n0 65536).bind fun r0 =>
  some r0
theorem r05_Put_sim (n0 : Int) : Sim (r05_Put n0) (Gv fun r q => q = (.int .i64 r, [])) (LM.call n_r05_Put [.int .i64 n0] []) := by
  unfold r05_Put
  refine sim_evR M XE rfl rfl fun S hS hw hw8 R hR => ?_
  conv => arg 3; whnf
  refine Sim.callR hR (r01_Mod_sim n0 65536) ?_
  rintro r0 q rfl
  conv => arg 3; whnf
  exact Sim.ret ⟨_, rfl, rfl⟩
noncomputable def r01_Clamp (n0 : Int) (low : Int) (high : Int) : Option Int :=
  if n0 < low then
    some low
  else
    if high < low then
      some low
    else
      some (min n0 high)
theorem r01_Clamp_sim (n0 : Int) (low : Int) (high : Int) : Sim (r01_Clamp n0 low high) (Gv fun r q => q = (.int .i64 r, [])) (LM.call n_r01_Clamp [.int .i64 n0, .int .i64 low, .int .i64 high] []) := by
  unfold r01_Clamp
  refine sim_evR M XE rfl rfl fun S hS hw hw8 R hR => ?_
  conv => arg 3; whnf
  refine Sim.ite Iff.rfl (fun hc => ?_) (fun hc => ?_)
  · conv => arg 3; whnf
    refine Sim.goB (decide_eq_true hc) ?_
    conv => arg 3; whnf
    refine Sim.goB (decide_eq_true hc) ?_
    conv => arg 3; whnf
    refine Sim.goB (decide_eq_true hc) ?_
    conv => arg 3; whnf
    exact Sim.ret ⟨_, rfl, rfl⟩
  · conv => arg 3; whnf
    refine Sim.goF (decide_eq_false hc) ?_
    conv => arg 3; whnf
    refine Sim.goF (decide_eq_false hc) ?_
    conv => arg 3; whnf
    refine Sim.goF (decide_eq_false hc) ?_
    conv => arg 3; whnf
    refine Sim.ite Iff.rfl (fun hc2 => ?_) (fun hc2 => ?_)
    · conv => arg 3; whnf
      exact Sim.ret ⟨_, rfl, rfl⟩
    · conv => arg 3; whnf
      exact Sim.ret ⟨_, rfl, rfl⟩
noncomputable def r28_digits_0_step (s2 : List UInt8) (n2 : Int) (last2 : Int) (out : List UInt8) (i0 : Int) : Option (((List UInt8) × Int) ⊕ ((List UInt8))) :=
  if i0 < n2 then
    if i0 < (List.length s2 : Int) then
      (idx? s2 i0).bind fun b0 =>
      if 48 ≤ (UInt8.toNat b0 : Int) then
        (idx? s2 i0).bind fun b2 =>
        if (UInt8.toNat b2 : Int) ≤ last2 then
          if 0 ≤ (wr (i0 + 1)) ∧ (wr (i0 + 1)) ≤ ((List.length s2) : Nat) then
            if 0 ≤ i0 ∧ i0 ≤ ((Int.toNat (wr (i0 + 1))) : Nat) then
              if List.length out + List.length (List.drop (Int.toNat i0) (List.take (Int.toNat (wr (i0 + 1))) s2)) ≤ 9223372036854775807 then
                some (.inl ((out ++ (List.drop (Int.toNat i0) (List.take (Int.toNat (wr (i0 + 1))) s2))), (wr (i0 + 1))))
              else none
            else none
          else none
        else
          if List.length out + List.length ([48] : List UInt8) ≤ 9223372036854775807 then
            some (.inl ((out ++ ([48] : List UInt8)), (wr (i0 + 1))))
          else none
      else
        if List.length out + List.length ([48] : List UInt8) ≤ 9223372036854775807 then
          some (.inl ((out ++ ([48] : List UInt8)), (wr (i0 + 1))))
        else none
    else
      if List.length out + List.length ([48] : List UInt8) ≤ 9223372036854775807 then
        some (.inl ((out ++ ([48] : List UInt8)), (wr (i0 + 1))))
      else none
  else
    some (.inr out)
end Go.Proofs.Ytnbmaoendgafbaa
