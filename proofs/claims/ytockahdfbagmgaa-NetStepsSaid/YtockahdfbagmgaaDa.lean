/-
  The program's functions as plain functions (printed by a program of mine), each beside the machine's.
-/
import Derived.Test.YtockahdfbagmgaaFm
import Derived.Test.YtockahdfbagmgaaPFe
set_option linter.unusedVariables false
set_option linter.unusedSimpArgs false
set_option maxRecDepth 100000
set_option maxHeartbeats 4000000
namespace Go.Proofs.Ytockahdfbagmgaa
open Go.Proofs.PF
noncomputable abbrev LM : MRec := lim M XE
structure GItem where
  Age : Int
  Wait : Int
  Bytes : List UInt8
  deriving DecidableEq, Inhabited
@[reducible] def GItem.cells (x : GItem) : List AV := [iav x.Age, iav x.Wait, .str x.Bytes]
@[reducible] def GItem.av (x : GItem) : AV := .agg [iav x.Age, iav x.Wait, .str x.Bytes]
structure GLink where
  Queue : List GItem
  Lost : Int
  deriving DecidableEq, Inhabited
@[reducible] def GLink.cells (x : GLink) : List AV := [lav GItem.av x.Queue, iav x.Lost]
@[reducible] def GLink.av (x : GLink) : AV := .agg [lav GItem.av x.Queue, iav x.Lost]
structure GNet where
  N : Int
  Links : List GLink
  deriving DecidableEq, Inhabited
@[reducible] def GNet.cells (x : GNet) : List AV := [iav x.N, lav GLink.av x.Links]
@[reducible] def GNet.av (x : GNet) : AV := .agg [iav x.N, lav GLink.av x.Links]
structure GLink_g where
  Queue : Gr × List GItem
  Lost : Int
  deriving DecidableEq, Inhabited
@[reducible] def GLink_g.pl (x : GLink_g) : GLink := GLink.mk (Prod.snd x.Queue) x.Lost
@[reducible] def GLink_g.up (x : GLink) : GLink_g := GLink_g.mk ((fun x => (Gr.no, x)) x.Queue) x.Lost
@[reducible] def GLink_g.cells (x : GLink_g) : List AV := [.lst x.Queue.1 (List.map GItem.av x.Queue.2), iav x.Lost]
@[reducible] def GLink_g.av (x : GLink_g) : AV := .agg [.lst x.Queue.1 (List.map GItem.av x.Queue.2), iav x.Lost]
structure Glink_line where
  Link : GLink
  deriving DecidableEq, Inhabited
@[reducible] def Glink_line.cells (x : Glink_line) : List AV := [lav GItem.av x.Link.Queue, iav x.Link.Lost]
@[reducible] def Glink_line.av (x : Glink_line) : AV := .agg [lav GItem.av x.Link.Queue, iav x.Link.Lost]
structure GFrame where
  From : Int
  Age : Int
  Bytes : List UInt8
  deriving DecidableEq, Inhabited
@[reducible] def GFrame.cells (x : GFrame) : List AV := [iav x.From, iav x.Age, .str x.Bytes]
@[reducible] def GFrame.av (x : GFrame) : AV := .agg [iav x.From, iav x.Age, .str x.Bytes]
structure GSend where
  From : Int
  To : Int
  Delay : Int
  Bytes : List UInt8
  deriving DecidableEq, Inhabited
@[reducible] def GSend.cells (x : GSend) : List AV := [iav x.From, iav x.To, iav x.Delay, .str x.Bytes]
@[reducible] def GSend.av (x : GSend) : AV := .agg [iav x.From, iav x.To, iav x.Delay, .str x.Bytes]
noncomputable def slices_Clone_api_Item_api_Item (l : List GItem) : Option (List GItem) := if l.length ≤ lenMax then some l else none
theorem slices_Clone_api_Item_api_Item_sim (l : List GItem) (g : Gr) : Sim (slices_Clone_api_Item_api_Item l) (Gv fun r q => q = (AV.lst .no (List.map GItem.av r), ([] : List PF.Obj))) (LM.call n_slices_Clone_api_Item_api_Item [.lst g (List.map GItem.av l)] []) := by
  unfold slices_Clone_api_Item_api_Item
  refine Sim.guard fun h => ?_
  have h1 : (okElems 3 true (List.map GItem.av l) && Nat.ble (List.map GItem.av l).length lenMax) = true := by
    rw [okE_map (by intro _; exact ⟨rfl, rfl, rfl⟩)]; simpa using h
  have h2 : XE n_slices_Clone_api_Item_api_Item [.lst g (List.map GItem.av l)] = some (AV.lst .no (List.map GItem.av l), ([] : List PF.Obj)) := by
    first
    | (show (if (okElems 3 true (List.map GItem.av l) && Nat.ble (List.map GItem.av l).length lenMax) = true then some (AV.lst .no (List.map GItem.av l), ([] : List PF.Obj)) else none) = _; rw [h1]; rfl)
    | (show (match (if (okElems 3 true (List.map GItem.av l) && Nat.ble (List.map GItem.av l).length lenMax) = true then some (AV.lst .no (List.map GItem.av l), ([] : List PF.Obj)) else none) with
      | some r => some r
      | none => _) = _; rw [h1]; rfl)
  refine Sim.ret ⟨(AV.lst .no (List.map GItem.av l), ([] : List PF.Obj)), by rw [lim_ext_eq M XE rfl]; exact h2, ?_⟩
  show (AV.lst .no (List.map GItem.av l), ([] : List PF.Obj)) = (AV.lst .no (List.map GItem.av l), ([] : List PF.Obj))
  rfl
noncomputable def r32_Few_0_step (t2 : GNet) (n0 : Int) (i0 : Int) : Option ((Int × Int) ⊕ Int) :=
  if i0 < (List.length t2.Links : Int) then
    if n0 < 3000 then
      (idx? t2.Links i0).bind fun z0 =>
      some (.inl ((wr (n0 + (min (List.length z0.Queue : Int) 3000))), (wr (i0 + 1))))
    else
      some (.inr n0)
  else
    some (.inr n0)
noncomputable def r32_Few_0 (t2 : GNet) (n0 : Int) (i0 : Int) : Option Int :=
  loopO (fun s : Int × Int => r32_Few_0_step t2 s.1 s.2) (n0, i0)
@[reducible] def r32_Few_0_st (t2 : GNet) (n0 : Int) (i0 : Int) : PF.St := ⟨[(1, .ptr 101 0), (3, iav n0), (4, iav i0)], [(101, ⟨true, GNet.cells t2⟩)]⟩
def r32_Few_0_rel (t2 : GNet) (r : Int) (q : Ex × PF.St) : Prop := (fun r (q : Ex × PF.St) => q = ((.exit 0), ⟨[(3, iav r)], [(101, ⟨true, GNet.cells t2⟩)]⟩)) r q
def r32_Few_0_inv (t2 : GNet) (v : Int × Int) (e : PF.St) : Prop := e = r32_Few_0_st t2 v.1 v.2
theorem r32_Few_0_sim (t2 : GNet) (n0 : Int) (i0 : Int) (s : PF.St) (hk : keep [1, 3, 4] [101] s = some (r32_Few_0_st t2 n0 i0)) : Sim (r32_Few_0 t2 n0 i0) (Gv (r32_Few_0_rel t2)) (LM.loop ([1, 3, 4], [101], [3], B_r32_Few_0) s) := by
  refine sim_loop M XE (r32_Few_0_inv t2) (r32_Few_0_rel t2) ?_ _ _ _ hk rfl
  clear hk
  rintro S hS hw hw8 R hR ⟨n0, i0⟩ env hp he
  change (⟨env, hp⟩ : PF.St) = r32_Few_0_st t2 n0 i0 at he
  cases he
  show Sim (r32_Few_0_step t2 n0 i0) _ _
  unfold r32_Few_0_step
  simp only [hw]
  refine au ?_
  refine Sim.ki hS (m := (List.length t2.Links : Int)) (by simp) ?_
  refine au (.ite Iff.rfl (fun hc2 => ?_) fun hc2 => ?_)
  · refine au (.ite Iff.rfl (fun hc3 => ?_) fun hc3 => ?_)
    · refine au ?_
      refine Sim.ix (by simp) (fun z0 hz0 => ?_)
      refine au ?_
      refine Sim.go (idx_map _ hz0) ?_
      refine au ?_
      refine Sim.ki hS (m := (List.length z0.Queue : Int)) (by simp) ?_
      refine au ?_
      exact Sim.ret ⟨_, _, rfl, rfl, rfl⟩
    · exact au (.ret ⟨_, rfl, rfl⟩)
  · exact au (.ret ⟨_, rfl, rfl⟩)
noncomputable def r32_Few (t0 : GNet) : Option Bool :=
  if 200 < (List.length t0.Links : Int) then
    some false
  else
    (r32_Few_0 t0 0 0).bind fun r0 =>
    some (decide (r0 < 3000))
theorem r32_Few_sim (t0 : GNet) : Sim (r32_Few t0) (Gv fun r q => q = (.bool r, [])) (LM.call n_r32_Few [GNet.av t0] []) := by
  unfold r32_Few
  refine sim_evR M XE rfl rfl fun S hS hw hw8 R hR => ?_
  refine au ?_
  refine Sim.ki hS (m := (List.length t0.Links : Int)) (by simp) ?_
  refine au (.ite Iff.rfl (fun hc => ?_) fun hc => ?_)
  · exact au (.ret ⟨_, rfl, rfl⟩)
  · refine au ?_
    refine Sim.callL hR (r32_Few_0_sim t0 0 0 _ rfl) ?_
    rintro r0 q rfl
    exact au (.ret ⟨_, rfl, rfl⟩)
noncomputable def num_Clamp (n0 : Int) (low : Int) (high : Int) : Option Int :=
  if n0 < low then
    some low
  else
    if high < low then
      some low
    else
      if high < n0 then
        some high
      else
        some n0
theorem num_Clamp_sim (n0 : Int) (low : Int) (high : Int) : Sim (num_Clamp n0 low high) (Gv fun r q => q = (iav r, [])) (LM.call n_num_Clamp [iav n0, iav low, iav high] []) := by
  unfold num_Clamp
  refine sim_evR M XE rfl rfl fun S hS hw hw8 R hR => ?_
  refine au (.ite Iff.rfl (fun hc => ?_) fun hc => ?_)
  · exact au (.ret ⟨_, rfl, rfl⟩)
  · refine au (.ite Iff.rfl (fun hc2 => ?_) fun hc2 => ?_)
    · exact au (.ret ⟨_, rfl, rfl⟩)
    · refine au (.ite Iff.rfl (fun hc3 => ?_) fun hc3 => ?_)
      · exact au (.ret ⟨_, rfl, rfl⟩)
      · exact au (.ret ⟨_, rfl, rfl⟩)
noncomputable def net_New (n0 : Int) : Option (Int × Nat × (List GLink_g)) :=
  (num_Clamp n0 0 13).bind fun r0 =>
  if 0 ≤ (wr (r0 * r0)) ∧ (wr (r0 * r0)) ≤ lenMax then
    some (r0, (Int.toNat (wr (r0 * r0))), (List.replicate (Int.toNat (wr (r0 * r0))) (GLink_g.mk (Gr.full, ([] : List GItem)) 0)))
  else none
theorem net_New_sim (n0 : Int) : Sim (net_New n0) (Gv fun r q => q = (.agg [iav r.1, .arr 0 0 r.2.1 2 true], [⟨true, (List.flatMap GLink_g.cells r.2.2)⟩])) (LM.call n_net_New [iav n0] []) := by
  unfold net_New
  refine sim_evR M XE rfl rfl fun S hS hw hw8 R hR => ?_
  simp only [hw]
  refine au (cE hR (num_Clamp_sim _ _ _) fun r0 => ?_)
  refine au ?_
  first | refine Sim.ite Iff.rfl (fun _ => ?_) (fun _ => Sim.no) | refine Sim.guard (fun _ => ?_)
  refine au ?_
  refine Sim.kl hS (rep_fm (f := GLink_g.cells) (GLink_g.mk (Gr.full, ([] : List GItem)) 0) _ rfl _) ?_
  refine au ?_
  refine Sim.kfn (Flat.to (Flat.fm (fun _ => Flat.of rfl) _)) ?_
  refine au ?_
  refine Sim.kfl (Flat.ren (Flat.fm (fun _ => Flat.of rfl) _) _) ?_
  exact au (.ret ⟨_, rfl, rfl⟩)
noncomputable def net_sound (t0 : GNet) : Option Bool :=
  if 0 ≤ t0.N then
    if t0.N ≤ 13 then
      some (decide ((List.length t0.Links : Int) = (wr (t0.N * t0.N))))
    else
      some false
  else
    some false
theorem net_sound_sim (t0 : GNet) : Sim (net_sound t0) (Gv fun r q => q = (.bool r, [])) (LM.call n_net_sound [GNet.av t0] []) := by
  unfold net_sound
  refine sim_evR M XE rfl rfl fun S hS hw hw8 R hR => ?_
  simp only [hw]
  refine au (.ite Iff.rfl (fun hc => ?_) fun hc => ?_)
  · refine au (.ite Iff.rfl (fun hc2 => ?_) fun hc2 => ?_)
    · refine au ?_
      refine Sim.ki hS (m := (List.length t0.Links : Int)) (by simp) ?_
      exact au (.ret ⟨_, rfl, rfl⟩)
    · exact au (.ret ⟨_, rfl, rfl⟩)
  · exact au (.ret ⟨_, rfl, rfl⟩)
noncomputable def net_open_0_step (x0 : List GLink) (x2 : Int) (out : Int) (len : Nat) (x5 : GNet) (t2 : GNet) (x3 : Int) (x4 : List GLink_g) : Option ((Int × (List GLink_g)) ⊕ ((List GLink_g))) :=
  if x3 < x2 then
    (idx? x0 x3).bind fun z0 =>
    (slices_Clone_api_Item_api_Item z0.Queue).bind fun r3 =>
    if 0 ≤ x3 ∧ x3 < ((len : Nat) : Int) then
      (mod? x4 (Int.toNat x3) (fun _ => (GLink_g.mk (Gr.no, r3) z0.Lost))).bind fun l0 =>
      some (.inl ((wr (x3 + 1)), l0))
    else none
  else
    some (.inr x4)
noncomputable def net_open_0 (x0 : List GLink) (x2 : Int) (out : Int) (len : Nat) (x5 : GNet) (t2 : GNet) (x3 : Int) (x4 : List GLink_g) : Option ((List GLink_g)) :=
  loopO (fun s : Int × (List GLink_g) => net_open_0_step x0 x2 out len x5 t2 s.1 s.2) (x3, x4)
@[reducible] def net_open_0_st (x0 : List GLink) (x2 : Int) (out : Int) (len : Nat) (x5 : GNet) (t2 : GNet) (x3 : Int) (x4 : List GLink_g) (g0 : Gr) : PF.St := ⟨[(2, .ptr 102 0), (3, .ptr 103 0), (20, lav GLink.av x0), (21, iav x2), (22, iav x3)], [(103, ⟨true, [iav out, .arr 117 0 len 2 true]⟩), (117, ⟨true, (List.flatMap GLink_g.cells x4)⟩), (102, ⟨true, [iav x5.N, .lst g0 (List.map GLink.av x5.Links)]⟩), (101, ⟨true, GNet.cells t2⟩)]⟩
def net_open_0_rel (x0 : List GLink) (x2 : Int) (out : Int) (len : Nat) (x5 : GNet) (t2 : GNet) (r : ((List GLink_g))) (q : Ex × PF.St) : Prop := (fun r (q : Ex × PF.St) => ∃ g0', q = ((.exit 0), ⟨[(2, .ptr 102 0), (3, .ptr 103 0)], [(103, ⟨true, [iav out, .arr 117 0 len 2 true]⟩), (117, ⟨true, (List.flatMap GLink_g.cells r)⟩), (102, ⟨true, [iav x5.N, .lst g0' (List.map GLink.av x5.Links)]⟩), (101, ⟨true, GNet.cells t2⟩)]⟩) ∧ Mg 2 g0') r q
def net_open_0_inv (x0 : List GLink) (x2 : Int) (out : Int) (len : Nat) (x5 : GNet) (t2 : GNet) (v : Int × (List GLink_g)) (e : PF.St) : Prop := ∃ g0, e = net_open_0_st x0 x2 out len x5 t2 v.1 v.2 g0 ∧ Mg 2 g0
theorem net_open_0_sim (x0 : List GLink) (x2 : Int) (out : Int) (len : Nat) (x5 : GNet) (t2 : GNet) (x3 : Int) (x4 : List GLink_g) (g0 : Gr) (hg0 : Mg 2 g0) (s : PF.St) (hk : keep [2, 3, 20, 21, 22] [101, 102, 103, 117] s = some (net_open_0_st x0 x2 out len x5 t2 x3 x4 g0)) : Sim (net_open_0 x0 x2 out len x5 t2 x3 x4) (Gv (net_open_0_rel x0 x2 out len x5 t2)) (LM.loop ([2, 3, 20, 21, 22], [101, 102, 103, 117], [2, 3], B_net_open_0) s) := by
  refine sim_loop M XE (net_open_0_inv x0 x2 out len x5 t2) (net_open_0_rel x0 x2 out len x5 t2) ?_ _ _ _ hk ⟨g0, rfl, hg0⟩
  clear hk hg0
  rintro S hS hw hw8 R hR ⟨x3, x4⟩ env hp ⟨g0, he, hg0⟩
  change (⟨env, hp⟩ : PF.St) = net_open_0_st x0 x2 out len x5 t2 x3 x4 g0 at he
  cases he
  show Sim (net_open_0_step x0 x2 out len x5 t2 x3 x4) _ _
  unfold net_open_0_step
  simp only [hw]
  refine au (.ite Iff.rfl (fun hc2 => ?_) fun hc2 => ?_)
  · refine au ?_
    refine Sim.ix (by simp) (fun z0 hz0 => ?_)
    refine au ?_
    refine Sim.go (idx_map _ hz0) ?_
    refine au (cE hR (slices_Clone_api_Item_api_Item_sim z0.Queue .no) fun r3 => ?_)
    refine au ?_
    first | refine Sim.ite Iff.rfl (fun _ => ?_) (fun _ => Sim.no) | refine Sim.guard (fun _ => ?_)
    refine au ?_
    refine Sim.opt (store_fm (u := (fun _ => (GLink_g.mk (Gr.no, r3) z0.Lost))) (k := 0) (e := 2) (m := (Int.toNat x3)) (fun _ => rfl) (by omega) (by simp) (fun _ => rfl)) (fun l0 _ => ?_)
    refine au ?_
    exact Sim.ret ⟨_, _, rfl, (keep_eq rfl rfl rfl (okH_cons rfl (okH_flat (Flat.fm (fun _ => Flat.of rfl) _) (okH_cons rfl (okH_cons rfl (okH_nil _)))))), ⟨_, rfl, hg0⟩⟩
  · refine au ?_
    refine Sim.go (keep_eq rfl rfl rfl (okH_cons rfl (okH_flat (Flat.fm (fun _ => Flat.of rfl) _) (okH_cons rfl (okH_cons rfl (okH_nil _)))))) ?_
    refine au ?_
    exact Sim.ret ⟨_, rfl, ⟨_, rfl, hg0⟩⟩
noncomputable def net_open (t0 : GNet) : Option (Int × Nat × (List GLink_g)) :=
  (net_sound t0).bind fun r0 =>
  if (!r0) = true then
    (net_New t0.N).bind fun r2 =>
    some (r2.1, r2.2.1, r2.2.2)
  else
    if 0 ≤ (List.length t0.Links : Int) ∧ (List.length t0.Links : Int) ≤ lenMax then
      (net_open_0 t0.Links (List.length t0.Links : Int) t0.N (Int.toNat (List.length t0.Links : Int)) (GNet.mk 0 ([] : List GLink)) t0 0 (List.replicate (Int.toNat (List.length t0.Links : Int)) (GLink_g.mk (Gr.full, ([] : List GItem)) 0))).bind fun r4 =>
      some (t0.N, (Int.toNat (List.length t0.Links : Int)), r4)
    else none
theorem net_open_sim (t0 : GNet) : Sim (net_open t0) (Gv fun r q => q = (.agg [iav r.1, .arr 0 0 r.2.1 2 true], [⟨true, (List.flatMap GLink_g.cells r.2.2)⟩])) (LM.call n_net_open [GNet.av t0] []) := by
  unfold net_open
  refine sim_evR M XE rfl rfl fun S hS hw hw8 R hR => ?_
  refine au (cE hR (net_sound_sim _) fun r0 => ?_)
  refine au (.iteB (fun hc => ?_) fun hc => ?_)
  · refine au (cE hR (net_New_sim _) fun r2 => ?_)
    refine au ?_
    refine Sim.kfl (Flat.ren (Flat.fm (fun _ => Flat.of rfl) _) _) ?_
    refine au ?_
    refine Sim.kfn (Flat.to (Flat.fm (fun _ => Flat.of rfl) _)) ?_
    refine au ?_
    refine Sim.kfl (Flat.ren (Flat.fm (fun _ => Flat.of rfl) _) _) ?_
    exact au (.ret ⟨_, rfl, rfl⟩)
  · refine au ?_
    refine Sim.ki hS (m := (List.length t0.Links : Int)) (by simp) ?_
    refine au ?_
    first | refine Sim.ite Iff.rfl (fun _ => ?_) (fun _ => Sim.no) | refine Sim.guard (fun _ => ?_)
    refine au ?_
    refine Sim.kl hS (rep_fm (f := GLink_g.cells) (GLink_g.mk (Gr.full, ([] : List GItem)) 0) _ rfl _) ?_
    refine au ?_
    refine Sim.ki hS (m := (List.length t0.Links : Int)) (by simp) ?_
    refine au ?_
    refine Sim.callL hR (net_open_0_sim t0.Links (List.length t0.Links : Int) t0.N (Int.toNat (List.length t0.Links : Int)) (GNet.mk 0 ([] : List GLink)) t0 0 (List.replicate (Int.toNat (List.length t0.Links : Int)) (GLink_g.mk (Gr.full, ([] : List GItem)) 0)) .full Mg.full _ (keep_eq rfl rfl rfl (okH_cons rfl (okH_flat (Flat.fm (fun _ => Flat.of rfl) _) (okH_cons rfl (okH_cons rfl (okH_nil _))))))) ?_
    rintro r4 q ⟨g2, rfl, hg2⟩
    refine au ?_
    refine Sim.kfn (Flat.to (Flat.fm (fun _ => Flat.of rfl) _)) ?_
    refine au ?_
    refine Sim.kfl (Flat.ren (Flat.fm (fun _ => Flat.of rfl) _) _) ?_
    exact au (.ret ⟨_, rfl, rfl⟩)
noncomputable def link_open (l0 : GLink) : Option Glink_line :=
  (slices_Clone_api_Item_api_Item l0.Queue).bind fun r0 =>
  some (Glink_line.mk (GLink.mk r0 l0.Lost))
theorem link_open_sim (l0 : GLink) : Sim (link_open l0) (Gv fun r q => q = (Glink_line.av r, [])) (LM.call n_link_open [GLink.av l0] []) := by
  unfold link_open
  refine sim_evR M XE rfl rfl fun S hS hw hw8 R hR => ?_
  refine au (cE hR (slices_Clone_api_Item_api_Item_sim l0.Queue .no) fun r0 => ?_)
  exact au (.ret ⟨_, rfl, rfl⟩)
noncomputable def num_Sat (n0 : Int) (most : Int) : Option Int :=
  if n0 < 0 then
    some 0
  else
    if most < 0 then
      some 0
    else
      if most ≤ n0 then
        some most
      else
        some (wr (n0 + 1))
theorem num_Sat_sim (n0 : Int) (most : Int) : Sim (num_Sat n0 most) (Gv fun r q => q = (iav r, [])) (LM.call n_num_Sat [iav n0, iav most] []) := by
  unfold num_Sat
  refine sim_evR M XE rfl rfl fun S hS hw hw8 R hR => ?_
  simp only [hw]
  refine au (.ite Iff.rfl (fun hc => ?_) fun hc => ?_)
  · exact au (.ret ⟨_, rfl, rfl⟩)
  · refine au (.ite Iff.rfl (fun hc2 => ?_) fun hc2 => ?_)
    · exact au (.ret ⟨_, rfl, rfl⟩)
    · refine au (.ite Iff.rfl (fun hc3 => ?_) fun hc3 => ?_)
      · exact au (.ret ⟨_, rfl, rfl⟩)
      · exact au (.ret ⟨_, rfl, rfl⟩)
noncomputable def queue_older (x0 : GItem) : Option (GItem × Bool) :=
  (num_Sat x0.Age 65535).bind fun r0 =>
  if x0.Wait ≤ 1 then
    some ((GItem.mk r0 0 x0.Bytes), true)
  else
    some ((GItem.mk r0 (wr (x0.Wait - 1)) x0.Bytes), false)
theorem queue_older_sim (x0 : GItem) : Sim (queue_older x0) (Gv fun r q => q = (.tup [GItem.av r.1, .bool r.2], [])) (LM.call n_queue_older [GItem.av x0] []) := by
  unfold queue_older
  refine sim_evR M XE rfl rfl fun S hS hw hw8 R hR => ?_
  simp only [hw]
  refine au (cE hR (num_Sat_sim _ _) fun r0 => ?_)
  refine au (.ite Iff.rfl (fun hc => ?_) fun hc => ?_)
  · exact au (.ret ⟨_, rfl, rfl⟩)
  · exact au (.ret ⟨_, rfl, rfl⟩)
noncomputable def queue_Step_1 (x0 : GItem) (comes : Bool) (o0 : List GItem) (o2 : List GItem) : Option ((List GItem) × (List GItem)) :=
  if comes = true then
    if List.length o0 + List.length [x0] ≤ lenMax then
      some ((o0 ++ [x0]), o2)
    else none
  else
    if List.length o2 + List.length [x0] ≤ lenMax then
      some (o0, (o2 ++ [x0]))
    else none
theorem queue_Step_1_sim (x0 : GItem) (comes : Bool) (o0 : List GItem) (o2 : List GItem) (g0 : Gr) (hg0 : Mg 3 g0) (g2 : Gr) (hg2 : Mg 3 g2) : Sim (queue_Step_1 x0 comes o0 o2) (Gv fun r q => ∃ g0, ∃ g1, q = (.tup [], [⟨true, [.lst g0 (List.map GItem.av r.1)]⟩, ⟨true, [.lst g1 (List.map GItem.av r.2)]⟩]) ∧ Mg 3 g0 ∧ Mg 3 g1) (LM.call n_queue_Step_1 [GItem.av x0, .bool comes, .ptr 0 0, .ptr 1 0] [⟨true, [.lst g0 (List.map GItem.av o0)]⟩, ⟨true, [.lst g2 (List.map GItem.av o2)]⟩]) := by
  unfold queue_Step_1
  refine sim_evR M XE rfl rfl fun S hS hw hw8 R hR => ?_
  refine au (.iteB (fun hc => ?_) fun hc => ?_)
  · refine au ?_
    refine Sim.kl hS rfl ?_
    refine au ?_
    refine Sim.kl hS (ys := List.map GItem.av [x0]) rfl ?_
    refine au ?_
    first | (refine Sim.goB (may_map (by intro _; rfl) hg0 _) ?_) | skip
    refine au ?_
    first | (refine Sim.goB (okE_map (by intro _; exact ⟨rfl, rfl, rfl⟩) _) ?_) | skip
    refine au ?_
    first | refine Sim.ite (by simp) (fun _ => ?_) (fun _ => Sim.no) | refine Sim.guard (fun _ => ?_)
    refine au ?_
    refine Sim.kl hS (ys := List.map GItem.av (o0 ++ [x0])) (by simp) ?_
    refine au ?_
    exact Sim.ret ⟨_, rfl, ⟨_, _, rfl, Mg.own, hg2⟩⟩
  · refine au ?_
    refine Sim.kl hS rfl ?_
    refine au ?_
    refine Sim.kl hS (ys := List.map GItem.av [x0]) rfl ?_
    refine au ?_
    first | (refine Sim.goB (may_map (by intro _; rfl) hg2 _) ?_) | skip
    refine au ?_
    first | (refine Sim.goB (okE_map (by intro _; exact ⟨rfl, rfl, rfl⟩) _) ?_) | skip
    refine au ?_
    first | refine Sim.ite (by simp) (fun _ => ?_) (fun _ => Sim.no) | refine Sim.guard (fun _ => ?_)
    refine au ?_
    refine Sim.kl hS (ys := List.map GItem.av (o2 ++ [x0])) (by simp) ?_
    refine au ?_
    exact Sim.ret ⟨_, rfl, ⟨_, _, rfl, hg0, Mg.own⟩⟩
noncomputable def queue_Step_0_step (x0 : List GItem) (x2 : Int) (x3 : Int) (rest : List GItem) (come : List GItem) : Option ((Int × (List GItem) × (List GItem)) ⊕ ((List GItem) × (List GItem))) :=
  if x3 < x2 then
    (idx? x0 x3).bind fun z0 =>
    (queue_older z0).bind fun r0 =>
    (queue_Step_1 r0.1 r0.2 come rest).bind fun r2 =>
    some (.inl ((wr (x3 + 1)), r2.2, r2.1))
  else
    some (.inr (rest, come))
noncomputable def queue_Step_0 (x0 : List GItem) (x2 : Int) (x3 : Int) (rest : List GItem) (come : List GItem) : Option ((List GItem) × (List GItem)) :=
  loopO (fun s : Int × (List GItem) × (List GItem) => queue_Step_0_step x0 x2 s.1 s.2.1 s.2.2) (x3, rest, come)
@[reducible] def queue_Step_0_st (x0 : List GItem) (x2 : Int) (x3 : Int) (rest : List GItem) (come : List GItem) (g0 : Gr) (g2 : Gr) : PF.St := ⟨[(2, .ptr 102 0), (3, .ptr 103 0), (4, .fn n_queue_Step_1 [.ptr 102 0, .ptr 103 0]), (8, lav GItem.av x0), (9, iav x2), (10, iav x3)], [(103, ⟨true, [.lst g0 (List.map GItem.av rest)]⟩), (102, ⟨true, [.lst g2 (List.map GItem.av come)]⟩)]⟩
def queue_Step_0_rel (x0 : List GItem) (x2 : Int) (r : ((List GItem) × (List GItem))) (q : Ex × PF.St) : Prop := (fun r (q : Ex × PF.St) => ∃ g0', ∃ g1', q = ((.exit 0), ⟨[(2, .ptr 102 0), (3, .ptr 103 0)], [(103, ⟨true, [.lst g0' (List.map GItem.av r.1)]⟩), (102, ⟨true, [.lst g1' (List.map GItem.av r.2)]⟩)]⟩) ∧ Mg 3 g0' ∧ Mg 3 g1') r q
def queue_Step_0_inv (x0 : List GItem) (x2 : Int) (v : Int × (List GItem) × (List GItem)) (e : PF.St) : Prop := ∃ g0, ∃ g2, e = queue_Step_0_st x0 x2 v.1 v.2.1 v.2.2 g0 g2 ∧ Mg 3 g0 ∧ Mg 3 g2
theorem queue_Step_0_sim (x0 : List GItem) (x2 : Int) (x3 : Int) (rest : List GItem) (come : List GItem) (g0 : Gr) (hg0 : Mg 3 g0) (g2 : Gr) (hg2 : Mg 3 g2) (s : PF.St) (hk : keep [2, 3, 4, 8, 9, 10] [102, 103] s = some (queue_Step_0_st x0 x2 x3 rest come g0 g2)) : Sim (queue_Step_0 x0 x2 x3 rest come) (Gv (queue_Step_0_rel x0 x2)) (LM.loop ([2, 3, 4, 8, 9, 10], [102, 103], [2, 3], B_queue_Step_0) s) := by
  refine sim_loop M XE (queue_Step_0_inv x0 x2) (queue_Step_0_rel x0 x2) ?_ _ _ _ hk ⟨g0, g2, rfl, hg0, hg2⟩
  clear hk hg0 hg2
  rintro S hS hw hw8 R hR ⟨x3, rest, come⟩ env hp ⟨g0, g2, he, hg0, hg2⟩
  change (⟨env, hp⟩ : PF.St) = queue_Step_0_st x0 x2 x3 rest come g0 g2 at he
  cases he
  show Sim (queue_Step_0_step x0 x2 x3 rest come) _ _
  unfold queue_Step_0_step
  simp only [hw]
  refine au (.ite Iff.rfl (fun hc => ?_) fun hc => ?_)
  · refine au ?_
    refine Sim.ix (by simp) (fun z0 hz0 => ?_)
    refine au ?_
    refine Sim.go (idx_map _ hz0) ?_
    refine au (cE hR (queue_older_sim _) fun r0 => ?_)
    refine au ?_
    refine Sim.callR hR (queue_Step_1_sim _ _ _ _ g2 hg2 g0 hg0) ?_
    rintro r2 q ⟨g3, g4, rfl, hg3, hg4⟩
    refine au ?_
    exact Sim.ret ⟨_, _, rfl, rfl, ⟨_, _, rfl, hg4, hg3⟩⟩
  · refine au ?_
    exact Sim.ret ⟨_, rfl, ⟨_, _, rfl, hg0, hg2⟩⟩
noncomputable def queue_Step (q0 : List GItem) : Option ((List GItem) × (List GItem)) :=
  (queue_Step_0 q0 (List.length q0 : Int) 0 ([] : List GItem) ([] : List GItem)).bind fun r3 =>
  some (r3.2, r3.1)
theorem queue_Step_sim (q0 : List GItem) : Sim (queue_Step q0) (Gv fun r q => q = (.tup [lav GItem.av r.1, lav GItem.av r.2], [])) (LM.call n_queue_Step [lav GItem.av q0] []) := by
  unfold queue_Step
  refine sim_evR M XE rfl rfl fun S hS hw hw8 R hR => ?_
  refine au ?_
  refine Sim.ki hS (m := (List.length q0 : Int)) (by simp) ?_
  refine au ?_
  refine Sim.callL hR (queue_Step_0_sim q0 (List.length q0 : Int) 0 ([] : List GItem) ([] : List GItem) .full Mg.full .full Mg.full _ rfl) ?_
  rintro r3 q ⟨g5, g6, rfl, hg5, hg6⟩
  exact au (.ret ⟨_, rfl, rfl⟩)
noncomputable def link_line_step (o0 : Glink_line) : Option ((List GItem) × Glink_line) :=
  (queue_Step o0.Link.Queue).bind fun r0 =>
  some (r0.1, (Glink_line.mk (GLink.mk r0.2 o0.Link.Lost)))
theorem link_line_step_sim (o0 : Glink_line) : Sim (link_line_step o0) (Gv fun r q => q = (lav GItem.av r.1, [⟨true, Glink_line.cells r.2⟩])) (LM.call n_link_line_step [.ptr 0 0] [⟨true, Glink_line.cells o0⟩]) := by
  unfold link_line_step
  refine sim_evR M XE rfl rfl fun S hS hw hw8 R hR => ?_
  refine au (cE hR (queue_Step_sim _) fun r0 => ?_)
  exact au (.ret ⟨_, rfl, rfl⟩)
noncomputable def link_Step (l0 : GLink) : Option ((List GItem) × GLink) :=
  (link_open l0).bind fun r0 =>
  (link_line_step r0).bind fun r2 =>
  some (r2.1, r2.2.Link)
theorem link_Step_sim (l0 : GLink) : Sim (link_Step l0) (Gv fun r q => q = (.tup [lav GItem.av r.1, GLink.av r.2], [])) (LM.call n_link_Step [GLink.av l0] []) := by
  unfold link_Step
  refine sim_evR M XE rfl rfl fun S hS hw hw8 R hR => ?_
  refine au (cE hR (link_open_sim _) fun r0 => ?_)
  refine au (cE hR (link_line_step_sim _) fun r2 => ?_)
  exact au (.ret ⟨_, rfl, rfl⟩)
noncomputable def net_Step_0_step (len4 : Nat) (a0 : Int) (y0 : Int) (len5 : Nat) (x6 : Int) (x7 : Int) (x8 : List GItem) (x9 : Int) (r3 : GLink) (A0 : GLink) (x12 : Int) (len6 : Nat) (t2 : GNet) (i2 : GNet) (x13 : List GLink_g) (x10 : Int) (x11 : List (Gr × List GFrame)) : Option ((Int × (List (Gr × List GFrame))) ⊕ ((List (Gr × List GFrame)))) :=
  if x10 < x9 then
    (idx? x8 x10).bind fun z2 =>
    if 0 ≤ y0 ∧ y0 < ((len4 : Nat) : Int) then
      (x11[(Int.toNat y0)]?).bind fun z3 =>
      if Mg 3 z3.1 then
        if List.length z3.2 + List.length [(GFrame.mk a0 z2.Age z2.Bytes)] ≤ lenMax then
          if 0 ≤ y0 ∧ y0 < ((len4 : Nat) : Int) then
            (mod? (List.set x11 (Int.toNat y0) ((Gr.cp z3.1), z3.2)) (Int.toNat y0) (fun _ => ((Gr.own 3), (z3.2 ++ [(GFrame.mk a0 z2.Age z2.Bytes)])))).bind fun l2 =>
            some (.inl ((wr (x10 + 1)), l2))
          else none
        else none
      else none
    else none
  else
    some (.inr x11)
noncomputable def net_Step_0 (len4 : Nat) (a0 : Int) (y0 : Int) (len5 : Nat) (x6 : Int) (x7 : Int) (x8 : List GItem) (x9 : Int) (r3 : GLink) (A0 : GLink) (x12 : Int) (len6 : Nat) (t2 : GNet) (i2 : GNet) (x13 : List GLink_g) (x10 : Int) (x11 : List (Gr × List GFrame)) : Option ((List (Gr × List GFrame))) :=
  loopO (fun s : Int × (List (Gr × List GFrame)) => net_Step_0_step len4 a0 y0 len5 x6 x7 x8 x9 r3 A0 x12 len6 t2 i2 x13 s.1 s.2) (x10, x11)
@[reducible] def net_Step_0_st (len4 : Nat) (a0 : Int) (y0 : Int) (len5 : Nat) (x6 : Int) (x7 : Int) (x8 : List GItem) (x9 : Int) (r3 : GLink) (A0 : GLink) (x12 : Int) (len6 : Nat) (t2 : GNet) (i2 : GNet) (x13 : List GLink_g) (x10 : Int) (x11 : List (Gr × List GFrame)) (g2 : Gr) (g3 : Gr) : PF.St := ⟨[(3, .ptr 103 0), (4, .ptr 104 0), (5, .arr 118 0 len4 1 false), (10, iav a0), (11, iav y0), (20, .arr 1600 0 len5 2 true), (21, iav x6), (22, iav x7), (45, lav GItem.av x8), (46, iav x9), (47, iav x10)], [(109, ⟨true, GLink.cells r3⟩), (107, ⟨true, [.lst g2 (List.map GItem.av A0.Queue), iav A0.Lost]⟩), (118, ⟨true, (List.map (glv GFrame.av) x11)⟩), (104, ⟨true, [iav x12, .arr 1600 0 len6 2 true]⟩), (103, ⟨true, [iav t2.N, .lst g3 (List.map GLink.av t2.Links)]⟩), (101, ⟨true, GNet.cells i2⟩), (1600, ⟨true, (List.flatMap GLink_g.cells x13)⟩)]⟩
def net_Step_0_rel (len4 : Nat) (a0 : Int) (y0 : Int) (len5 : Nat) (x6 : Int) (x7 : Int) (x8 : List GItem) (x9 : Int) (r3 : GLink) (A0 : GLink) (x12 : Int) (len6 : Nat) (t2 : GNet) (i2 : GNet) (x13 : List GLink_g) (r : ((List (Gr × List GFrame)))) (q : Ex × PF.St) : Prop := (fun r (q : Ex × PF.St) => ∃ g0', ∃ g1', q = ((.exit 2), ⟨[(3, .ptr 103 0), (4, .ptr 104 0), (5, .arr 118 0 len4 1 false), (20, .arr 1600 0 len5 2 true), (21, iav x6), (22, iav x7)], [(109, ⟨true, GLink.cells r3⟩), (107, ⟨true, [.lst g0' (List.map GItem.av A0.Queue), iav A0.Lost]⟩), (118, ⟨true, (List.map (glv GFrame.av) r)⟩), (104, ⟨true, [iav x12, .arr 1600 0 len6 2 true]⟩), (103, ⟨true, [iav t2.N, .lst g1' (List.map GLink.av t2.Links)]⟩), (101, ⟨true, GNet.cells i2⟩), (1600, ⟨true, (List.flatMap GLink_g.cells x13)⟩)]⟩) ∧ Mg 2 g1') r q
def net_Step_0_inv (len4 : Nat) (a0 : Int) (y0 : Int) (len5 : Nat) (x6 : Int) (x7 : Int) (x8 : List GItem) (x9 : Int) (r3 : GLink) (A0 : GLink) (x12 : Int) (len6 : Nat) (t2 : GNet) (i2 : GNet) (x13 : List GLink_g) (v : Int × (List (Gr × List GFrame))) (e : PF.St) : Prop := ∃ g2, ∃ g3, e = net_Step_0_st len4 a0 y0 len5 x6 x7 x8 x9 r3 A0 x12 len6 t2 i2 x13 v.1 v.2 g2 g3 ∧ Mg 2 g3
theorem net_Step_0_sim (len4 : Nat) (a0 : Int) (y0 : Int) (len5 : Nat) (x6 : Int) (x7 : Int) (x8 : List GItem) (x9 : Int) (r3 : GLink) (A0 : GLink) (x12 : Int) (len6 : Nat) (t2 : GNet) (i2 : GNet) (x13 : List GLink_g) (x10 : Int) (x11 : List (Gr × List GFrame)) (g2 : Gr) (g3 : Gr) (hg3 : Mg 2 g3) (s : PF.St) (hk : keep [3, 4, 5, 10, 11, 20, 21, 22, 45, 46, 47] [101, 103, 104, 107, 109, 118, 1600, 1601, 1602, 1603] s = some (net_Step_0_st len4 a0 y0 len5 x6 x7 x8 x9 r3 A0 x12 len6 t2 i2 x13 x10 x11 g2 g3)) : Sim (net_Step_0 len4 a0 y0 len5 x6 x7 x8 x9 r3 A0 x12 len6 t2 i2 x13 x10 x11) (Gv (net_Step_0_rel len4 a0 y0 len5 x6 x7 x8 x9 r3 A0 x12 len6 t2 i2 x13)) (LM.loop ([3, 4, 5, 10, 11, 20, 21, 22, 45, 46, 47], [101, 103, 104, 107, 109, 118, 1600, 1601, 1602, 1603], [3, 4, 5, 20, 21, 22], B_net_Step_0) s) := by
  refine sim_loop M XE (net_Step_0_inv len4 a0 y0 len5 x6 x7 x8 x9 r3 A0 x12 len6 t2 i2 x13) (net_Step_0_rel len4 a0 y0 len5 x6 x7 x8 x9 r3 A0 x12 len6 t2 i2 x13) ?_ _ _ _ hk ⟨g2, g3, rfl, hg3⟩
  clear hk hg3
  rintro S hS hw hw8 R hR ⟨x10, x11⟩ env hp ⟨g2, g3, he, hg3⟩
  change (⟨env, hp⟩ : PF.St) = net_Step_0_st len4 a0 y0 len5 x6 x7 x8 x9 r3 A0 x12 len6 t2 i2 x13 x10 x11 g2 g3 at he
  cases he
  show Sim (net_Step_0_step len4 a0 y0 len5 x6 x7 x8 x9 r3 A0 x12 len6 t2 i2 x13 x10 x11) _ _
  unfold net_Step_0_step
  simp only [hw]
  refine au (.ite Iff.rfl (fun hc3 => ?_) fun hc3 => ?_)
  · refine au ?_
    refine Sim.ix (by simp) (fun z2 hz2 => ?_)
    refine au ?_
    refine Sim.go (idx_map _ hz2) ?_
    refine au ?_
    first | refine Sim.ite Iff.rfl (fun _ => ?_) (fun _ => Sim.no) | refine Sim.guard (fun _ => ?_)
    refine au ?_
    refine Sim.opt (cell_map (m := (Int.toNat y0)) (by omega)) (fun z3 _ => ?_)
    refine au ?_
    refine Sim.kl hS (ys := List.map (glv GFrame.av) (List.set x11 (Int.toNat y0) ((Gr.cp z3.1), z3.2))) (by first | exact (List.map_set ..).symm | simp [List.map_set]) ?_
    refine au ?_
    refine Sim.kl hS (ys := List.map GFrame.av [(GFrame.mk a0 z2.Age z2.Bytes)]) rfl ?_
    refine au ?_
    refine Sim.guard (fun hg => ?_)
    refine Sim.goB (may_map (by intro _; rfl) hg _) ?_
    refine au ?_
    first | (refine Sim.goB (okE_map (by intro _; exact ⟨rfl, rfl, rfl⟩) _) ?_) | skip
    refine au ?_
    first | refine Sim.ite (by simp) (fun _ => ?_) (fun _ => Sim.no) | refine Sim.guard (fun _ => ?_)
    refine au ?_
    refine Sim.kl hS (ys := List.map GFrame.av (z3.2 ++ [(GFrame.mk a0 z2.Age z2.Bytes)])) (by simp) ?_
    refine au ?_
    first | refine Sim.ite Iff.rfl (fun _ => ?_) (fun _ => Sim.no) | refine Sim.guard (fun _ => ?_)
    refine au ?_
    refine Sim.opt (store_map (u := (fun _ => ((Gr.own 3), (z3.2 ++ [(GFrame.mk a0 z2.Age z2.Bytes)])))) (m := (Int.toNat y0)) (by omega) (fun _ => rfl)) (fun l2 _ => ?_)
    refine au ?_
    exact Sim.ret ⟨_, _, rfl, (keep_eq rfl rfl rfl (okH_cons rfl (okH_cons rfl (okH_flat (Flat.map (fun _ => rfl) _) (okH_cons rfl (okH_cons rfl (okH_cons rfl (okH_flat (Flat.fm (fun _ => Flat.of rfl) _) (okH_nil _))))))))), ⟨_, _, rfl, hg3⟩⟩
  · refine au ?_
    refine Sim.go (keep_eq rfl rfl rfl (okH_cons rfl (okH_cons rfl (okH_flat (Flat.map (fun _ => rfl) _) (okH_cons rfl (okH_cons rfl (okH_cons rfl (okH_flat (Flat.fm (fun _ => Flat.of rfl) _) (okH_nil _))))))))) ?_
    refine au ?_
    exact Sim.ret ⟨_, rfl, ⟨_, _, rfl, hg3⟩⟩
noncomputable def net_Step_1_step (len : Nat) (len2 : Nat) (x0 : Int) (x4 : Int) (len3 : Nat) (t0 : GNet) (i0 : GNet) (x2 : Int) (x3 : List (Gr × List GFrame)) (x5 : List GLink_g) : Option ((Int × (List (Gr × List GFrame)) × (List GLink_g)) ⊕ ((List (Gr × List GFrame)) × (List GLink_g))) :=
  if x2 < x0 then
    if 0 ≤ x2 ∧ x2 < ((len2 : Nat) : Int) then
      (x5[(Int.toNat x2)]?).bind fun z0 =>
      (link_Step (GLink.mk z0.Queue.2 z0.Lost)).bind fun r2 =>
      if 0 ≤ x2 ∧ x2 < ((len3 : Nat) : Int) then
        (mod? x5 (Int.toNat x2) (fun _ => (GLink_g.mk (Gr.no, r2.2.Queue) r2.2.Lost))).bind fun l0 =>
        if x4 = 0 then none else
        (net_Step_0 len (wr (Int.tdiv x2 x4)) (Int.tmod x2 x4) len2 x0 x2 r2.1 (List.length r2.1 : Int) r2.2 (GLink.mk z0.Queue.2 z0.Lost) x4 len3 t0 i0 l0 0 x3).bind fun r4 =>
        some (.inl ((wr (x2 + 1)), r4, l0))
      else none
    else none
  else
    some (.inr (x3, x5))
noncomputable def net_Step_1 (len : Nat) (len2 : Nat) (x0 : Int) (x4 : Int) (len3 : Nat) (t0 : GNet) (i0 : GNet) (x2 : Int) (x3 : List (Gr × List GFrame)) (x5 : List GLink_g) : Option ((List (Gr × List GFrame)) × (List GLink_g)) :=
  loopO (fun s : Int × (List (Gr × List GFrame)) × (List GLink_g) => net_Step_1_step len len2 x0 x4 len3 t0 i0 s.1 s.2.1 s.2.2) (x2, x3, x5)
@[reducible] def net_Step_1_st (len : Nat) (len2 : Nat) (x0 : Int) (x4 : Int) (len3 : Nat) (t0 : GNet) (i0 : GNet) (x2 : Int) (x3 : List (Gr × List GFrame)) (x5 : List GLink_g) (g0 : Gr) : PF.St := ⟨[(3, .ptr 103 0), (4, .ptr 104 0), (5, .arr 118 0 len 1 false), (20, .arr 1600 0 len2 2 true), (21, iav x0), (22, iav x2)], [(118, ⟨true, (List.map (glv GFrame.av) x3)⟩), (104, ⟨true, [iav x4, .arr 1600 0 len3 2 true]⟩), (103, ⟨true, [iav t0.N, .lst g0 (List.map GLink.av t0.Links)]⟩), (101, ⟨true, GNet.cells i0⟩), (1600, ⟨true, (List.flatMap GLink_g.cells x5)⟩)]⟩
def net_Step_1_rel (len : Nat) (len2 : Nat) (x0 : Int) (x4 : Int) (len3 : Nat) (t0 : GNet) (i0 : GNet) (r : ((List (Gr × List GFrame)) × (List GLink_g))) (q : Ex × PF.St) : Prop := (fun r (q : Ex × PF.St) => ∃ g0', q = ((.exit 0), ⟨[(3, .ptr 103 0), (4, .ptr 104 0), (5, .arr 118 0 len 1 false)], [(118, ⟨true, (List.map (glv GFrame.av) r.1)⟩), (104, ⟨true, [iav x4, .arr 1600 0 len3 2 true]⟩), (103, ⟨true, [iav t0.N, .lst g0' (List.map GLink.av t0.Links)]⟩), (101, ⟨true, GNet.cells i0⟩), (1600, ⟨true, (List.flatMap GLink_g.cells r.2)⟩)]⟩) ∧ Mg 2 g0') r q
def net_Step_1_inv (len : Nat) (len2 : Nat) (x0 : Int) (x4 : Int) (len3 : Nat) (t0 : GNet) (i0 : GNet) (v : Int × (List (Gr × List GFrame)) × (List GLink_g)) (e : PF.St) : Prop := ∃ g0, e = net_Step_1_st len len2 x0 x4 len3 t0 i0 v.1 v.2.1 v.2.2 g0 ∧ Mg 2 g0
theorem net_Step_1_sim (len : Nat) (len2 : Nat) (x0 : Int) (x4 : Int) (len3 : Nat) (t0 : GNet) (i0 : GNet) (x2 : Int) (x3 : List (Gr × List GFrame)) (x5 : List GLink_g) (g0 : Gr) (hg0 : Mg 2 g0) (s : PF.St) (hk : keep [3, 4, 5, 20, 21, 22] [101, 103, 104, 118, 1600, 1601, 1602, 1603] s = some (net_Step_1_st len len2 x0 x4 len3 t0 i0 x2 x3 x5 g0)) : Sim (net_Step_1 len len2 x0 x4 len3 t0 i0 x2 x3 x5) (Gv (net_Step_1_rel len len2 x0 x4 len3 t0 i0)) (LM.loop ([3, 4, 5, 20, 21, 22], [101, 103, 104, 118, 1600, 1601, 1602, 1603], [3, 4, 5], B_net_Step_1) s) := by
  refine sim_loop M XE (net_Step_1_inv len len2 x0 x4 len3 t0 i0) (net_Step_1_rel len len2 x0 x4 len3 t0 i0) ?_ _ _ _ hk ⟨g0, rfl, hg0⟩
  clear hk hg0
  rintro S hS hw hw8 R hR ⟨x2, x3, x5⟩ env hp ⟨g0, he, hg0⟩
  change (⟨env, hp⟩ : PF.St) = net_Step_1_st len len2 x0 x4 len3 t0 i0 x2 x3 x5 g0 at he
  cases he
  show Sim (net_Step_1_step len len2 x0 x4 len3 t0 i0 x2 x3 x5) _ _
  unfold net_Step_1_step
  simp only [hw]
  refine au (.ite Iff.rfl (fun hc => ?_) fun hc => ?_)
  · refine au ?_
    first | refine Sim.ite Iff.rfl (fun _ => ?_) (fun _ => Sim.no) | refine Sim.guard (fun _ => ?_)
    refine au ?_
    refine Sim.opt (load_fm1 (v := fun z0 => .agg [.lst (Gr.cp z0.Queue.1) (List.map GItem.av z0.Queue.2), iav z0.Lost]) (k := 0) (e := 2) (m := (Int.toNat x2)) (fun _ => rfl) (by omega) (by decide) rfl (fun _ => rfl)) (fun z0 _ => ?_)
    refine au (cE hR (link_Step_sim _) fun r2 => ?_)
    refine au ?_
    first | refine Sim.ite Iff.rfl (fun _ => ?_) (fun _ => Sim.no) | refine Sim.guard (fun _ => ?_)
    refine au ?_
    refine Sim.opt (store_fm (u := (fun _ => (GLink_g.mk (Gr.no, r2.2.Queue) r2.2.Lost))) (k := 0) (e := 2) (m := (Int.toNat x2)) (fun _ => rfl) (by omega) (by simp) (fun _ => rfl)) (fun l0 _ => ?_)
    refine au ?_
    refine Sim.ite Iff.rfl (fun _ => Sim.no) (fun hc2 => ?_)
    refine au ?_
    refine Sim.ki hS (m := (List.length r2.1 : Int)) (by simp) ?_
    refine au ?_
    refine Sim.callL hR (net_Step_0_sim len (S.wr (Int.tdiv x2 x4)) (Int.tmod x2 x4) len2 x0 x2 r2.1 (List.length r2.1 : Int) r2.2 (GLink.mk z0.Queue.2 z0.Lost) x4 len3 t0 i0 l0 0 x3 (Gr.cp z0.Queue.1) g0 hg0 _ (keep_eq rfl rfl rfl (okH_cons rfl (okH_cons rfl (okH_flat (Flat.map (fun _ => rfl) _) (okH_cons rfl (okH_cons rfl (okH_cons rfl (okH_flat (Flat.fm (fun _ => Flat.of rfl) _) (okH_nil _)))))))))) ?_
    rintro r4 q ⟨g4, g5, rfl, hg5⟩
    refine au ?_
    exact Sim.ret ⟨_, _, rfl, (keep_eq rfl rfl rfl (okH_flat (Flat.map (fun _ => rfl) _) (okH_cons rfl (okH_cons rfl (okH_cons rfl (okH_flat (Flat.fm (fun _ => Flat.of rfl) _) (okH_nil _))))))), ⟨_, rfl, hg5⟩⟩
  · refine au ?_
    refine Sim.go (keep_eq rfl rfl rfl (okH_flat (Flat.map (fun _ => rfl) _) (okH_cons rfl (okH_cons rfl (okH_cons rfl (okH_flat (Flat.fm (fun _ => Flat.of rfl) _) (okH_nil _))))))) ?_
    refine au ?_
    exact Sim.ret ⟨_, rfl, ⟨_, rfl, hg0⟩⟩
noncomputable def net_Step (L0 : GNet) : Option ((List (List GFrame)) × GNet) :=
  (net_open L0).bind fun r0 =>
  if 0 ≤ r0.1 ∧ r0.1 ≤ lenMax then
    (net_Step_1 (Int.toNat r0.1) r0.2.1 ((r0.2.1 : Nat) : Int) r0.1 r0.2.1 (GNet.mk 0 ([] : List GLink)) L0 0 (List.replicate (Int.toNat r0.1) (Gr.full, ([] : List GFrame))) r0.2.2).bind fun r5 =>
    (sub? r5.1 0 (Int.toNat r0.1)).bind fun l3 =>
    (sub? r5.2 0 r0.2.1).bind fun l4 =>
    some ((List.map Prod.snd l3), (GNet.mk r0.1 (List.map GLink_g.pl l4)))
  else none
theorem net_Step_sim (L0 : GNet) : Sim (net_Step L0) (Gv fun r q => q = (.tup [lav (lav GFrame.av) r.1, GNet.av r.2], [])) (LM.call n_net_Step [GNet.av L0] []) := by
  unfold net_Step
  refine sim_evR M XE rfl rfl fun S hS hw hw8 R hR => ?_
  refine au (cE hR (net_open_sim _) fun r0 => ?_)
  refine au ?_
  refine Sim.kfl (Flat.ren (Flat.fm (fun _ => Flat.of rfl) _) _) ?_
  refine au ?_
  first | refine Sim.ite Iff.rfl (fun _ => ?_) (fun _ => Sim.no) | refine Sim.guard (fun _ => ?_)
  refine au ?_
  refine Sim.kl hS (rep_map (f := (glv GFrame.av)) (Gr.full, ([] : List GFrame)) _ rfl _) ?_
  refine au ?_
  refine Sim.callL hR (net_Step_1_sim (Int.toNat r0.1) r0.2.1 ((r0.2.1 : Nat) : Int) r0.1 r0.2.1 (GNet.mk 0 ([] : List GLink)) L0 0 (List.replicate (Int.toNat r0.1) (Gr.full, ([] : List GFrame))) r0.2.2 .full Mg.full _ (keep_eq rfl rfl rfl (okH_flat (Flat.map (fun _ => rfl) _) (okH_cons rfl (okH_cons rfl (okH_cons rfl (okH_flat (Flat.fm (fun _ => Flat.of rfl) _) (okH_nil _)))))))) ?_
  rintro r5 q ⟨g6, rfl, hg6⟩
  refine au ?_
  refine Sim.opt (elems_mapP Prod.snd (g := (lav GFrame.av)) (b := 0) (fun _ => ⟨rfl, rfl⟩) (by omega)) (fun l3 _ => ?_)
  refine au ?_
  refine Sim.opt (elems_fmP GLink_g.pl (g := GLink.av) (e := 2) (b := 0) (fun _ => rfl) (fun _ => rfl) (fun _ => rfl) (by decide) (by omega)) (fun l4 _ => ?_)
  exact au (.ret ⟨_, rfl, rfl⟩)
noncomputable def r32_Frames_0_step (a2 : List GFrame) (b2 : List GFrame) (i0 : Int) : Option ((Int) ⊕ ((Bool) ⊕ (Unit))) :=
  if i0 < (List.length a2 : Int) then
    (idx? a2 i0).bind fun z0 =>
    (idx? b2 i0).bind fun z2 =>
    if (!(decide (z0.From = z2.From) && (decide (z0.Age = z2.Age) && (decide (z0.Bytes = z2.Bytes) && true)))) = true then
      some (.inr (.inl false))
    else
      some (.inl (wr (i0 + 1)))
  else
    some (.inr (.inr ()))
noncomputable def r32_Frames_0 (a2 : List GFrame) (b2 : List GFrame) (i0 : Int) : Option ((Bool) ⊕ (Unit)) :=
  loopO (fun s : Int => r32_Frames_0_step a2 b2 s) i0
@[reducible] def r32_Frames_0_st (a2 : List GFrame) (b2 : List GFrame) (i0 : Int) : PF.St := ⟨[(0, lav GFrame.av a2), (1, lav GFrame.av b2), (5, iav i0)], []⟩
def r32_Frames_0_rel (a2 : List GFrame) (b2 : List GFrame) (r : ((Bool) ⊕ (Unit))) (q : Ex × PF.St) : Prop := (fun r (q : Ex × PF.St) => Sum.elim (fun r => (fun r (q : Ex × PF.St) => q = (Ex.ret, ⟨[(4, .bool r)], []⟩)) r q) (fun r => (fun r (q : Ex × PF.St) => q = ((.exit 0), ⟨[(4, .undef)], []⟩)) r q) r) r q
def r32_Frames_0_inv (a2 : List GFrame) (b2 : List GFrame) (v : Int) (e : PF.St) : Prop := e = r32_Frames_0_st a2 b2 v
theorem r32_Frames_0_sim (a2 : List GFrame) (b2 : List GFrame) (i0 : Int) (s : PF.St) (hk : keep [0, 1, 5] [] s = some (r32_Frames_0_st a2 b2 i0)) : Sim (r32_Frames_0 a2 b2 i0) (Gv (r32_Frames_0_rel a2 b2)) (LM.loop ([0, 1, 5], [], [4], B_r32_Frames_0) s) := by
  refine sim_loop M XE (r32_Frames_0_inv a2 b2) (r32_Frames_0_rel a2 b2) ?_ _ _ _ hk rfl
  clear hk
  rintro S hS hw hw8 R hR i0 env hp he
  change (⟨env, hp⟩ : PF.St) = r32_Frames_0_st a2 b2 i0 at he
  cases he
  show Sim (r32_Frames_0_step a2 b2 i0) _ _
  unfold r32_Frames_0_step
  simp only [hw]
  refine au ?_
  refine Sim.ki hS (m := (List.length a2 : Int)) (by simp) ?_
  refine au (.ite Iff.rfl (fun hc2 => ?_) fun hc2 => ?_)
  · refine au ?_
    refine Sim.ix (by simp) (fun z0 hz0 => ?_)
    refine au ?_
    refine Sim.go (idx_map _ hz0) ?_
    refine au ?_
    refine Sim.ix (by simp) (fun z2 hz2 => ?_)
    refine au ?_
    refine Sim.go (idx_map _ hz2) ?_
    refine au (.iteB (fun hc3 => ?_) fun hc3 => ?_)
    · exact au (.ret ⟨_, rfl, rfl⟩)
    · refine au ?_
      exact Sim.ret ⟨_, _, rfl, rfl, rfl⟩
  · exact au (.ret ⟨_, rfl, rfl⟩)
noncomputable def r32_Frames (a0 : List GFrame) (b0 : List GFrame) : Option Bool :=
  if (List.length a0 : Int) ≠ (List.length b0 : Int) then
    some false
  else
    (r32_Frames_0 a0 b0 0).bind fun r0 =>
    Sum.elim
      (fun r2 =>
        some r2)
      (fun r3 =>
        some true)
      r0
theorem r32_Frames_sim (a0 : List GFrame) (b0 : List GFrame) : Sim (r32_Frames a0 b0) (Gv fun r q => q = (.bool r, [])) (LM.call n_r32_Frames [lav GFrame.av a0, lav GFrame.av b0] []) := by
  unfold r32_Frames
  refine sim_evR M XE rfl rfl fun S hS hw hw8 R hR => ?_
  refine au ?_
  refine Sim.ki hS (m := (List.length a0 : Int)) (by simp) ?_
  refine au ?_
  refine Sim.ki hS (m := (List.length b0 : Int)) (by simp) ?_
  refine au (.ite Iff.rfl (fun hc => ?_) fun hc => ?_)
  · exact au (.ret ⟨_, rfl, rfl⟩)
  · refine au ?_
    refine Sim.callL hR (r32_Frames_0_sim a0 b0 0 _ rfl) ?_
    rintro r0 q hr
    rcases r0 with r2 | r3
    · cases hr
      exact au (.ret ⟨_, rfl, rfl⟩)
    · cases hr
      exact au (.ret ⟨_, rfl, rfl⟩)
noncomputable def r32_All_0_step (a2 : List (List GFrame)) (b2 : List (List GFrame)) (i0 : Int) : Option ((Int) ⊕ ((Bool) ⊕ (Unit))) :=
  if i0 < (List.length a2 : Int) then
    (idx? a2 i0).bind fun z0 =>
    (idx? b2 i0).bind fun z2 =>
    (r32_Frames z0 z2).bind fun r0 =>
    if (!r0) = true then
      some (.inr (.inl false))
    else
      some (.inl (wr (i0 + 1)))
  else
    some (.inr (.inr ()))
noncomputable def r32_All_0 (a2 : List (List GFrame)) (b2 : List (List GFrame)) (i0 : Int) : Option ((Bool) ⊕ (Unit)) :=
  loopO (fun s : Int => r32_All_0_step a2 b2 s) i0
@[reducible] def r32_All_0_st (a2 : List (List GFrame)) (b2 : List (List GFrame)) (i0 : Int) : PF.St := ⟨[(0, lav (lav GFrame.av) a2), (1, lav (lav GFrame.av) b2), (5, iav i0)], []⟩
def r32_All_0_rel (a2 : List (List GFrame)) (b2 : List (List GFrame)) (r : ((Bool) ⊕ (Unit))) (q : Ex × PF.St) : Prop := (fun r (q : Ex × PF.St) => Sum.elim (fun r => (fun r (q : Ex × PF.St) => q = (Ex.ret, ⟨[(4, .bool r)], []⟩)) r q) (fun r => (fun r (q : Ex × PF.St) => q = ((.exit 0), ⟨[(4, .undef)], []⟩)) r q) r) r q
def r32_All_0_inv (a2 : List (List GFrame)) (b2 : List (List GFrame)) (v : Int) (e : PF.St) : Prop := e = r32_All_0_st a2 b2 v
theorem r32_All_0_sim (a2 : List (List GFrame)) (b2 : List (List GFrame)) (i0 : Int) (s : PF.St) (hk : keep [0, 1, 5] [] s = some (r32_All_0_st a2 b2 i0)) : Sim (r32_All_0 a2 b2 i0) (Gv (r32_All_0_rel a2 b2)) (LM.loop ([0, 1, 5], [], [4], B_r32_All_0) s) := by
  refine sim_loop M XE (r32_All_0_inv a2 b2) (r32_All_0_rel a2 b2) ?_ _ _ _ hk rfl
  clear hk
  rintro S hS hw hw8 R hR i0 env hp he
  change (⟨env, hp⟩ : PF.St) = r32_All_0_st a2 b2 i0 at he
  cases he
  show Sim (r32_All_0_step a2 b2 i0) _ _
  unfold r32_All_0_step
  simp only [hw]
  refine au ?_
  refine Sim.ki hS (m := (List.length a2 : Int)) (by simp) ?_
  refine au (.ite Iff.rfl (fun hc2 => ?_) fun hc2 => ?_)
  · refine au ?_
    refine Sim.ix (by simp) (fun z0 hz0 => ?_)
    refine au ?_
    refine Sim.go (idx_map _ hz0) ?_
    refine au ?_
    refine Sim.ix (by simp) (fun z2 hz2 => ?_)
    refine au ?_
    refine Sim.go (idx_map _ hz2) ?_
    refine au (cE hR (r32_Frames_sim _ _) fun r0 => ?_)
    refine au (.iteB (fun hc3 => ?_) fun hc3 => ?_)
    · exact au (.ret ⟨_, rfl, rfl⟩)
    · refine au ?_
      exact Sim.ret ⟨_, _, rfl, rfl, rfl⟩
  · exact au (.ret ⟨_, rfl, rfl⟩)
noncomputable def r32_All (a0 : List (List GFrame)) (b0 : List (List GFrame)) : Option Bool :=
  if (List.length a0 : Int) ≠ (List.length b0 : Int) then
    some false
  else
    (r32_All_0 a0 b0 0).bind fun r2 =>
    Sum.elim
      (fun r3 =>
        some r3)
      (fun r4 =>
        some true)
      r2
theorem r32_All_sim (a0 : List (List GFrame)) (b0 : List (List GFrame)) : Sim (r32_All a0 b0) (Gv fun r q => q = (.bool r, [])) (LM.call n_r32_All [lav (lav GFrame.av) a0, lav (lav GFrame.av) b0] []) := by
  unfold r32_All
  refine sim_evR M XE rfl rfl fun S hS hw hw8 R hR => ?_
  refine au ?_
  refine Sim.ki hS (m := (List.length a0 : Int)) (by simp) ?_
  refine au ?_
  refine Sim.ki hS (m := (List.length b0 : Int)) (by simp) ?_
  refine au (.ite Iff.rfl (fun hc => ?_) fun hc => ?_)
  · exact au (.ret ⟨_, rfl, rfl⟩)
  · refine au ?_
    refine Sim.callL hR (r32_All_0_sim a0 b0 0 _ rfl) ?_
    rintro r2 q hr
    rcases r2 with r3 | r4
    · cases hr
      exact au (.ret ⟨_, rfl, rfl⟩)
    · cases hr
      exact au (.ret ⟨_, rfl, rfl⟩)
noncomputable def net_Lost_0_step (x0 : List GLink) (x2 : Int) (t2 : GNet) (sum : Int) (x3 : Int) : Option ((Int × Int) ⊕ Int) :=
  if x3 < x2 then
    (idx? x0 x3).bind fun z0 =>
    (num_Clamp z0.Lost 0 65535).bind fun r2 =>
    some (.inl ((wr (sum + r2)), (wr (x3 + 1))))
  else
    some (.inr sum)
noncomputable def net_Lost_0 (x0 : List GLink) (x2 : Int) (t2 : GNet) (sum : Int) (x3 : Int) : Option Int :=
  loopO (fun s : Int × Int => net_Lost_0_step x0 x2 t2 s.1 s.2) (sum, x3)
@[reducible] def net_Lost_0_st (x0 : List GLink) (x2 : Int) (t2 : GNet) (sum : Int) (x3 : Int) : PF.St := ⟨[(3, iav sum), (8, lav GLink.av x0), (9, iav x2), (10, iav x3)], [(101, ⟨true, GNet.cells t2⟩)]⟩
def net_Lost_0_rel (x0 : List GLink) (x2 : Int) (t2 : GNet) (r : Int) (q : Ex × PF.St) : Prop := (fun r (q : Ex × PF.St) => q = ((.exit 0), ⟨[(3, iav r)], [(101, ⟨true, GNet.cells t2⟩)]⟩)) r q
def net_Lost_0_inv (x0 : List GLink) (x2 : Int) (t2 : GNet) (v : Int × Int) (e : PF.St) : Prop := e = net_Lost_0_st x0 x2 t2 v.1 v.2
theorem net_Lost_0_sim (x0 : List GLink) (x2 : Int) (t2 : GNet) (sum : Int) (x3 : Int) (s : PF.St) (hk : keep [3, 8, 9, 10] [101] s = some (net_Lost_0_st x0 x2 t2 sum x3)) : Sim (net_Lost_0 x0 x2 t2 sum x3) (Gv (net_Lost_0_rel x0 x2 t2)) (LM.loop ([3, 8, 9, 10], [101], [3], B_net_Lost_0) s) := by
  refine sim_loop M XE (net_Lost_0_inv x0 x2 t2) (net_Lost_0_rel x0 x2 t2) ?_ _ _ _ hk rfl
  clear hk
  rintro S hS hw hw8 R hR ⟨sum, x3⟩ env hp he
  change (⟨env, hp⟩ : PF.St) = net_Lost_0_st x0 x2 t2 sum x3 at he
  cases he
  show Sim (net_Lost_0_step x0 x2 t2 sum x3) _ _
  unfold net_Lost_0_step
  simp only [hw]
  refine au (.ite Iff.rfl (fun hc => ?_) fun hc => ?_)
  · refine au ?_
    refine Sim.ix (by simp) (fun z0 hz0 => ?_)
    refine au ?_
    refine Sim.go (idx_map _ hz0) ?_
    refine au (cE hR (num_Clamp_sim _ _ _) fun r2 => ?_)
    refine au ?_
    exact Sim.ret ⟨_, _, rfl, rfl, rfl⟩
  · exact au (.ret ⟨_, rfl, rfl⟩)
noncomputable def net_Lost (t0 : GNet) : Option Int :=
  (net_open t0).bind fun r0 =>
  (sub? r0.2.2 0 r0.2.1).bind fun l0 =>
  (net_Lost_0 (List.map GLink_g.pl l0) (List.length (List.map GLink_g.pl l0) : Int) t0 0 0).bind fun r3 =>
  some r3
theorem net_Lost_sim (t0 : GNet) : Sim (net_Lost t0) (Gv fun r q => q = (iav r, [])) (LM.call n_net_Lost [GNet.av t0] []) := by
  unfold net_Lost
  refine sim_evR M XE rfl rfl fun S hS hw hw8 R hR => ?_
  refine au (cE hR (net_open_sim _) fun r0 => ?_)
  refine au ?_
  refine Sim.opt (elems_fmP GLink_g.pl (g := GLink.av) (e := 2) (b := 0) (fun _ => rfl) (fun _ => rfl) (fun _ => rfl) (by decide) (by omega)) (fun l0 _ => ?_)
  refine au ?_
  refine Sim.ki hS (m := (List.length (List.map GLink_g.pl l0) : Int)) (by simp) ?_
  refine au ?_
  refine Sim.callL hR (net_Lost_0_sim (List.map GLink_g.pl l0) (List.length (List.map GLink_g.pl l0) : Int) t0 0 0 _ rfl) ?_
  rintro r3 q rfl
  exact au (.ret ⟨_, rfl, rfl⟩)
noncomputable def net_at (t0 : GNet) (from0 : Int) (to0 : Int) : Option (Int × Bool) :=
  if from0 < 0 then
    some (0, false)
  else
    if t0.N ≤ from0 then
      some (0, false)
    else
      if to0 < 0 then
        some (0, false)
      else
        if t0.N ≤ to0 then
          some (0, false)
        else
          some ((wr ((wr (from0 * t0.N)) + to0)), true)
theorem net_at_sim (t0 : GNet) (from0 : Int) (to0 : Int) : Sim (net_at t0 from0 to0) (Gv fun r q => q = (.tup [iav r.1, .bool r.2], [])) (LM.call n_net_at [GNet.av t0, iav from0, iav to0] []) := by
  unfold net_at
  refine sim_evR M XE rfl rfl fun S hS hw hw8 R hR => ?_
  simp only [hw]
  refine au (.ite Iff.rfl (fun hc => ?_) fun hc => ?_)
  · exact au (.ret ⟨_, rfl, rfl⟩)
  · refine au (.ite Iff.rfl (fun hc2 => ?_) fun hc2 => ?_)
    · exact au (.ret ⟨_, rfl, rfl⟩)
    · refine au (.ite Iff.rfl (fun hc3 => ?_) fun hc3 => ?_)
      · exact au (.ret ⟨_, rfl, rfl⟩)
      · refine au (.ite Iff.rfl (fun hc4 => ?_) fun hc4 => ?_)
        · exact au (.ret ⟨_, rfl, rfl⟩)
        · exact au (.ret ⟨_, rfl, rfl⟩)
noncomputable def queue_Push (q0 : List GItem) (v0 : List GItem) : Option ((List GItem) × Int) :=
  if 0 ≤ (wr ((List.length q0 : Int) + (List.length v0 : Int))) ∧ (wr ((List.length q0 : Int) + (List.length v0 : Int))) ≤ lenMax then
    if List.length ([] : List GItem) + List.length q0 ≤ lenMax then
      if List.length q0 + List.length v0 ≤ lenMax then
        if 0 ≤ (max 0 (wr ((List.length (q0 ++ v0) : Int) - 8))) ∧ (max 0 (wr ((List.length (q0 ++ v0) : Int) - 8))) ≤ ((List.length (q0 ++ v0)) : Nat) then
          some ((List.drop (Int.toNat (max 0 (wr ((List.length (q0 ++ v0) : Int) - 8)))) (q0 ++ v0)), (max 0 (wr ((List.length (q0 ++ v0) : Int) - 8))))
        else none
      else none
    else none
  else none
theorem queue_Push_sim (q0 : List GItem) (v0 : List GItem) : Sim (queue_Push q0 v0) (Gv fun r q => q = (.tup [lav GItem.av r.1, iav r.2], [])) (LM.call n_queue_Push [lav GItem.av q0, lav GItem.av v0] []) := by
  unfold queue_Push
  refine sim_evR M XE rfl rfl fun S hS hw hw8 R hR => ?_
  simp only [hw]
  refine au ?_
  refine Sim.ki hS (m := (List.length q0 : Int)) (by simp) ?_
  refine au ?_
  refine Sim.ki hS (m := (List.length v0 : Int)) (by simp) ?_
  refine au ?_
  first | refine Sim.ite Iff.rfl (fun _ => ?_) (fun _ => Sim.no) | refine Sim.guard (fun _ => ?_)
  refine au ?_
  first | (refine Sim.goB (okE_map (by intro _; exact ⟨rfl, rfl, rfl⟩) _) ?_) | skip
  refine au ?_
  first | refine Sim.ite (by simp) (fun _ => ?_) (fun _ => Sim.no) | refine Sim.guard (fun _ => ?_)
  refine au ?_
  refine Sim.kl hS (ys := List.map GItem.av q0) (by simp) ?_
  refine au ?_
  first | (refine Sim.goB (okE_map (by intro _; exact ⟨rfl, rfl, rfl⟩) _) ?_) | skip
  refine au ?_
  first | refine Sim.ite (by simp) (fun _ => ?_) (fun _ => Sim.no) | refine Sim.guard (fun _ => ?_)
  refine au ?_
  refine Sim.kl hS (ys := List.map GItem.av (q0 ++ v0)) (by simp) ?_
  refine au ?_
  refine Sim.ki hS (m := (List.length (q0 ++ v0) : Int)) (by simp) ?_
  refine au ?_
  first | (refine Sim.goB (headE_map (by intro _; rfl) _) ?_) | skip
  refine au ?_
  refine Sim.kn hS (m := (List.length (q0 ++ v0))) (by simp) ?_
  refine au ?_
  first | refine Sim.ite Iff.rfl (fun _ => ?_) (fun _ => Sim.no) | refine Sim.guard (fun _ => ?_)
  refine au ?_
  refine Sim.kl hS (ys := List.map GItem.av (List.drop (Int.toNat (max 0 (S.wr ((List.length (q0 ++ v0) : Int) - 8)))) (q0 ++ v0))) (by simp only [PF.cut, List.map_drop, List.map_take]) ?_
  exact au (.ret ⟨_, rfl, rfl⟩)
noncomputable def link_line_push (x0 : GItem) (o0 : Glink_line) : Option Glink_line :=
  (queue_Push o0.Link.Queue [x0]).bind fun r0 =>
  (num_Clamp o0.Link.Lost 0 65535).bind fun r2 =>
  some (Glink_line.mk (GLink.mk r0.1 (min (wr (r2 + r0.2)) 65535)))
theorem link_line_push_sim (x0 : GItem) (o0 : Glink_line) : Sim (link_line_push x0 o0) (Gv fun r q => q = (.tup [], [⟨true, Glink_line.cells r⟩])) (LM.call n_link_line_push [.ptr 0 0, GItem.av x0] [⟨true, Glink_line.cells o0⟩]) := by
  unfold link_line_push
  refine sim_evR M XE rfl rfl fun S hS hw hw8 R hR => ?_
  simp only [hw]
  refine au ?_
  refine Sim.kl hS (ys := List.map GItem.av [x0]) rfl ?_
  refine au (cE hR (queue_Push_sim _ _) fun r0 => ?_)
  refine au (cE hR (num_Clamp_sim _ _ _) fun r2 => ?_)
  exact au (.ret ⟨_, rfl, rfl⟩)
noncomputable def link_Send (l0 : GLink) (bytes : List UInt8) (delay : Int) : Option GLink :=
  (link_open l0).bind fun r0 =>
  if bytes ≠ ([] : List UInt8) then
    (num_Clamp delay 1 8).bind fun r2 =>
    (link_line_push (GItem.mk 0 r2 bytes) r0).bind fun r3 =>
    some r3.Link
  else
    some r0.Link
theorem link_Send_sim (l0 : GLink) (bytes : List UInt8) (delay : Int) : Sim (link_Send l0 bytes delay) (Gv fun r q => q = (GLink.av r, [])) (LM.call n_link_Send [GLink.av l0, .str bytes, iav delay] []) := by
  unfold link_Send
  refine sim_evR M XE rfl rfl fun S hS hw hw8 R hR => ?_
  refine au (cE hR (link_open_sim _) fun r0 => ?_)
  refine au (.ite Iff.rfl (fun hc => ?_) fun hc => ?_)
  · refine au (cE hR (num_Clamp_sim _ _ _) fun r2 => ?_)
    refine au (cE hR (link_line_push_sim _ _) fun r3 => ?_)
    exact au (.ret ⟨_, rfl, rfl⟩)
  · exact au (.ret ⟨_, rfl, rfl⟩)
noncomputable def net_put (t0 : Int) (len : Nat) (s0 : GSend) (o0 : List GLink_g) : Option ((List GLink_g)) :=
  (sub? o0 0 len).bind fun l0 =>
  (net_at (GNet.mk t0 (List.map GLink_g.pl l0)) s0.From s0.To).bind fun r0 =>
  if r0.2 = true then
    if 0 ≤ r0.1 ∧ r0.1 < ((len : Nat) : Int) then
      (o0[(Int.toNat r0.1)]?).bind fun z0 =>
      (link_Send (GLink.mk z0.Queue.2 z0.Lost) s0.Bytes s0.Delay).bind fun r2 =>
      if 0 ≤ r0.1 ∧ r0.1 < ((len : Nat) : Int) then
        (mod? o0 (Int.toNat r0.1) (fun _ => (GLink_g.mk (Gr.no, r2.Queue) r2.Lost))).bind fun l2 =>
        some l2
      else none
    else none
  else
    some o0
theorem net_put_sim (t0 : Int) (len : Nat) (s0 : GSend) (o0 : List GLink_g) : Sim (net_put t0 len s0 o0) (Gv fun r q => q = (.tup [], [⟨true, (List.flatMap GLink_g.cells r)⟩])) (LM.call n_net_put [.agg [iav t0, .arr 0 0 len 2 true], GSend.av s0] [⟨true, (List.flatMap GLink_g.cells o0)⟩]) := by
  unfold net_put
  refine sim_evR M XE rfl rfl fun S hS hw hw8 R hR => ?_
  refine au ?_
  refine Sim.opt (elems_fmP GLink_g.pl (g := GLink.av) (e := 2) (b := 0) (fun _ => rfl) (fun _ => rfl) (fun _ => rfl) (by decide) (by omega)) (fun l0 _ => ?_)
  refine au (cE hR (net_at_sim _ _ _) fun r0 => ?_)
  refine au (.iteB (fun hc => ?_) fun hc => ?_)
  · refine au ?_
    first | refine Sim.ite Iff.rfl (fun _ => ?_) (fun _ => Sim.no) | refine Sim.guard (fun _ => ?_)
    refine au ?_
    refine Sim.opt (load_fm1 (v := fun z0 => .agg [.lst (Gr.cp z0.Queue.1) (List.map GItem.av z0.Queue.2), iav z0.Lost]) (k := 0) (e := 2) (m := (Int.toNat r0.1)) (fun _ => rfl) (by omega) (by decide) rfl (fun _ => rfl)) (fun z0 _ => ?_)
    refine au (cE hR (link_Send_sim _ _ _) fun r2 => ?_)
    refine au ?_
    first | refine Sim.ite Iff.rfl (fun _ => ?_) (fun _ => Sim.no) | refine Sim.guard (fun _ => ?_)
    refine au ?_
    refine Sim.opt (store_fm (u := (fun _ => (GLink_g.mk (Gr.no, r2.Queue) r2.Lost))) (k := 0) (e := 2) (m := (Int.toNat r0.1)) (fun _ => rfl) (by omega) (by simp) (fun _ => rfl)) (fun l2 _ => ?_)
    refine au ?_
    refine Sim.kfn (Flat.to (Flat.fm (fun _ => Flat.of rfl) _)) ?_
    refine au ?_
    refine Sim.kfl (Flat.ren (Flat.fm (fun _ => Flat.of rfl) _) _) ?_
    exact au (.ret ⟨_, rfl, rfl⟩)
  · refine au ?_
    refine Sim.kfn (Flat.to (Flat.fm (fun _ => Flat.of rfl) _)) ?_
    refine au ?_
    refine Sim.kfl (Flat.ren (Flat.fm (fun _ => Flat.of rfl) _) _) ?_
    exact au (.ret ⟨_, rfl, rfl⟩)
noncomputable def net_Cast_0_step (from2 : Int) (bytes2 : List UInt8) (delays2 : List Int) (x0 : Int) (own : Int) (len : Nat) (x3 : GNet) (t2 : GNet) (x2 : Int) (x4 : List GLink_g) : Option ((Int × (List GLink_g)) ⊕ ((List GLink_g))) :=
  if x2 < x0 then
    if x2 < (List.length delays2 : Int) then
      (idx? delays2 x2).bind fun z0 =>
      (net_put own len (GSend.mk from2 x2 z0 bytes2) x4).bind fun r2 =>
      some (.inl ((wr (x2 + 1)), r2))
    else
      (net_put own len (GSend.mk from2 x2 1 bytes2) x4).bind fun r3 =>
      some (.inl ((wr (x2 + 1)), r3))
  else
    some (.inr x4)
noncomputable def net_Cast_0 (from2 : Int) (bytes2 : List UInt8) (delays2 : List Int) (x0 : Int) (own : Int) (len : Nat) (x3 : GNet) (t2 : GNet) (x2 : Int) (x4 : List GLink_g) : Option ((List GLink_g)) :=
  loopO (fun s : Int × (List GLink_g) => net_Cast_0_step from2 bytes2 delays2 x0 own len x3 t2 s.1 s.2) (x2, x4)
@[reducible] def net_Cast_0_st (from2 : Int) (bytes2 : List UInt8) (delays2 : List Int) (x0 : Int) (own : Int) (len : Nat) (x3 : GNet) (t2 : GNet) (x2 : Int) (x4 : List GLink_g) (g0 : Gr) : PF.St := ⟨[(1, iav from2), (2, .str bytes2), (3, lav iav delays2), (8, .ptr 108 0), (9, .ptr 109 0), (15, iav x0), (16, iav x2)], [(109, ⟨true, [iav own, .arr 1520 0 len 2 true]⟩), (108, ⟨true, [iav x3.N, .lst g0 (List.map GLink.av x3.Links)]⟩), (104, ⟨true, GNet.cells t2⟩), (1520, ⟨true, (List.flatMap GLink_g.cells x4)⟩)]⟩
def net_Cast_0_rel (from2 : Int) (bytes2 : List UInt8) (delays2 : List Int) (x0 : Int) (own : Int) (len : Nat) (x3 : GNet) (t2 : GNet) (r : ((List GLink_g))) (q : Ex × PF.St) : Prop := (fun r (q : Ex × PF.St) => ∃ g0', q = ((.exit 0), ⟨[(8, .ptr 108 0), (9, .ptr 109 0)], [(109, ⟨true, [iav own, .arr 1520 0 len 2 true]⟩), (108, ⟨true, [iav x3.N, .lst g0' (List.map GLink.av x3.Links)]⟩), (104, ⟨true, GNet.cells t2⟩), (1520, ⟨true, (List.flatMap GLink_g.cells r)⟩)]⟩) ∧ Mg 2 g0') r q
def net_Cast_0_inv (from2 : Int) (bytes2 : List UInt8) (delays2 : List Int) (x0 : Int) (own : Int) (len : Nat) (x3 : GNet) (t2 : GNet) (v : Int × (List GLink_g)) (e : PF.St) : Prop := ∃ g0, e = net_Cast_0_st from2 bytes2 delays2 x0 own len x3 t2 v.1 v.2 g0 ∧ Mg 2 g0
theorem net_Cast_0_sim (from2 : Int) (bytes2 : List UInt8) (delays2 : List Int) (x0 : Int) (own : Int) (len : Nat) (x3 : GNet) (t2 : GNet) (x2 : Int) (x4 : List GLink_g) (g0 : Gr) (hg0 : Mg 2 g0) (s : PF.St) (hk : keep [1, 2, 3, 8, 9, 15, 16] [104, 108, 109, 1520, 1521, 1522, 1523] s = some (net_Cast_0_st from2 bytes2 delays2 x0 own len x3 t2 x2 x4 g0)) : Sim (net_Cast_0 from2 bytes2 delays2 x0 own len x3 t2 x2 x4) (Gv (net_Cast_0_rel from2 bytes2 delays2 x0 own len x3 t2)) (LM.loop ([1, 2, 3, 8, 9, 15, 16], [104, 108, 109, 1520, 1521, 1522, 1523], [8, 9], B_net_Cast_0) s) := by
  refine sim_loop M XE (net_Cast_0_inv from2 bytes2 delays2 x0 own len x3 t2) (net_Cast_0_rel from2 bytes2 delays2 x0 own len x3 t2) ?_ _ _ _ hk ⟨g0, rfl, hg0⟩
  clear hk hg0
  rintro S hS hw hw8 R hR ⟨x2, x4⟩ env hp ⟨g0, he, hg0⟩
  change (⟨env, hp⟩ : PF.St) = net_Cast_0_st from2 bytes2 delays2 x0 own len x3 t2 x2 x4 g0 at he
  cases he
  show Sim (net_Cast_0_step from2 bytes2 delays2 x0 own len x3 t2 x2 x4) _ _
  unfold net_Cast_0_step
  simp only [hw]
  refine au (.ite Iff.rfl (fun hc => ?_) fun hc => ?_)
  · refine au ?_
    refine Sim.ki hS (m := (List.length delays2 : Int)) (by simp) ?_
    refine au (.ite Iff.rfl (fun hc2 => ?_) fun hc2 => ?_)
    · refine au ?_
      refine Sim.ix (by simp) (fun z0 hz0 => ?_)
      refine au ?_
      refine Sim.go (idx_map _ hz0) ?_
      refine au ?_
      refine Sim.kfn (Flat.to (Flat.fm (fun _ => Flat.of rfl) _)) ?_
      refine au ?_
      refine Sim.kfl (Flat.ren (Flat.fm (fun _ => Flat.of rfl) _) _) ?_
      refine au (cE hR (net_put_sim _ _ _ _) fun r2 => ?_)
      refine au ?_
      refine Sim.kfl (Flat.ren (Flat.fm (fun _ => Flat.of rfl) _) _) ?_
      refine au ?_
      exact Sim.ret ⟨_, _, rfl, (keep_eq rfl rfl rfl (okH_cons rfl (okH_cons rfl (okH_cons rfl (okH_flat (Flat.fm (fun _ => Flat.of rfl) _) (okH_nil _)))))), ⟨_, rfl, hg0⟩⟩
    · refine au ?_
      refine Sim.kfn (Flat.to (Flat.fm (fun _ => Flat.of rfl) _)) ?_
      refine au ?_
      refine Sim.kfl (Flat.ren (Flat.fm (fun _ => Flat.of rfl) _) _) ?_
      refine au (cE hR (net_put_sim _ _ _ _) fun r3 => ?_)
      refine au ?_
      refine Sim.kfl (Flat.ren (Flat.fm (fun _ => Flat.of rfl) _) _) ?_
      refine au ?_
      exact Sim.ret ⟨_, _, rfl, (keep_eq rfl rfl rfl (okH_cons rfl (okH_cons rfl (okH_cons rfl (okH_flat (Flat.fm (fun _ => Flat.of rfl) _) (okH_nil _)))))), ⟨_, rfl, hg0⟩⟩
  · refine au ?_
    refine Sim.go (keep_eq rfl rfl rfl (okH_cons rfl (okH_cons rfl (okH_cons rfl (okH_flat (Flat.fm (fun _ => Flat.of rfl) _) (okH_nil _)))))) ?_
    refine au ?_
    exact Sim.ret ⟨_, rfl, ⟨_, rfl, hg0⟩⟩
noncomputable def net_Cast (t0 : GNet) (from0 : Int) (bytes : List UInt8) (delays : List Int) : Option GNet :=
  (net_open t0).bind fun r0 =>
  (net_Cast_0 from0 bytes delays r0.1 r0.1 r0.2.1 (GNet.mk 0 ([] : List GLink)) t0 0 r0.2.2).bind fun r4 =>
  (sub? r4 0 r0.2.1).bind fun l0 =>
  some (GNet.mk r0.1 (List.map GLink_g.pl l0))
theorem net_Cast_sim (t0 : GNet) (from0 : Int) (bytes : List UInt8) (delays : List Int) : Sim (net_Cast t0 from0 bytes delays) (Gv fun r q => q = (GNet.av r, [])) (LM.call n_net_Cast [GNet.av t0, iav from0, .str bytes, lav iav delays] []) := by
  unfold net_Cast
  refine sim_evR M XE rfl rfl fun S hS hw hw8 R hR => ?_
  refine au (cE hR (net_open_sim _) fun r0 => ?_)
  refine au ?_
  refine Sim.kfl (Flat.ren (Flat.fm (fun _ => Flat.of rfl) _) _) ?_
  refine au ?_
  refine Sim.callL hR (net_Cast_0_sim from0 bytes delays r0.1 r0.1 r0.2.1 (GNet.mk 0 ([] : List GLink)) t0 0 r0.2.2 .full Mg.full _ (keep_eq rfl rfl rfl (okH_cons rfl (okH_cons rfl (okH_cons rfl (okH_flat (Flat.fm (fun _ => Flat.of rfl) _) (okH_nil _))))))) ?_
  rintro r4 q ⟨g2, rfl, hg2⟩
  refine au ?_
  refine Sim.opt (elems_fmP GLink_g.pl (g := GLink.av) (e := 2) (b := 0) (fun _ => rfl) (fun _ => rfl) (fun _ => rfl) (by decide) (by omega)) (fun l0 _ => ?_)
  exact au (.ret ⟨_, rfl, rfl⟩)
noncomputable def net_Link (t0 : GNet) (from0 : Int) (to0 : Int) : Option GLink :=
  (net_open t0).bind fun r0 =>
  (sub? r0.2.2 0 r0.2.1).bind fun l0 =>
  (net_at (GNet.mk r0.1 (List.map GLink_g.pl l0)) from0 to0).bind fun r2 =>
  if (!r2.2) = true then
    some (GLink.mk ([] : List GItem) 0)
  else
    (idx? (List.map GLink_g.pl l0) r2.1).bind fun z0 =>
    some z0
theorem net_Link_sim (t0 : GNet) (from0 : Int) (to0 : Int) : Sim (net_Link t0 from0 to0) (Gv fun r q => q = (GLink.av r, [])) (LM.call n_net_Link [GNet.av t0, iav from0, iav to0] []) := by
  unfold net_Link
  refine sim_evR M XE rfl rfl fun S hS hw hw8 R hR => ?_
  refine au (cE hR (net_open_sim _) fun r0 => ?_)
  refine au ?_
  refine Sim.opt (elems_fmP GLink_g.pl (g := GLink.av) (e := 2) (b := 0) (fun _ => rfl) (fun _ => rfl) (fun _ => rfl) (by decide) (by omega)) (fun l0 _ => ?_)
  refine au (cE hR (net_at_sim _ _ _) fun r2 => ?_)
  refine au (.iteB (fun hc => ?_) fun hc => ?_)
  · exact au (.ret ⟨_, rfl, rfl⟩)
  · refine au ?_
    refine Sim.ix (by simp) (fun z0 hz0 => ?_)
    refine au ?_
    refine Sim.go (idx_map _ hz0) ?_
    exact au (.ret ⟨_, rfl, rfl⟩)
def l32_known : Option Bool := some true
theorem l32_known_sim : Sim l32_known (Gv fun r q => q = (.bool r, [])) (LM.call n_l32_known [] []) := Sim.ret ⟨_, (lim_call M XE).2 ⟨400, by kernel_rfl⟩, rfl⟩
noncomputable def r01_Clamp (n0 : Int) (low : Int) (high : Int) : Option Int :=
  if n0 < low then
    some low
  else
    if high < low then
      some low
    else
      some (min n0 high)
theorem r01_Clamp_sim (n0 : Int) (low : Int) (high : Int) : Sim (r01_Clamp n0 low high) (Gv fun r q => q = (iav r, [])) (LM.call n_r01_Clamp [iav n0, iav low, iav high] []) := by
  unfold r01_Clamp
  refine sim_evR M XE rfl rfl fun S hS hw hw8 R hR => ?_
  refine au (.ite Iff.rfl (fun hc => ?_) fun hc => ?_)
  · exact au (.ret ⟨_, rfl, rfl⟩)
  · refine au (.ite Iff.rfl (fun hc2 => ?_) fun hc2 => ?_)
    · exact au (.ret ⟨_, rfl, rfl⟩)
    · exact au (.ret ⟨_, rfl, rfl⟩)
noncomputable def r32_New_0_step (m0 : Int) (x0 : GNet) (i0 : Int) (t0 : GNet) : Option ((Int × GNet) ⊕ GNet) :=
  if i0 < (wr (m0 * m0)) then
    if List.length t0.Links + List.length [(GLink.mk ([] : List GItem) 0)] ≤ lenMax then
      some (.inl ((wr (i0 + 1)), (GNet.mk t0.N (t0.Links ++ [(GLink.mk ([] : List GItem) 0)]))))
    else none
  else
    some (.inr t0)
noncomputable def r32_New_0 (m0 : Int) (x0 : GNet) (i0 : Int) (t0 : GNet) : Option GNet :=
  loopO (fun s : Int × GNet => r32_New_0_step m0 x0 s.1 s.2) (i0, t0)
@[reducible] def r32_New_0_st (m0 : Int) (x0 : GNet) (i0 : Int) (t0 : GNet) (g0 : Gr) (g2 : Gr) : PF.St := ⟨[(2, .ptr 102 0), (3, iav m0), (4, .ptr 104 0), (5, iav i0)], [(104, ⟨true, [iav t0.N, .lst g0 (List.map GLink.av t0.Links)]⟩), (102, ⟨true, [iav x0.N, .lst g2 (List.map GLink.av x0.Links)]⟩)]⟩
def r32_New_0_rel (m0 : Int) (x0 : GNet) (r : GNet) (q : Ex × PF.St) : Prop := (fun r (q : Ex × PF.St) => ∃ g0', ∃ g1', q = ((.exit 0), ⟨[(2, .ptr 102 0), (4, .ptr 104 0)], [(104, ⟨true, [iav r.N, .lst g0' (List.map GLink.av r.Links)]⟩), (102, ⟨true, [iav x0.N, .lst g1' (List.map GLink.av x0.Links)]⟩)]⟩) ∧ Mg 2 g0' ∧ Mg 2 g1') r q
def r32_New_0_inv (m0 : Int) (x0 : GNet) (v : Int × GNet) (e : PF.St) : Prop := ∃ g0, ∃ g2, e = r32_New_0_st m0 x0 v.1 v.2 g0 g2 ∧ Mg 2 g0 ∧ Mg 2 g2
theorem r32_New_0_sim (m0 : Int) (x0 : GNet) (i0 : Int) (t0 : GNet) (g0 : Gr) (hg0 : Mg 2 g0) (g2 : Gr) (hg2 : Mg 2 g2) (s : PF.St) (hk : keep [2, 3, 4, 5] [102, 104] s = some (r32_New_0_st m0 x0 i0 t0 g0 g2)) : Sim (r32_New_0 m0 x0 i0 t0) (Gv (r32_New_0_rel m0 x0)) (LM.loop ([2, 3, 4, 5], [102, 104], [2, 4], B_r32_New_0) s) := by
  refine sim_loop M XE (r32_New_0_inv m0 x0) (r32_New_0_rel m0 x0) ?_ _ _ _ hk ⟨g0, g2, rfl, hg0, hg2⟩
  clear hk hg0 hg2
  rintro S hS hw hw8 R hR ⟨i0, t0⟩ env hp ⟨g0, g2, he, hg0, hg2⟩
  change (⟨env, hp⟩ : PF.St) = r32_New_0_st m0 x0 i0 t0 g0 g2 at he
  cases he
  show Sim (r32_New_0_step m0 x0 i0 t0) _ _
  unfold r32_New_0_step
  simp only [hw]
  refine au (.ite Iff.rfl (fun hc => ?_) fun hc => ?_)
  · refine au ?_
    refine Sim.kl hS rfl ?_
    refine au ?_
    refine Sim.kl hS (ys := List.map GLink.av [(GLink.mk ([] : List GItem) 0)]) rfl ?_
    refine au ?_
    first | (refine Sim.goB (may_map (by intro _; rfl) hg0 _) ?_) | skip
    refine au ?_
    first | (refine Sim.goB (okE_map (by intro _; exact ⟨rfl, rfl, rfl⟩) _) ?_) | skip
    refine au ?_
    first | refine Sim.ite (by simp) (fun _ => ?_) (fun _ => Sim.no) | refine Sim.guard (fun _ => ?_)
    refine au ?_
    refine Sim.kl hS (ys := List.map GLink.av (t0.Links ++ [(GLink.mk ([] : List GItem) 0)])) (by simp) ?_
    refine au ?_
    exact Sim.ret ⟨_, _, rfl, rfl, ⟨_, _, rfl, Mg.own, hg2⟩⟩
  · refine au ?_
    exact Sim.ret ⟨_, rfl, ⟨_, _, rfl, hg0, hg2⟩⟩
noncomputable def r32_New (n0 : Int) : Option GNet :=
  (r01_Clamp n0 0 13).bind fun r0 =>
  (r32_New_0 r0 (GNet.mk 0 ([] : List GLink)) 0 (GNet.mk r0 ([] : List GLink))).bind fun r2 =>
  some r2
theorem r32_New_sim (n0 : Int) : Sim (r32_New n0) (Gv fun r q => q = (GNet.av r, [])) (LM.call n_r32_New [iav n0] []) := by
  unfold r32_New
  refine sim_evR M XE rfl rfl fun S hS hw hw8 R hR => ?_
  refine au (cE hR (r01_Clamp_sim _ _ _) fun r0 => ?_)
  refine au ?_
  refine Sim.callL hR (r32_New_0_sim r0 (GNet.mk 0 ([] : List GLink)) 0 (GNet.mk r0 ([] : List GLink)) .full Mg.full .full Mg.full _ rfl) ?_
  rintro r2 q ⟨g3, g4, rfl, hg3, hg4⟩
  exact au (.ret ⟨_, rfl, rfl⟩)
noncomputable def r32_well (t0 : GNet) : Option GNet :=
  if t0.N < 0 then
    (r32_New t0.N).bind fun r0 =>
    some r0
  else
    if 13 < t0.N then
      (r32_New t0.N).bind fun r2 =>
      some r2
    else
      if (List.length t0.Links : Int) ≠ (wr (t0.N * t0.N)) then
        (r32_New t0.N).bind fun r3 =>
        some r3
      else
        some t0
theorem r32_well_sim (t0 : GNet) : Sim (r32_well t0) (Gv fun r q => q = (GNet.av r, [])) (LM.call n_r32_well [GNet.av t0] []) := by
  unfold r32_well
  refine sim_evR M XE rfl rfl fun S hS hw hw8 R hR => ?_
  simp only [hw]
  refine au (.ite Iff.rfl (fun hc => ?_) fun hc => ?_)
  · refine au (cE hR (r32_New_sim _) fun r0 => ?_)
    exact au (.ret ⟨_, rfl, rfl⟩)
  · refine au (.ite Iff.rfl (fun hc2 => ?_) fun hc2 => ?_)
    · refine au (cE hR (r32_New_sim _) fun r2 => ?_)
      exact au (.ret ⟨_, rfl, rfl⟩)
    · refine au ?_
      refine Sim.ki hS (m := (List.length t0.Links : Int)) (by simp) ?_
      refine au (.ite Iff.rfl (fun hc3 => ?_) fun hc3 => ?_)
      · refine au (cE hR (r32_New_sim _) fun r3 => ?_)
        exact au (.ret ⟨_, rfl, rfl⟩)
      · exact au (.ret ⟨_, rfl, rfl⟩)
noncomputable def r01_Sat (n0 : Int) (most : Int) : Option Int :=
  if n0 < 0 then
    some 0
  else
    if most < 0 then
      some 0
    else
      if most ≤ n0 then
        some most
      else
        some (wr (n0 + 1))
theorem r01_Sat_sim (n0 : Int) (most : Int) : Sim (r01_Sat n0 most) (Gv fun r q => q = (iav r, [])) (LM.call n_r01_Sat [iav n0, iav most] []) := by
  unfold r01_Sat
  refine sim_evR M XE rfl rfl fun S hS hw hw8 R hR => ?_
  simp only [hw]
  refine au (.ite Iff.rfl (fun hc => ?_) fun hc => ?_)
  · exact au (.ret ⟨_, rfl, rfl⟩)
  · refine au (.ite Iff.rfl (fun hc2 => ?_) fun hc2 => ?_)
    · exact au (.ret ⟨_, rfl, rfl⟩)
    · refine au (.ite Iff.rfl (fun hc3 => ?_) fun hc3 => ?_)
      · exact au (.ret ⟨_, rfl, rfl⟩)
      · exact au (.ret ⟨_, rfl, rfl⟩)
noncomputable def r08_Step_0_step (q2 : List GItem) (come : List GItem) (rest : List GItem) (i0 : Int) : Option (((List GItem) × (List GItem) × Int) ⊕ ((List GItem) × (List GItem))) :=
  if i0 < (List.length q2 : Int) then
    (idx? q2 i0).bind fun z0 =>
    (r01_Sat z0.Age 65535).bind fun r0 =>
    if z0.Wait ≤ 1 then
      if List.length come + List.length [(GItem.mk r0 0 z0.Bytes)] ≤ lenMax then
        some (.inl ((come ++ [(GItem.mk r0 0 z0.Bytes)]), rest, (wr (i0 + 1))))
      else none
    else
      if List.length rest + List.length [(GItem.mk r0 (wr (z0.Wait - 1)) z0.Bytes)] ≤ lenMax then
        some (.inl (come, (rest ++ [(GItem.mk r0 (wr (z0.Wait - 1)) z0.Bytes)]), (wr (i0 + 1))))
      else none
  else
    some (.inr (come, rest))
noncomputable def r08_Step_0 (q2 : List GItem) (come : List GItem) (rest : List GItem) (i0 : Int) : Option ((List GItem) × (List GItem)) :=
  loopO (fun s : (List GItem) × (List GItem) × Int => r08_Step_0_step q2 s.1 s.2.1 s.2.2) (come, rest, i0)
@[reducible] def r08_Step_0_st (q2 : List GItem) (come : List GItem) (rest : List GItem) (i0 : Int) (g0 : Gr) (g2 : Gr) : PF.St := ⟨[(0, lav GItem.av q2), (4, .lst g0 (List.map GItem.av come)), (5, .lst g2 (List.map GItem.av rest)), (6, iav i0)], []⟩
def r08_Step_0_rel (q2 : List GItem) (r : ((List GItem) × (List GItem))) (q : Ex × PF.St) : Prop := (fun r (q : Ex × PF.St) => ∃ g0', ∃ g1', q = ((.exit 0), ⟨[(4, .lst g0' (List.map GItem.av r.1)), (5, .lst g1' (List.map GItem.av r.2))], []⟩) ∧ Mg 3 g0' ∧ Mg 3 g1') r q
def r08_Step_0_inv (q2 : List GItem) (v : (List GItem) × (List GItem) × Int) (e : PF.St) : Prop := ∃ g0, ∃ g2, e = r08_Step_0_st q2 v.1 v.2.1 v.2.2 g0 g2 ∧ Mg 3 g0 ∧ Mg 3 g2
theorem r08_Step_0_sim (q2 : List GItem) (come : List GItem) (rest : List GItem) (i0 : Int) (g0 : Gr) (hg0 : Mg 3 g0) (g2 : Gr) (hg2 : Mg 3 g2) (s : PF.St) (hk : keep [0, 4, 5, 6] [] s = some (r08_Step_0_st q2 come rest i0 g0 g2)) : Sim (r08_Step_0 q2 come rest i0) (Gv (r08_Step_0_rel q2)) (LM.loop ([0, 4, 5, 6], [], [4, 5], B_r08_Step_0) s) := by
  refine sim_loop M XE (r08_Step_0_inv q2) (r08_Step_0_rel q2) ?_ _ _ _ hk ⟨g0, g2, rfl, hg0, hg2⟩
  clear hk hg0 hg2
  rintro S hS hw hw8 R hR ⟨come, rest, i0⟩ env hp ⟨g0, g2, he, hg0, hg2⟩
  change (⟨env, hp⟩ : PF.St) = r08_Step_0_st q2 come rest i0 g0 g2 at he
  cases he
  show Sim (r08_Step_0_step q2 come rest i0) _ _
  unfold r08_Step_0_step
  simp only [hw]
  refine au ?_
  refine Sim.ki hS (m := (List.length q2 : Int)) (by simp) ?_
  refine au (.ite Iff.rfl (fun hc => ?_) fun hc => ?_)
  · refine au ?_
    refine Sim.ix (by simp) (fun z0 hz0 => ?_)
    refine au ?_
    refine Sim.go (idx_map _ hz0) ?_
    refine au (cE hR (r01_Sat_sim _ _) fun r0 => ?_)
    refine au (.ite Iff.rfl (fun hc2 => ?_) fun hc2 => ?_)
    · refine au ?_
      refine Sim.kl hS (ys := List.map GItem.av [(GItem.mk r0 0 z0.Bytes)]) rfl ?_
      refine au ?_
      first | (refine Sim.goB (may_map (by intro _; rfl) hg0 _) ?_) | skip
      refine au ?_
      first | (refine Sim.goB (okE_map (by intro _; exact ⟨rfl, rfl, rfl⟩) _) ?_) | skip
      refine au ?_
      first | refine Sim.ite (by simp) (fun _ => ?_) (fun _ => Sim.no) | refine Sim.guard (fun _ => ?_)
      refine au ?_
      refine Sim.kl hS (ys := List.map GItem.av (come ++ [(GItem.mk r0 0 z0.Bytes)])) (by simp) ?_
      refine au ?_
      exact Sim.ret ⟨_, _, rfl, rfl, ⟨_, _, rfl, Mg.own, hg2⟩⟩
    · refine au ?_
      refine Sim.kl hS (ys := List.map GItem.av [(GItem.mk r0 (S.wr (z0.Wait - 1)) z0.Bytes)]) rfl ?_
      refine au ?_
      first | (refine Sim.goB (may_map (by intro _; rfl) hg2 _) ?_) | skip
      refine au ?_
      first | (refine Sim.goB (okE_map (by intro _; exact ⟨rfl, rfl, rfl⟩) _) ?_) | skip
      refine au ?_
      first | refine Sim.ite (by simp) (fun _ => ?_) (fun _ => Sim.no) | refine Sim.guard (fun _ => ?_)
      refine au ?_
      refine Sim.kl hS (ys := List.map GItem.av (rest ++ [(GItem.mk r0 (S.wr (z0.Wait - 1)) z0.Bytes)])) (by simp) ?_
      refine au ?_
      exact Sim.ret ⟨_, _, rfl, rfl, ⟨_, _, rfl, hg0, Mg.own⟩⟩
  · refine au ?_
    exact Sim.ret ⟨_, rfl, ⟨_, _, rfl, hg0, hg2⟩⟩
noncomputable def r08_Step (q0 : List GItem) : Option ((List GItem) × (List GItem)) :=
  (r08_Step_0 q0 ([] : List GItem) ([] : List GItem) 0).bind fun r2 =>
  some (r2.1, r2.2)
theorem r08_Step_sim (q0 : List GItem) : Sim (r08_Step q0) (Gv fun r q => q = (.tup [lav GItem.av r.1, lav GItem.av r.2], [])) (LM.call n_r08_Step [lav GItem.av q0] []) := by
  unfold r08_Step
  refine sim_evR M XE rfl rfl fun S hS hw hw8 R hR => ?_
  refine au ?_
  refine Sim.callL hR (r08_Step_0_sim q0 ([] : List GItem) ([] : List GItem) 0 .full Mg.full .full Mg.full _ rfl) ?_
  rintro r2 q ⟨g3, g4, rfl, hg3, hg4⟩
  exact au (.ret ⟨_, rfl, rfl⟩)
noncomputable def r31_Step (l0 : GLink) : Option ((List GItem) × GLink) :=
  (r08_Step l0.Queue).bind fun r0 =>
  some (r0.1, (GLink.mk r0.2 l0.Lost))
theorem r31_Step_sim (l0 : GLink) : Sim (r31_Step l0) (Gv fun r q => q = (.tup [lav GItem.av r.1, GLink.av r.2], [])) (LM.call n_r31_Step [GLink.av l0] []) := by
  unfold r31_Step
  refine sim_evR M XE rfl rfl fun S hS hw hw8 R hR => ?_
  refine au (cE hR (r08_Step_sim _) fun r0 => ?_)
  exact au (.ret ⟨_, rfl, rfl⟩)
noncomputable def r32_Step_0_step (x2 : GNet) (t0 : GNet) (i0 : GNet) (o0 : Int) (x0 : List (Gr × List GFrame)) : Option ((Int × (List (Gr × List GFrame))) ⊕ ((List (Gr × List GFrame)))) :=
  if o0 < x2.N then
    if List.length x0 + 1 ≤ lenMax then
      if (List.all x0 fun p => gOk p.1) = true then
        some (.inl ((wr (o0 + 1)), (x0 ++ [(Gr.full, ([] : List GFrame))])))
      else none
    else none
  else
    some (.inr x0)
noncomputable def r32_Step_0 (x2 : GNet) (t0 : GNet) (i0 : GNet) (o0 : Int) (x0 : List (Gr × List GFrame)) : Option ((List (Gr × List GFrame))) :=
  loopO (fun s : Int × (List (Gr × List GFrame)) => r32_Step_0_step x2 t0 i0 s.1 s.2) (o0, x0)
@[reducible] def r32_Step_0_st (x2 : GNet) (t0 : GNet) (i0 : GNet) (o0 : Int) (x0 : List (Gr × List GFrame)) (g0 : Gr) : PF.St := ⟨[(3, .ptr 103 0), (4, .ptr 104 0), (5, .arw 100001 (List.length x0) 1 false), (6, iav o0)], [(100001, ⟨true, (List.map (glv GFrame.av) x0)⟩), (104, ⟨true, GNet.cells x2⟩), (103, ⟨true, [iav t0.N, .lst g0 (List.map GLink.av t0.Links)]⟩), (101, ⟨true, GNet.cells i0⟩)]⟩
def r32_Step_0_rel (x2 : GNet) (t0 : GNet) (i0 : GNet) (r : ((List (Gr × List GFrame)))) (q : Ex × PF.St) : Prop := (fun r (q : Ex × PF.St) => ∃ g0', q = ((.exit 0), ⟨[(3, .ptr 103 0), (4, .ptr 104 0), (5, .arw 100001 (List.length r) 1 false)], [(100001, ⟨true, (List.map (glv GFrame.av) r)⟩), (104, ⟨true, GNet.cells x2⟩), (103, ⟨true, [iav t0.N, .lst g0' (List.map GLink.av t0.Links)]⟩), (101, ⟨true, GNet.cells i0⟩)]⟩) ∧ Mg 2 g0') r q
def r32_Step_0_inv (x2 : GNet) (t0 : GNet) (i0 : GNet) (v : Int × (List (Gr × List GFrame))) (e : PF.St) : Prop := ∃ g0, e = r32_Step_0_st x2 t0 i0 v.1 v.2 g0 ∧ Mg 2 g0
theorem r32_Step_0_sim (x2 : GNet) (t0 : GNet) (i0 : GNet) (o0 : Int) (x0 : List (Gr × List GFrame)) (g0 : Gr) (hg0 : Mg 2 g0) (s : PF.St) (hk : keep [3, 4, 5, 6] [101, 103, 104, 100001] s = some (r32_Step_0_st x2 t0 i0 o0 x0 g0)) : Sim (r32_Step_0 x2 t0 i0 o0 x0) (Gv (r32_Step_0_rel x2 t0 i0)) (LM.loop ([3, 4, 5, 6], [101, 103, 104, 100001], [3, 4, 5], B_r32_Step_0) s) := by
  refine sim_loop M XE (r32_Step_0_inv x2 t0 i0) (r32_Step_0_rel x2 t0 i0) ?_ _ _ _ hk ⟨g0, rfl, hg0⟩
  clear hk hg0
  rintro S hS hw hw8 R hR ⟨o0, x0⟩ env hp ⟨g0, he, hg0⟩
  change (⟨env, hp⟩ : PF.St) = r32_Step_0_st x2 t0 i0 o0 x0 g0 at he
  cases he
  show Sim (r32_Step_0_step x2 t0 i0 o0 x0) _ _
  unfold r32_Step_0_step
  simp only [hw]
  refine au (.ite Iff.rfl (fun hc => ?_) fun hc => ?_)
  · refine au ?_
    first | (refine Sim.goB (decide_eq_true (len_map1 _)) ?_) | skip
    refine au ?_
    first | refine Sim.ite (by simp) (fun _ => ?_) (fun _ => Sim.no) | refine Sim.guard (fun _ => ?_)
    refine au ?_
    first | (refine Sim.goB (noRef_flat (Flat.map (fun _ => rfl) _) (noRef_cons rfl (noRef_cons rfl (noRef_cons rfl (noRef_nil _))))) ?_) | skip
    refine au ?_
    refine Sim.guard (fun hg => ?_)
    refine Sim.goB (all_glv hg) ?_
    refine au ?_
    refine Sim.kl hS (ys := (List.map (glv GFrame.av) (x0 ++ [(Gr.full, ([] : List GFrame))]))) (by exact app_map (f := (glv GFrame.av)) (by intro _; rfl) x0 [(Gr.full, ([] : List GFrame))]) ?_
    refine au ?_
    refine Sim.kn hS (m := List.length (x0 ++ [(Gr.full, ([] : List GFrame))])) (by simp) ?_
    refine au ?_
    exact Sim.ret ⟨_, _, rfl, (keep_eq rfl rfl rfl (okH_flat (Flat.map (fun _ => rfl) _) (okH_cons rfl (okH_cons rfl (okH_cons rfl (okH_nil _)))))), ⟨_, rfl, hg0⟩⟩
  · refine au ?_
    refine Sim.go (keep_eq rfl rfl rfl (okH_flat (Flat.map (fun _ => rfl) _) (okH_cons rfl (okH_cons rfl (okH_cons rfl (okH_nil _)))))) ?_
    refine au ?_
    exact Sim.ret ⟨_, rfl, ⟨_, rfl, hg0⟩⟩
noncomputable def r32_Step_1_step (r7 : Int) (r8 : Int) (a0 : List GItem) (y0 : GLink) (A3 : GNet) (x9 : GNet) (t4 : GNet) (i4 : GNet) (x7 : Int) (x8 : List (Gr × List GFrame)) : Option ((Int × (List (Gr × List GFrame))) ⊕ ((List (Gr × List GFrame)))) :=
  if x7 < (List.length a0 : Int) then
    if 0 ≤ r8 ∧ r8 < (((List.length x8) : Nat) : Int) then
      (x8[(Int.toNat r8)]?).bind fun z2 =>
      (idx? a0 x7).bind fun z3 =>
      (idx? a0 x7).bind fun z4 =>
      if Mg 3 z2.1 then
        if List.length z2.2 + List.length [(GFrame.mk r7 z3.Age z4.Bytes)] ≤ lenMax then
          if 0 ≤ r8 ∧ r8 < (((List.length x8) : Nat) : Int) then
            (mod? (List.set x8 (Int.toNat r8) ((Gr.cp z2.1), z2.2)) (Int.toNat r8) (fun _ => ((Gr.own 3), (z2.2 ++ [(GFrame.mk r7 z3.Age z4.Bytes)])))).bind fun l0 =>
            some (.inl ((wr (x7 + 1)), l0))
          else none
        else none
      else none
    else none
  else
    some (.inr x8)
noncomputable def r32_Step_1 (r7 : Int) (r8 : Int) (a0 : List GItem) (y0 : GLink) (A3 : GNet) (x9 : GNet) (t4 : GNet) (i4 : GNet) (x7 : Int) (x8 : List (Gr × List GFrame)) : Option ((List (Gr × List GFrame))) :=
  loopO (fun s : Int × (List (Gr × List GFrame)) => r32_Step_1_step r7 r8 a0 y0 A3 x9 t4 i4 s.1 s.2) (x7, x8)
@[reducible] def r32_Step_1_st (r7 : Int) (r8 : Int) (a0 : List GItem) (y0 : GLink) (A3 : GNet) (x9 : GNet) (t4 : GNet) (i4 : GNet) (x7 : Int) (x8 : List (Gr × List GFrame)) (g7 : Gr) (g8 : Gr) : PF.St := ⟨[(3, .ptr 103 0), (4, .ptr 104 0), (5, .arw 100001 (List.length x8) 1 false), (7, .ptr 107 0), (8, iav r7), (9, iav r8), (10, lav GItem.av a0), (11, .ptr 111 0), (12, iav x7)], [(111, ⟨true, GLink.cells y0⟩), (107, ⟨true, [iav A3.N, .lst g7 (List.map GLink.av A3.Links)]⟩), (100001, ⟨true, (List.map (glv GFrame.av) x8)⟩), (104, ⟨true, GNet.cells x9⟩), (103, ⟨true, [iav t4.N, .lst g8 (List.map GLink.av t4.Links)]⟩), (101, ⟨true, GNet.cells i4⟩)]⟩
def r32_Step_1_rel (r7 : Int) (r8 : Int) (a0 : List GItem) (y0 : GLink) (A3 : GNet) (x9 : GNet) (t4 : GNet) (i4 : GNet) (r : ((List (Gr × List GFrame)))) (q : Ex × PF.St) : Prop := (fun r (q : Ex × PF.St) => ∃ g0', ∃ g1', q = ((.exit 6), ⟨[(3, .ptr 103 0), (4, .ptr 104 0), (5, .arw 100001 (List.length r) 1 false), (7, .ptr 107 0), (8, iav r7), (9, iav r8), (11, .ptr 111 0)], [(111, ⟨true, GLink.cells y0⟩), (107, ⟨true, [iav A3.N, .lst g0' (List.map GLink.av A3.Links)]⟩), (100001, ⟨true, (List.map (glv GFrame.av) r)⟩), (104, ⟨true, GNet.cells x9⟩), (103, ⟨true, [iav t4.N, .lst g1' (List.map GLink.av t4.Links)]⟩), (101, ⟨true, GNet.cells i4⟩)]⟩) ∧ Mg 2 g0' ∧ Mg 2 g1') r q
def r32_Step_1_inv (r7 : Int) (r8 : Int) (a0 : List GItem) (y0 : GLink) (A3 : GNet) (x9 : GNet) (t4 : GNet) (i4 : GNet) (v : Int × (List (Gr × List GFrame))) (e : PF.St) : Prop := ∃ g7, ∃ g8, e = r32_Step_1_st r7 r8 a0 y0 A3 x9 t4 i4 v.1 v.2 g7 g8 ∧ Mg 2 g7 ∧ Mg 2 g8
theorem r32_Step_1_sim (r7 : Int) (r8 : Int) (a0 : List GItem) (y0 : GLink) (A3 : GNet) (x9 : GNet) (t4 : GNet) (i4 : GNet) (x7 : Int) (x8 : List (Gr × List GFrame)) (g7 : Gr) (hg7 : Mg 2 g7) (g8 : Gr) (hg8 : Mg 2 g8) (s : PF.St) (hk : keep [3, 4, 5, 7, 8, 9, 10, 11, 12] [101, 103, 104, 107, 111, 100001] s = some (r32_Step_1_st r7 r8 a0 y0 A3 x9 t4 i4 x7 x8 g7 g8)) : Sim (r32_Step_1 r7 r8 a0 y0 A3 x9 t4 i4 x7 x8) (Gv (r32_Step_1_rel r7 r8 a0 y0 A3 x9 t4 i4)) (LM.loop ([3, 4, 5, 7, 8, 9, 10, 11, 12], [101, 103, 104, 107, 111, 100001], [3, 4, 5, 7, 8, 9, 11], B_r32_Step_1) s) := by
  refine sim_loop M XE (r32_Step_1_inv r7 r8 a0 y0 A3 x9 t4 i4) (r32_Step_1_rel r7 r8 a0 y0 A3 x9 t4 i4) ?_ _ _ _ hk ⟨g7, g8, rfl, hg7, hg8⟩
  clear hk hg7 hg8
  rintro S hS hw hw8 R hR ⟨x7, x8⟩ env hp ⟨g7, g8, he, hg7, hg8⟩
  change (⟨env, hp⟩ : PF.St) = r32_Step_1_st r7 r8 a0 y0 A3 x9 t4 i4 x7 x8 g7 g8 at he
  cases he
  show Sim (r32_Step_1_step r7 r8 a0 y0 A3 x9 t4 i4 x7 x8) _ _
  unfold r32_Step_1_step
  simp only [hw]
  refine au ?_
  refine Sim.ki hS (m := (List.length a0 : Int)) (by simp) ?_
  refine au (.ite Iff.rfl (fun hc4 => ?_) fun hc4 => ?_)
  · refine au ?_
    first | refine Sim.ite Iff.rfl (fun _ => ?_) (fun _ => Sim.no) | refine Sim.guard (fun _ => ?_)
    refine au ?_
    refine Sim.opt (cell_map (m := (Int.toNat r8)) (by omega)) (fun z2 _ => ?_)
    refine au ?_
    refine Sim.kl hS (ys := List.map (glv GFrame.av) (List.set x8 (Int.toNat r8) ((Gr.cp z2.1), z2.2))) (by first | exact (List.map_set ..).symm | simp [List.map_set]) ?_
    refine au ?_
    refine Sim.ix (by simp) (fun z3 hz3 => ?_)
    refine au ?_
    refine Sim.go (idx_map _ hz3) ?_
    refine au ?_
    refine Sim.ix (by simp) (fun z4 hz4 => ?_)
    refine au ?_
    refine Sim.go (idx_map _ hz4) ?_
    refine au ?_
    refine Sim.kl hS (ys := List.map GFrame.av [(GFrame.mk r7 z3.Age z4.Bytes)]) rfl ?_
    refine au ?_
    refine Sim.guard (fun hg2 => ?_)
    refine Sim.goB (may_map (by intro _; rfl) hg2 _) ?_
    refine au ?_
    first | (refine Sim.goB (okE_map (by intro _; exact ⟨rfl, rfl, rfl⟩) _) ?_) | skip
    refine au ?_
    first | refine Sim.ite (by simp) (fun _ => ?_) (fun _ => Sim.no) | refine Sim.guard (fun _ => ?_)
    refine au ?_
    refine Sim.kl hS (ys := List.map GFrame.av (z2.2 ++ [(GFrame.mk r7 z3.Age z4.Bytes)])) (by simp) ?_
    refine au ?_
    first | refine Sim.ite Iff.rfl (fun _ => ?_) (fun _ => Sim.no) | refine Sim.guard (fun _ => ?_)
    refine au ?_
    refine Sim.opt (store_map (u := (fun _ => ((Gr.own 3), (z2.2 ++ [(GFrame.mk r7 z3.Age z4.Bytes)])))) (m := (Int.toNat r8)) (by omega) (fun _ => rfl)) (fun l0 hm => ?_)
    try rw [show List.length x8 = List.length l0 from by have := mod_len hm; simpa using this.symm]
    refine au ?_
    exact Sim.ret ⟨_, _, rfl, (keep_eq rfl rfl rfl (okH_cons rfl (okH_cons rfl (okH_flat (Flat.map (fun _ => rfl) _) (okH_cons rfl (okH_cons rfl (okH_cons rfl (okH_nil _)))))))), ⟨_, _, rfl, hg7, hg8⟩⟩
  · refine au ?_
    refine Sim.go (keep_eq rfl rfl rfl (okH_cons rfl (okH_cons rfl (okH_flat (Flat.map (fun _ => rfl) _) (okH_cons rfl (okH_cons rfl (okH_cons rfl (okH_nil _)))))))) ?_
    refine au ?_
    exact Sim.ret ⟨_, rfl, ⟨_, _, rfl, hg7, hg8⟩⟩
noncomputable def r32_Step_2_step (r4 : Int) (x6 : GNet) (t3 : GNet) (i3 : GNet) (r5 : Int) (A2 : GNet) (x5 : List (Gr × List GFrame)) : Option ((Int × GNet × (List (Gr × List GFrame))) ⊕ (GNet × (List (Gr × List GFrame)))) :=
  if r5 < x6.N then
    (idx? x6.Links (wr ((wr (r4 * x6.N)) + r5))).bind fun z0 =>
    (r31_Step z0).bind fun r6 =>
    (r32_Step_1 r4 r5 r6.1 r6.2 A2 x6 t3 i3 0 x5).bind fun r9 =>
    if List.length A2.Links + List.length [r6.2] ≤ lenMax then
      some (.inl ((wr (r5 + 1)), (GNet.mk A2.N (A2.Links ++ [r6.2])), r9))
    else none
  else
    some (.inr (A2, x5))
noncomputable def r32_Step_2 (r4 : Int) (x6 : GNet) (t3 : GNet) (i3 : GNet) (r5 : Int) (A2 : GNet) (x5 : List (Gr × List GFrame)) : Option (GNet × (List (Gr × List GFrame))) :=
  loopO (fun s : Int × GNet × (List (Gr × List GFrame)) => r32_Step_2_step r4 x6 t3 i3 s.1 s.2.1 s.2.2) (r5, A2, x5)
@[reducible] def r32_Step_2_st (r4 : Int) (x6 : GNet) (t3 : GNet) (i3 : GNet) (r5 : Int) (A2 : GNet) (x5 : List (Gr × List GFrame)) (g5 : Gr) (g6 : Gr) : PF.St := ⟨[(3, .ptr 103 0), (4, .ptr 104 0), (5, .arw 100001 (List.length x5) 1 false), (7, .ptr 107 0), (8, iav r4), (9, iav r5)], [(107, ⟨true, [iav A2.N, .lst g5 (List.map GLink.av A2.Links)]⟩), (100001, ⟨true, (List.map (glv GFrame.av) x5)⟩), (104, ⟨true, GNet.cells x6⟩), (103, ⟨true, [iav t3.N, .lst g6 (List.map GLink.av t3.Links)]⟩), (101, ⟨true, GNet.cells i3⟩)]⟩
def r32_Step_2_rel (r4 : Int) (x6 : GNet) (t3 : GNet) (i3 : GNet) (r : (GNet × (List (Gr × List GFrame)))) (q : Ex × PF.St) : Prop := (fun r (q : Ex × PF.St) => ∃ g0', ∃ g1', q = ((.exit 4), ⟨[(3, .ptr 103 0), (4, .ptr 104 0), (5, .arw 100001 (List.length r.2) 1 false), (7, .ptr 107 0), (8, iav r4)], [(107, ⟨true, [iav r.1.N, .lst g0' (List.map GLink.av r.1.Links)]⟩), (100001, ⟨true, (List.map (glv GFrame.av) r.2)⟩), (104, ⟨true, GNet.cells x6⟩), (103, ⟨true, [iav t3.N, .lst g1' (List.map GLink.av t3.Links)]⟩), (101, ⟨true, GNet.cells i3⟩)]⟩) ∧ Mg 2 g0' ∧ Mg 2 g1') r q
def r32_Step_2_inv (r4 : Int) (x6 : GNet) (t3 : GNet) (i3 : GNet) (v : Int × GNet × (List (Gr × List GFrame))) (e : PF.St) : Prop := ∃ g5, ∃ g6, e = r32_Step_2_st r4 x6 t3 i3 v.1 v.2.1 v.2.2 g5 g6 ∧ Mg 2 g5 ∧ Mg 2 g6
theorem r32_Step_2_sim (r4 : Int) (x6 : GNet) (t3 : GNet) (i3 : GNet) (r5 : Int) (A2 : GNet) (x5 : List (Gr × List GFrame)) (g5 : Gr) (hg5 : Mg 2 g5) (g6 : Gr) (hg6 : Mg 2 g6) (s : PF.St) (hk : keep [3, 4, 5, 7, 8, 9] [101, 103, 104, 107, 100001] s = some (r32_Step_2_st r4 x6 t3 i3 r5 A2 x5 g5 g6)) : Sim (r32_Step_2 r4 x6 t3 i3 r5 A2 x5) (Gv (r32_Step_2_rel r4 x6 t3 i3)) (LM.loop ([3, 4, 5, 7, 8, 9], [101, 103, 104, 107, 100001], [3, 4, 5, 7, 8], B_r32_Step_2) s) := by
  refine sim_loop M XE (r32_Step_2_inv r4 x6 t3 i3) (r32_Step_2_rel r4 x6 t3 i3) ?_ _ _ _ hk ⟨g5, g6, rfl, hg5, hg6⟩
  clear hk hg5 hg6
  rintro S hS hw hw8 R hR ⟨r5, A2, x5⟩ env hp ⟨g5, g6, he, hg5, hg6⟩
  change (⟨env, hp⟩ : PF.St) = r32_Step_2_st r4 x6 t3 i3 r5 A2 x5 g5 g6 at he
  cases he
  show Sim (r32_Step_2_step r4 x6 t3 i3 r5 A2 x5) _ _
  unfold r32_Step_2_step
  simp only [hw]
  refine au (.ite Iff.rfl (fun hc3 => ?_) fun hc3 => ?_)
  · refine au ?_
    refine Sim.ix (by simp) (fun z0 hz0 => ?_)
    refine au ?_
    refine Sim.go (idx_map _ hz0) ?_
    refine au (cE hR (r31_Step_sim _) fun r6 => ?_)
    refine au ?_
    refine Sim.callL hR (r32_Step_1_sim r4 r5 r6.1 r6.2 A2 x6 t3 i3 0 x5 g5 hg5 g6 hg6 _ (keep_eq rfl rfl rfl (okH_cons rfl (okH_cons rfl (okH_flat (Flat.map (fun _ => rfl) _) (okH_cons rfl (okH_cons rfl (okH_cons rfl (okH_nil _))))))))) ?_
    rintro r9 q ⟨g9, g10, rfl, hg9, hg10⟩
    refine au ?_
    refine Sim.kl hS rfl ?_
    refine au ?_
    refine Sim.kl hS (ys := List.map GLink.av [r6.2]) rfl ?_
    refine au ?_
    first | (refine Sim.goB (may_map (by intro _; rfl) hg9 _) ?_) | skip
    refine au ?_
    first | (refine Sim.goB (okE_map (by intro _; exact ⟨rfl, rfl, rfl⟩) _) ?_) | skip
    refine au ?_
    first | refine Sim.ite (by simp) (fun _ => ?_) (fun _ => Sim.no) | refine Sim.guard (fun _ => ?_)
    refine au ?_
    refine Sim.kl hS (ys := List.map GLink.av (A2.Links ++ [r6.2])) (by simp) ?_
    refine au ?_
    exact Sim.ret ⟨_, _, rfl, (keep_eq rfl rfl rfl (okH_cons rfl (okH_flat (Flat.map (fun _ => rfl) _) (okH_cons rfl (okH_cons rfl (okH_cons rfl (okH_nil _))))))), ⟨_, _, rfl, Mg.own, hg10⟩⟩
  · refine au ?_
    refine Sim.go (keep_eq rfl rfl rfl (okH_cons rfl (okH_flat (Flat.map (fun _ => rfl) _) (okH_cons rfl (okH_cons rfl (okH_cons rfl (okH_nil _))))))) ?_
    refine au ?_
    exact Sim.ret ⟨_, rfl, ⟨_, _, rfl, hg5, hg6⟩⟩
noncomputable def r32_Step_3_step (x4 : GNet) (t2 : GNet) (i2 : GNet) (r3 : Int) (A0 : GNet) (x3 : List (Gr × List GFrame)) : Option ((Int × GNet × (List (Gr × List GFrame))) ⊕ (GNet × (List (Gr × List GFrame)))) :=
  if r3 < x4.N then
    (r32_Step_2 r3 x4 t2 i2 0 A0 x3).bind fun r10 =>
    some (.inl ((wr (r3 + 1)), r10.1, r10.2))
  else
    some (.inr (A0, x3))
noncomputable def r32_Step_3 (x4 : GNet) (t2 : GNet) (i2 : GNet) (r3 : Int) (A0 : GNet) (x3 : List (Gr × List GFrame)) : Option (GNet × (List (Gr × List GFrame))) :=
  loopO (fun s : Int × GNet × (List (Gr × List GFrame)) => r32_Step_3_step x4 t2 i2 s.1 s.2.1 s.2.2) (r3, A0, x3)
@[reducible] def r32_Step_3_st (x4 : GNet) (t2 : GNet) (i2 : GNet) (r3 : Int) (A0 : GNet) (x3 : List (Gr × List GFrame)) (g3 : Gr) (g4 : Gr) : PF.St := ⟨[(3, .ptr 103 0), (4, .ptr 104 0), (5, .arw 100001 (List.length x3) 1 false), (7, .ptr 107 0), (8, iav r3)], [(107, ⟨true, [iav A0.N, .lst g3 (List.map GLink.av A0.Links)]⟩), (100001, ⟨true, (List.map (glv GFrame.av) x3)⟩), (104, ⟨true, GNet.cells x4⟩), (103, ⟨true, [iav t2.N, .lst g4 (List.map GLink.av t2.Links)]⟩), (101, ⟨true, GNet.cells i2⟩)]⟩
def r32_Step_3_rel (x4 : GNet) (t2 : GNet) (i2 : GNet) (r : (GNet × (List (Gr × List GFrame)))) (q : Ex × PF.St) : Prop := (fun r (q : Ex × PF.St) => ∃ g0', ∃ g1', q = ((.exit 2), ⟨[(3, .ptr 103 0), (5, .arw 100001 (List.length r.2) 1 false), (7, .ptr 107 0)], [(107, ⟨true, [iav r.1.N, .lst g0' (List.map GLink.av r.1.Links)]⟩), (100001, ⟨true, (List.map (glv GFrame.av) r.2)⟩), (104, ⟨true, GNet.cells x4⟩), (103, ⟨true, [iav t2.N, .lst g1' (List.map GLink.av t2.Links)]⟩), (101, ⟨true, GNet.cells i2⟩)]⟩) ∧ Mg 2 g0' ∧ Mg 2 g1') r q
def r32_Step_3_inv (x4 : GNet) (t2 : GNet) (i2 : GNet) (v : Int × GNet × (List (Gr × List GFrame))) (e : PF.St) : Prop := ∃ g3, ∃ g4, e = r32_Step_3_st x4 t2 i2 v.1 v.2.1 v.2.2 g3 g4 ∧ Mg 2 g3 ∧ Mg 2 g4
theorem r32_Step_3_sim (x4 : GNet) (t2 : GNet) (i2 : GNet) (r3 : Int) (A0 : GNet) (x3 : List (Gr × List GFrame)) (g3 : Gr) (hg3 : Mg 2 g3) (g4 : Gr) (hg4 : Mg 2 g4) (s : PF.St) (hk : keep [3, 4, 5, 7, 8] [101, 103, 104, 107, 100001] s = some (r32_Step_3_st x4 t2 i2 r3 A0 x3 g3 g4)) : Sim (r32_Step_3 x4 t2 i2 r3 A0 x3) (Gv (r32_Step_3_rel x4 t2 i2)) (LM.loop ([3, 4, 5, 7, 8], [101, 103, 104, 107, 100001], [3, 5, 7], B_r32_Step_3) s) := by
  refine sim_loop M XE (r32_Step_3_inv x4 t2 i2) (r32_Step_3_rel x4 t2 i2) ?_ _ _ _ hk ⟨g3, g4, rfl, hg3, hg4⟩
  clear hk hg3 hg4
  rintro S hS hw hw8 R hR ⟨r3, A0, x3⟩ env hp ⟨g3, g4, he, hg3, hg4⟩
  change (⟨env, hp⟩ : PF.St) = r32_Step_3_st x4 t2 i2 r3 A0 x3 g3 g4 at he
  cases he
  show Sim (r32_Step_3_step x4 t2 i2 r3 A0 x3) _ _
  unfold r32_Step_3_step
  simp only [hw]
  refine au (.ite Iff.rfl (fun hc2 => ?_) fun hc2 => ?_)
  · refine au ?_
    refine Sim.callL hR (r32_Step_2_sim r3 x4 t2 i2 0 A0 x3 g3 hg3 g4 hg4 _ (keep_eq rfl rfl rfl (okH_cons rfl (okH_flat (Flat.map (fun _ => rfl) _) (okH_cons rfl (okH_cons rfl (okH_cons rfl (okH_nil _)))))))) ?_
    rintro r10 q ⟨g11, g12, rfl, hg11, hg12⟩
    refine au ?_
    exact Sim.ret ⟨_, _, rfl, (keep_eq rfl rfl rfl (okH_cons rfl (okH_flat (Flat.map (fun _ => rfl) _) (okH_cons rfl (okH_cons rfl (okH_cons rfl (okH_nil _))))))), ⟨_, _, rfl, hg11, hg12⟩⟩
  · refine au ?_
    refine Sim.go (keep_eq rfl rfl rfl (okH_cons rfl (okH_flat (Flat.map (fun _ => rfl) _) (okH_cons rfl (okH_cons rfl (okH_cons rfl (okH_nil _))))))) ?_
    refine au ?_
    exact Sim.ret ⟨_, rfl, ⟨_, _, rfl, hg3, hg4⟩⟩
noncomputable def r32_Step (L0 : GNet) : Option ((List (List GFrame)) × GNet) :=
  (r32_well L0).bind fun r0 =>
  (r32_Step_0 r0 (GNet.mk 0 ([] : List GLink)) L0 0 ([] : List (Gr × List GFrame))).bind fun r2 =>
  (r32_Step_3 r0 (GNet.mk 0 ([] : List GLink)) L0 0 (GNet.mk r0.N ([] : List GLink)) r2).bind fun r11 =>
  (sub? r11.2 0 (List.length r11.2)).bind fun l2 =>
  some ((List.map Prod.snd l2), r11.1)
theorem r32_Step_sim (L0 : GNet) : Sim (r32_Step L0) (Gv fun r q => q = (.tup [lav (lav GFrame.av) r.1, GNet.av r.2], [])) (LM.call n_r32_Step [GNet.av L0] []) := by
  unfold r32_Step
  refine sim_evR M XE rfl rfl fun S hS hw hw8 R hR => ?_
  refine au (cE hR (r32_well_sim _) fun r0 => ?_)
  refine au ?_
  refine Sim.callL hR (r32_Step_0_sim r0 (GNet.mk 0 ([] : List GLink)) L0 0 ([] : List (Gr × List GFrame)) .full Mg.full _ (keep_eq rfl rfl rfl (okH_flat (Flat.map (fun _ => rfl) _) (okH_cons rfl (okH_cons rfl (okH_cons rfl (okH_nil _))))))) ?_
  rintro r2 q ⟨g2, rfl, hg2⟩
  refine au ?_
  refine Sim.callL hR (r32_Step_3_sim r0 (GNet.mk 0 ([] : List GLink)) L0 0 (GNet.mk r0.N ([] : List GLink)) r2 .full Mg.full g2 hg2 _ (keep_eq rfl rfl rfl (okH_cons rfl (okH_flat (Flat.map (fun _ => rfl) _) (okH_cons rfl (okH_cons rfl (okH_cons rfl (okH_nil _)))))))) ?_
  rintro r11 q ⟨g13, g14, rfl, hg13, hg14⟩
  refine au ?_
  refine Sim.opt (elems_mapP Prod.snd (g := (lav GFrame.av)) (b := 0) (fun _ => ⟨rfl, rfl⟩) (by omega)) (fun l2 _ => ?_)
  exact au (.ret ⟨_, rfl, rfl⟩)
noncomputable def r08_Same_0_step (a2 : List GItem) (b2 : List GItem) (i0 : Int) : Option ((Int) ⊕ ((Bool) ⊕ (Unit))) :=
  if i0 < (List.length a2 : Int) then
    (idx? a2 i0).bind fun z0 =>
    (idx? b2 i0).bind fun z2 =>
    if (!(decide (z0.Age = z2.Age) && (decide (z0.Wait = z2.Wait) && (decide (z0.Bytes = z2.Bytes) && true)))) = true then
      some (.inr (.inl false))
    else
      some (.inl (wr (i0 + 1)))
  else
    some (.inr (.inr ()))
noncomputable def r08_Same_0 (a2 : List GItem) (b2 : List GItem) (i0 : Int) : Option ((Bool) ⊕ (Unit)) :=
  loopO (fun s : Int => r08_Same_0_step a2 b2 s) i0
@[reducible] def r08_Same_0_st (a2 : List GItem) (b2 : List GItem) (i0 : Int) : PF.St := ⟨[(0, lav GItem.av a2), (1, lav GItem.av b2), (5, iav i0)], []⟩
def r08_Same_0_rel (a2 : List GItem) (b2 : List GItem) (r : ((Bool) ⊕ (Unit))) (q : Ex × PF.St) : Prop := (fun r (q : Ex × PF.St) => Sum.elim (fun r => (fun r (q : Ex × PF.St) => q = (Ex.ret, ⟨[(4, .bool r)], []⟩)) r q) (fun r => (fun r (q : Ex × PF.St) => q = ((.exit 0), ⟨[(4, .undef)], []⟩)) r q) r) r q
def r08_Same_0_inv (a2 : List GItem) (b2 : List GItem) (v : Int) (e : PF.St) : Prop := e = r08_Same_0_st a2 b2 v
theorem r08_Same_0_sim (a2 : List GItem) (b2 : List GItem) (i0 : Int) (s : PF.St) (hk : keep [0, 1, 5] [] s = some (r08_Same_0_st a2 b2 i0)) : Sim (r08_Same_0 a2 b2 i0) (Gv (r08_Same_0_rel a2 b2)) (LM.loop ([0, 1, 5], [], [4], B_r08_Same_0) s) := by
  refine sim_loop M XE (r08_Same_0_inv a2 b2) (r08_Same_0_rel a2 b2) ?_ _ _ _ hk rfl
  clear hk
  rintro S hS hw hw8 R hR i0 env hp he
  change (⟨env, hp⟩ : PF.St) = r08_Same_0_st a2 b2 i0 at he
  cases he
  show Sim (r08_Same_0_step a2 b2 i0) _ _
  unfold r08_Same_0_step
  simp only [hw]
  refine au ?_
  refine Sim.ki hS (m := (List.length a2 : Int)) (by simp) ?_
  refine au (.ite Iff.rfl (fun hc2 => ?_) fun hc2 => ?_)
  · refine au ?_
    refine Sim.ix (by simp) (fun z0 hz0 => ?_)
    refine au ?_
    refine Sim.go (idx_map _ hz0) ?_
    refine au ?_
    refine Sim.ix (by simp) (fun z2 hz2 => ?_)
    refine au ?_
    refine Sim.go (idx_map _ hz2) ?_
    refine au (.iteB (fun hc3 => ?_) fun hc3 => ?_)
    · exact au (.ret ⟨_, rfl, rfl⟩)
    · refine au ?_
      exact Sim.ret ⟨_, _, rfl, rfl, rfl⟩
  · exact au (.ret ⟨_, rfl, rfl⟩)
noncomputable def r08_Same (a0 : List GItem) (b0 : List GItem) : Option Bool :=
  if (List.length a0 : Int) ≠ (List.length b0 : Int) then
    some false
  else
    (r08_Same_0 a0 b0 0).bind fun r0 =>
    Sum.elim
      (fun r2 =>
        some r2)
      (fun r3 =>
        some true)
      r0
theorem r08_Same_sim (a0 : List GItem) (b0 : List GItem) : Sim (r08_Same a0 b0) (Gv fun r q => q = (.bool r, [])) (LM.call n_r08_Same [lav GItem.av a0, lav GItem.av b0] []) := by
  unfold r08_Same
  refine sim_evR M XE rfl rfl fun S hS hw hw8 R hR => ?_
  refine au ?_
  refine Sim.ki hS (m := (List.length a0 : Int)) (by simp) ?_
  refine au ?_
  refine Sim.ki hS (m := (List.length b0 : Int)) (by simp) ?_
  refine au (.ite Iff.rfl (fun hc => ?_) fun hc => ?_)
  · exact au (.ret ⟨_, rfl, rfl⟩)
  · refine au ?_
    refine Sim.callL hR (r08_Same_0_sim a0 b0 0 _ rfl) ?_
    rintro r0 q hr
    rcases r0 with r2 | r3
    · cases hr
      exact au (.ret ⟨_, rfl, rfl⟩)
    · cases hr
      exact au (.ret ⟨_, rfl, rfl⟩)
noncomputable def r31_Same (a0 : GLink) (b0 : GLink) : Option Bool :=
  if a0.Lost = b0.Lost then
    (r08_Same a0.Queue b0.Queue).bind fun r0 =>
    some r0
  else
    some false
theorem r31_Same_sim (a0 : GLink) (b0 : GLink) : Sim (r31_Same a0 b0) (Gv fun r q => q = (.bool r, [])) (LM.call n_r31_Same [GLink.av a0, GLink.av b0] []) := by
  unfold r31_Same
  refine sim_evR M XE rfl rfl fun S hS hw hw8 R hR => ?_
  refine au (.ite Iff.rfl (fun hc => ?_) fun hc => ?_)
  · refine au (cE hR (r08_Same_sim _ _) fun r0 => ?_)
    exact au (.ret ⟨_, rfl, rfl⟩)
  · exact au (.ret ⟨_, rfl, rfl⟩)
noncomputable def r32_Same_0_step (b2 : GNet) (a2 : GNet) (i0 : Int) : Option ((Int) ⊕ ((Bool) ⊕ (Unit))) :=
  if i0 < (List.length a2.Links : Int) then
    (idx? a2.Links i0).bind fun z0 =>
    (idx? b2.Links i0).bind fun z2 =>
    (r31_Same z0 z2).bind fun r0 =>
    if (!r0) = true then
      some (.inr (.inl false))
    else
      some (.inl (wr (i0 + 1)))
  else
    some (.inr (.inr ()))
noncomputable def r32_Same_0 (b2 : GNet) (a2 : GNet) (i0 : Int) : Option ((Bool) ⊕ (Unit)) :=
  loopO (fun s : Int => r32_Same_0_step b2 a2 s) i0
@[reducible] def r32_Same_0_st (b2 : GNet) (a2 : GNet) (i0 : Int) : PF.St := ⟨[(2, .ptr 102 0), (3, .ptr 103 0), (5, iav i0)], [(103, ⟨true, GNet.cells b2⟩), (102, ⟨true, GNet.cells a2⟩)]⟩
def r32_Same_0_rel (b2 : GNet) (a2 : GNet) (r : ((Bool) ⊕ (Unit))) (q : Ex × PF.St) : Prop := (fun r (q : Ex × PF.St) => Sum.elim (fun r => (fun r (q : Ex × PF.St) => q = (Ex.ret, ⟨[(4, .bool r)], [(103, ⟨true, GNet.cells b2⟩), (102, ⟨true, GNet.cells a2⟩)]⟩)) r q) (fun r => (fun r (q : Ex × PF.St) => q = ((.exit 0), ⟨[(4, .undef)], [(103, ⟨true, GNet.cells b2⟩), (102, ⟨true, GNet.cells a2⟩)]⟩)) r q) r) r q
def r32_Same_0_inv (b2 : GNet) (a2 : GNet) (v : Int) (e : PF.St) : Prop := e = r32_Same_0_st b2 a2 v
theorem r32_Same_0_sim (b2 : GNet) (a2 : GNet) (i0 : Int) (s : PF.St) (hk : keep [2, 3, 5] [102, 103] s = some (r32_Same_0_st b2 a2 i0)) : Sim (r32_Same_0 b2 a2 i0) (Gv (r32_Same_0_rel b2 a2)) (LM.loop ([2, 3, 5], [102, 103], [4], B_r32_Same_0) s) := by
  refine sim_loop M XE (r32_Same_0_inv b2 a2) (r32_Same_0_rel b2 a2) ?_ _ _ _ hk rfl
  clear hk
  rintro S hS hw hw8 R hR i0 env hp he
  change (⟨env, hp⟩ : PF.St) = r32_Same_0_st b2 a2 i0 at he
  cases he
  show Sim (r32_Same_0_step b2 a2 i0) _ _
  unfold r32_Same_0_step
  simp only [hw]
  refine au ?_
  refine Sim.ki hS (m := (List.length a2.Links : Int)) (by simp) ?_
  refine au (.ite Iff.rfl (fun hc3 => ?_) fun hc3 => ?_)
  · refine au ?_
    refine Sim.ix (by simp) (fun z0 hz0 => ?_)
    refine au ?_
    refine Sim.go (idx_map _ hz0) ?_
    refine au ?_
    refine Sim.ix (by simp) (fun z2 hz2 => ?_)
    refine au ?_
    refine Sim.go (idx_map _ hz2) ?_
    refine au (cE hR (r31_Same_sim _ _) fun r0 => ?_)
    refine au (.iteB (fun hc4 => ?_) fun hc4 => ?_)
    · exact au (.ret ⟨_, rfl, rfl⟩)
    · refine au ?_
      exact Sim.ret ⟨_, _, rfl, rfl, rfl⟩
  · exact au (.ret ⟨_, rfl, rfl⟩)
noncomputable def r32_Same (a0 : GNet) (b0 : GNet) : Option Bool :=
  if a0.N ≠ b0.N then
    some false
  else
    if (List.length a0.Links : Int) ≠ (List.length b0.Links : Int) then
      some false
    else
      (r32_Same_0 b0 a0 0).bind fun r2 =>
      Sum.elim
        (fun r3 =>
          some r3)
        (fun r4 =>
          some true)
        r2
theorem r32_Same_sim (a0 : GNet) (b0 : GNet) : Sim (r32_Same a0 b0) (Gv fun r q => q = (.bool r, [])) (LM.call n_r32_Same [GNet.av a0, GNet.av b0] []) := by
  unfold r32_Same
  refine sim_evR M XE rfl rfl fun S hS hw hw8 R hR => ?_
  refine au (.ite Iff.rfl (fun hc => ?_) fun hc => ?_)
  · exact au (.ret ⟨_, rfl, rfl⟩)
  · refine au ?_
    refine Sim.ki hS (m := (List.length a0.Links : Int)) (by simp) ?_
    refine au ?_
    refine Sim.ki hS (m := (List.length b0.Links : Int)) (by simp) ?_
    refine au (.ite Iff.rfl (fun hc2 => ?_) fun hc2 => ?_)
    · exact au (.ret ⟨_, rfl, rfl⟩)
    · refine au ?_
      refine Sim.callL hR (r32_Same_0_sim b0 a0 0 _ rfl) ?_
      rintro r2 q hr
      rcases r2 with r3 | r4
      · cases hr
        exact au (.ret ⟨_, rfl, rfl⟩)
      · cases hr
        exact au (.ret ⟨_, rfl, rfl⟩)
noncomputable def r32_Lost_0_step (t0 : GNet) (raw2 : GNet) (n0 : Int) (i0 : Int) : Option ((Int × Int) ⊕ Int) :=
  if i0 < (List.length t0.Links : Int) then
    (idx? t0.Links i0).bind fun z0 =>
    (r01_Clamp z0.Lost 0 65535).bind fun r2 =>
    some (.inl ((wr (n0 + r2)), (wr (i0 + 1))))
  else
    some (.inr n0)
noncomputable def r32_Lost_0 (t0 : GNet) (raw2 : GNet) (n0 : Int) (i0 : Int) : Option Int :=
  loopO (fun s : Int × Int => r32_Lost_0_step t0 raw2 s.1 s.2) (n0, i0)
@[reducible] def r32_Lost_0_st (t0 : GNet) (raw2 : GNet) (n0 : Int) (i0 : Int) : PF.St := ⟨[(3, .ptr 103 0), (4, iav n0), (5, iav i0)], [(103, ⟨true, GNet.cells t0⟩), (101, ⟨true, GNet.cells raw2⟩)]⟩
def r32_Lost_0_rel (t0 : GNet) (raw2 : GNet) (r : Int) (q : Ex × PF.St) : Prop := (fun r (q : Ex × PF.St) => q = ((.exit 0), ⟨[(4, iav r)], [(103, ⟨true, GNet.cells t0⟩), (101, ⟨true, GNet.cells raw2⟩)]⟩)) r q
def r32_Lost_0_inv (t0 : GNet) (raw2 : GNet) (v : Int × Int) (e : PF.St) : Prop := e = r32_Lost_0_st t0 raw2 v.1 v.2
theorem r32_Lost_0_sim (t0 : GNet) (raw2 : GNet) (n0 : Int) (i0 : Int) (s : PF.St) (hk : keep [3, 4, 5] [101, 103] s = some (r32_Lost_0_st t0 raw2 n0 i0)) : Sim (r32_Lost_0 t0 raw2 n0 i0) (Gv (r32_Lost_0_rel t0 raw2)) (LM.loop ([3, 4, 5], [101, 103], [4], B_r32_Lost_0) s) := by
  refine sim_loop M XE (r32_Lost_0_inv t0 raw2) (r32_Lost_0_rel t0 raw2) ?_ _ _ _ hk rfl
  clear hk
  rintro S hS hw hw8 R hR ⟨n0, i0⟩ env hp he
  change (⟨env, hp⟩ : PF.St) = r32_Lost_0_st t0 raw2 n0 i0 at he
  cases he
  show Sim (r32_Lost_0_step t0 raw2 n0 i0) _ _
  unfold r32_Lost_0_step
  simp only [hw]
  refine au ?_
  refine Sim.ki hS (m := (List.length t0.Links : Int)) (by simp) ?_
  refine au (.ite Iff.rfl (fun hc => ?_) fun hc => ?_)
  · refine au ?_
    refine Sim.ix (by simp) (fun z0 hz0 => ?_)
    refine au ?_
    refine Sim.go (idx_map _ hz0) ?_
    refine au (cE hR (r01_Clamp_sim _ _ _) fun r2 => ?_)
    refine au ?_
    exact Sim.ret ⟨_, _, rfl, rfl, rfl⟩
  · exact au (.ret ⟨_, rfl, rfl⟩)
noncomputable def r32_Lost (raw : GNet) : Option Int :=
  (r32_well raw).bind fun r0 =>
  (r32_Lost_0 r0 raw 0 0).bind fun r3 =>
  some r3
theorem r32_Lost_sim (raw : GNet) : Sim (r32_Lost raw) (Gv fun r q => q = (iav r, [])) (LM.call n_r32_Lost [GNet.av raw] []) := by
  unfold r32_Lost
  refine sim_evR M XE rfl rfl fun S hS hw hw8 R hR => ?_
  refine au (cE hR (r32_well_sim _) fun r0 => ?_)
  refine au ?_
  refine Sim.callL hR (r32_Lost_0_sim r0 raw 0 0 _ rfl) ?_
  rintro r3 q rfl
  exact au (.ret ⟨_, rfl, rfl⟩)
noncomputable def l32_NetSteps (t0 : GNet) : Option Bool :=
  (r32_Few t0).bind fun r0 =>
  if (!r0) = true then
    (l32_known).bind fun r2 =>
    some r2
  else
    (net_Step t0).bind fun r3 =>
    (r32_Step t0).bind fun r4 =>
    (r32_All r3.1 r4.1).bind fun r5 =>
    if r5 = true then
      (r32_Same r3.2 r4.2).bind fun r6 =>
      if r6 = true then
        (net_Lost t0).bind fun r7 =>
        (r32_Lost t0).bind fun r8 =>
        if r7 = r8 then
          (l32_known).bind fun r9 =>
          some r9
        else
          some false
      else
        some false
    else
      some false
theorem l32_NetSteps_sim (t0 : GNet) : Sim (l32_NetSteps t0) (Gv fun r q => q = (.bool r, [])) (LM.call n_l32_NetSteps [GNet.av t0] []) := by
  unfold l32_NetSteps
  refine sim_evR M XE rfl rfl fun S hS hw hw8 R hR => ?_
  refine au (cE hR (r32_Few_sim _) fun r0 => ?_)
  refine au (.iteB (fun hc => ?_) fun hc => ?_)
  · refine au (cE hR (l32_known_sim) fun r2 => ?_)
    exact au (.ret ⟨_, rfl, rfl⟩)
  · refine au (cE hR (net_Step_sim _) fun r3 => ?_)
    refine au (cE hR (r32_Step_sim _) fun r4 => ?_)
    refine au (cE hR (r32_All_sim _ _) fun r5 => ?_)
    refine au (.iteB (fun hc2 => ?_) fun hc2 => ?_)
    · refine au (cE hR (r32_Same_sim _ _) fun r6 => ?_)
      refine au (.iteB (fun hc3 => ?_) fun hc3 => ?_)
      · refine au (cE hR (net_Lost_sim _) fun r7 => ?_)
        refine au (cE hR (r32_Lost_sim _) fun r8 => ?_)
        refine au (.ite Iff.rfl (fun hc4 => ?_) fun hc4 => ?_)
        · refine au (cE hR (l32_known_sim) fun r9 => ?_)
          exact au (.ret ⟨_, rfl, rfl⟩)
        · exact au (.ret ⟨_, rfl, rfl⟩)
      · exact au (.ret ⟨_, rfl, rfl⟩)
    · exact au (.ret ⟨_, rfl, rfl⟩)
noncomputable def l32_NetBrings_0_step (i3 : Int) (s3 : List Int) (A2 : Int) (t2 : GNet) (r9 : Int) : Option ((Int) ⊕ ((Bool) ⊕ (Unit))) :=
  (idx? t2.Links A2).bind fun z0 =>
  if r9 < (List.length z0.Queue : Int) then
    (idx? t2.Links A2).bind fun z2 =>
    (idx? z2.Queue r9).bind fun z3 =>
    if z3.Bytes = ([35] : List UInt8) then
      (l32_known).bind fun r10 =>
      some (.inr (.inl r10))
    else
      some (.inl (wr (r9 + 1)))
  else
    some (.inr (.inr ()))
noncomputable def l32_NetBrings_0 (i3 : Int) (s3 : List Int) (A2 : Int) (t2 : GNet) (r9 : Int) : Option ((Bool) ⊕ (Unit)) :=
  loopO (fun s : Int => l32_NetBrings_0_step i3 s3 A2 t2 s) r9
@[reducible] def l32_NetBrings_0_st (i3 : Int) (s3 : List Int) (A2 : Int) (t2 : GNet) (r9 : Int) : PF.St := ⟨[(1, iav i3), (2, lav iav s3), (3, .ptr 103 0), (7, iav A2), (8, iav r9)], [(103, ⟨true, GNet.cells t2⟩)]⟩
def l32_NetBrings_0_rel (i3 : Int) (s3 : List Int) (A2 : Int) (t2 : GNet) (r : ((Bool) ⊕ (Unit))) (q : Ex × PF.St) : Prop := (fun r (q : Ex × PF.St) => Sum.elim (fun r => (fun r (q : Ex × PF.St) => q = (Ex.ret, ⟨[(1, iav i3), (2, lav iav s3), (3, .ptr 103 0), (6, .bool r), (7, iav A2)], [(103, ⟨true, GNet.cells t2⟩)]⟩)) r q) (fun r => (fun r (q : Ex × PF.St) => q = ((.exit 2), ⟨[(1, iav i3), (2, lav iav s3), (3, .ptr 103 0), (6, .undef), (7, iav A2)], [(103, ⟨true, GNet.cells t2⟩)]⟩)) r q) r) r q
def l32_NetBrings_0_inv (i3 : Int) (s3 : List Int) (A2 : Int) (t2 : GNet) (v : Int) (e : PF.St) : Prop := e = l32_NetBrings_0_st i3 s3 A2 t2 v
theorem l32_NetBrings_0_sim (i3 : Int) (s3 : List Int) (A2 : Int) (t2 : GNet) (r9 : Int) (s : PF.St) (hk : keep [1, 2, 3, 7, 8] [103] s = some (l32_NetBrings_0_st i3 s3 A2 t2 r9)) : Sim (l32_NetBrings_0 i3 s3 A2 t2 r9) (Gv (l32_NetBrings_0_rel i3 s3 A2 t2)) (LM.loop ([1, 2, 3, 7, 8], [103], [1, 2, 3, 6, 7], B_l32_NetBrings_0) s) := by
  refine sim_loop M XE (l32_NetBrings_0_inv i3 s3 A2 t2) (l32_NetBrings_0_rel i3 s3 A2 t2) ?_ _ _ _ hk rfl
  clear hk
  rintro S hS hw hw8 R hR r9 env hp he
  change (⟨env, hp⟩ : PF.St) = l32_NetBrings_0_st i3 s3 A2 t2 r9 at he
  cases he
  show Sim (l32_NetBrings_0_step i3 s3 A2 t2 r9) _ _
  unfold l32_NetBrings_0_step
  simp only [hw]
  refine au ?_
  refine Sim.ix (by simp) (fun z0 hz0 => ?_)
  refine au ?_
  refine Sim.go (idx_map _ hz0) ?_
  refine au ?_
  refine Sim.ki hS (m := (List.length z0.Queue : Int)) (by simp) ?_
  refine au (.ite Iff.rfl (fun hc9 => ?_) fun hc9 => ?_)
  · refine au ?_
    refine Sim.ix (by simp) (fun z2 hz2 => ?_)
    refine au ?_
    refine Sim.go (idx_map _ hz2) ?_
    refine au ?_
    refine Sim.ix (by simp) (fun z3 hz3 => ?_)
    refine au ?_
    refine Sim.go (idx_map _ hz3) ?_
    refine au (.ite Iff.rfl (fun hc10 => ?_) fun hc10 => ?_)
    · refine au (cE hR (l32_known_sim) fun r10 => ?_)
      exact au (.ret ⟨_, rfl, rfl⟩)
    · refine au ?_
      exact Sim.ret ⟨_, _, rfl, rfl, rfl⟩
  · exact au (.ret ⟨_, rfl, rfl⟩)
noncomputable def l32_NetBrings_1_step (i2 : Int) (s2 : List Int) (t0 : GNet) (A0 : Int) : Option ((Int) ⊕ ((Bool) ⊕ (Unit))) :=
  if A0 < (List.length t0.Links : Int) then
    (l32_NetBrings_0 i2 s2 A0 t0 0).bind fun r11 =>
    Sum.elim
      (fun r12 =>
        some (.inr (.inl r12)))
      (fun r13 =>
        some (.inl (wr (A0 + 1))))
      r11
  else
    some (.inr (.inr ()))
noncomputable def l32_NetBrings_1 (i2 : Int) (s2 : List Int) (t0 : GNet) (A0 : Int) : Option ((Bool) ⊕ (Unit)) :=
  loopO (fun s : Int => l32_NetBrings_1_step i2 s2 t0 s) A0
@[reducible] def l32_NetBrings_1_st (i2 : Int) (s2 : List Int) (t0 : GNet) (A0 : Int) : PF.St := ⟨[(1, iav i2), (2, lav iav s2), (3, .ptr 103 0), (7, iav A0)], [(103, ⟨true, GNet.cells t0⟩)]⟩
def l32_NetBrings_1_rel (i2 : Int) (s2 : List Int) (t0 : GNet) (r : ((Bool) ⊕ (Unit))) (q : Ex × PF.St) : Prop := (fun r (q : Ex × PF.St) => Sum.elim (fun r => (fun r (q : Ex × PF.St) => q = (Ex.ret, ⟨[(1, iav i2), (2, lav iav s2), (3, .ptr 103 0), (6, .bool r)], [(103, ⟨true, GNet.cells t0⟩)]⟩)) r q) (fun r => (fun r (q : Ex × PF.St) => q = ((.exit 0), ⟨[(1, iav i2), (2, lav iav s2), (3, .ptr 103 0), (6, .undef)], [(103, ⟨true, GNet.cells t0⟩)]⟩)) r q) r) r q
def l32_NetBrings_1_inv (i2 : Int) (s2 : List Int) (t0 : GNet) (v : Int) (e : PF.St) : Prop := e = l32_NetBrings_1_st i2 s2 t0 v
theorem l32_NetBrings_1_sim (i2 : Int) (s2 : List Int) (t0 : GNet) (A0 : Int) (s : PF.St) (hk : keep [1, 2, 3, 7] [103] s = some (l32_NetBrings_1_st i2 s2 t0 A0)) : Sim (l32_NetBrings_1 i2 s2 t0 A0) (Gv (l32_NetBrings_1_rel i2 s2 t0)) (LM.loop ([1, 2, 3, 7], [103], [1, 2, 3, 6], B_l32_NetBrings_1) s) := by
  refine sim_loop M XE (l32_NetBrings_1_inv i2 s2 t0) (l32_NetBrings_1_rel i2 s2 t0) ?_ _ _ _ hk rfl
  clear hk
  rintro S hS hw hw8 R hR A0 env hp he
  change (⟨env, hp⟩ : PF.St) = l32_NetBrings_1_st i2 s2 t0 A0 at he
  cases he
  show Sim (l32_NetBrings_1_step i2 s2 t0 A0) _ _
  unfold l32_NetBrings_1_step
  simp only [hw]
  refine au ?_
  refine Sim.ki hS (m := (List.length t0.Links : Int)) (by simp) ?_
  refine au (.ite Iff.rfl (fun hc8 => ?_) fun hc8 => ?_)
  · refine au ?_
    refine Sim.callL hR (l32_NetBrings_0_sim i2 s2 A0 t0 0 _ rfl) ?_
    rintro r11 q hr
    rcases r11 with r12 | r13
    · cases hr
      exact au (.ret ⟨_, rfl, rfl⟩)
    · cases hr
      refine au ?_
      exact Sim.ret ⟨_, _, rfl, rfl, rfl⟩
  · exact au (.ret ⟨_, rfl, rfl⟩)
noncomputable def l32_NetBrings_2_step (i6 : Int) (s6 : List Int) (a3 : Int) (y3 : Int) (x4 : List (List GFrame)) (x5 : Int) (x6 : Int) (x9 : GNet) (r21 : GNet) (t5 : GNet) (x7 : Int) (x8 : Int) : Option ((Int × Int) ⊕ ((Bool × Int) ⊕ (Int))) :=
  (idx? x4 x5).bind fun z5 =>
  if x8 < (List.length z5 : Int) then
    (idx? x4 x5).bind fun z6 =>
    (idx? z6 x8).bind fun z7 =>
    if z7.Bytes = ([35] : List UInt8) then
      (idx? x4 x5).bind fun z8 =>
      (idx? z8 x8).bind fun z9 =>
      if z9.From ≠ i6 then
        some (.inr (.inl (false, (wr (x7 + 1)))))
      else
        (idx? x4 x5).bind fun z10 =>
        (idx? z10 x8).bind fun z11 =>
        if z11.Age ≠ y3 then
          some (.inr (.inl (false, (wr (x7 + 1)))))
        else
          some (.inl ((wr (x7 + 1)), (wr (x8 + 1))))
    else
      some (.inl (x7, (wr (x8 + 1))))
  else
    some (.inr (.inr x7))
noncomputable def l32_NetBrings_2 (i6 : Int) (s6 : List Int) (a3 : Int) (y3 : Int) (x4 : List (List GFrame)) (x5 : Int) (x6 : Int) (x9 : GNet) (r21 : GNet) (t5 : GNet) (x7 : Int) (x8 : Int) : Option ((Bool × Int) ⊕ (Int)) :=
  loopO (fun s : Int × Int => l32_NetBrings_2_step i6 s6 a3 y3 x4 x5 x6 x9 r21 t5 s.1 s.2) (x7, x8)
@[reducible] def l32_NetBrings_2_st (i6 : Int) (s6 : List Int) (a3 : Int) (y3 : Int) (x4 : List (List GFrame)) (x5 : Int) (x6 : Int) (x9 : GNet) (r21 : GNet) (t5 : GNet) (x7 : Int) (x8 : Int) : PF.St := ⟨[(1, iav i6), (2, lav iav s6), (3, .ptr 103 0), (9, .ptr 109 0), (10, iav a3), (11, iav y3), (12, lav (lav GFrame.av) x4), (14, iav x5), (15, iav x6), (16, iav x7), (17, iav x8)], [(113, ⟨true, GNet.cells x9⟩), (109, ⟨true, GNet.cells r21⟩), (103, ⟨true, GNet.cells t5⟩)]⟩
def l32_NetBrings_2_rel (i6 : Int) (s6 : List Int) (a3 : Int) (y3 : Int) (x4 : List (List GFrame)) (x5 : Int) (x6 : Int) (x9 : GNet) (r21 : GNet) (t5 : GNet) (r : ((Bool × Int) ⊕ (Int))) (q : Ex × PF.St) : Prop := (fun r (q : Ex × PF.St) => Sum.elim (fun r => (fun r (q : Ex × PF.St) => q = (Ex.ret, ⟨[(1, iav i6), (2, lav iav s6), (3, .ptr 103 0), (6, .bool r.1), (9, .ptr 109 0), (10, iav a3), (11, iav y3), (12, lav (lav GFrame.av) x4), (14, iav x5), (15, iav x6), (16, iav r.2)], [(113, ⟨true, GNet.cells x9⟩), (109, ⟨true, GNet.cells r21⟩), (103, ⟨true, GNet.cells t5⟩)]⟩)) r q) (fun r => (fun r (q : Ex × PF.St) => q = ((.exit 8), ⟨[(1, iav i6), (2, lav iav s6), (3, .ptr 103 0), (6, .undef), (9, .ptr 109 0), (10, iav a3), (11, iav y3), (12, lav (lav GFrame.av) x4), (14, iav x5), (15, iav x6), (16, iav r)], [(113, ⟨true, GNet.cells x9⟩), (109, ⟨true, GNet.cells r21⟩), (103, ⟨true, GNet.cells t5⟩)]⟩)) r q) r) r q
def l32_NetBrings_2_inv (i6 : Int) (s6 : List Int) (a3 : Int) (y3 : Int) (x4 : List (List GFrame)) (x5 : Int) (x6 : Int) (x9 : GNet) (r21 : GNet) (t5 : GNet) (v : Int × Int) (e : PF.St) : Prop := e = l32_NetBrings_2_st i6 s6 a3 y3 x4 x5 x6 x9 r21 t5 v.1 v.2
theorem l32_NetBrings_2_sim (i6 : Int) (s6 : List Int) (a3 : Int) (y3 : Int) (x4 : List (List GFrame)) (x5 : Int) (x6 : Int) (x9 : GNet) (r21 : GNet) (t5 : GNet) (x7 : Int) (x8 : Int) (s : PF.St) (hk : keep [1, 2, 3, 9, 10, 11, 12, 14, 15, 16, 17] [103, 109, 113] s = some (l32_NetBrings_2_st i6 s6 a3 y3 x4 x5 x6 x9 r21 t5 x7 x8)) : Sim (l32_NetBrings_2 i6 s6 a3 y3 x4 x5 x6 x9 r21 t5 x7 x8) (Gv (l32_NetBrings_2_rel i6 s6 a3 y3 x4 x5 x6 x9 r21 t5)) (LM.loop ([1, 2, 3, 9, 10, 11, 12, 14, 15, 16, 17], [103, 109, 113], [1, 2, 3, 6, 9, 10, 11, 12, 14, 15, 16], B_l32_NetBrings_2) s) := by
  refine sim_loop M XE (l32_NetBrings_2_inv i6 s6 a3 y3 x4 x5 x6 x9 r21 t5) (l32_NetBrings_2_rel i6 s6 a3 y3 x4 x5 x6 x9 r21 t5) ?_ _ _ _ hk rfl
  clear hk
  rintro S hS hw hw8 R hR ⟨x7, x8⟩ env hp he
  change (⟨env, hp⟩ : PF.St) = l32_NetBrings_2_st i6 s6 a3 y3 x4 x5 x6 x9 r21 t5 x7 x8 at he
  cases he
  show Sim (l32_NetBrings_2_step i6 s6 a3 y3 x4 x5 x6 x9 r21 t5 x7 x8) _ _
  unfold l32_NetBrings_2_step
  simp only [hw]
  refine au ?_
  refine Sim.ix (by simp) (fun z5 hz5 => ?_)
  refine au ?_
  refine Sim.go (idx_map _ hz5) ?_
  refine au ?_
  refine Sim.ki hS (m := (List.length z5 : Int)) (by simp) ?_
  refine au (.ite Iff.rfl (fun hc15 => ?_) fun hc15 => ?_)
  · refine au ?_
    refine Sim.ix (by simp) (fun z6 hz6 => ?_)
    refine au ?_
    refine Sim.go (idx_map _ hz6) ?_
    refine au ?_
    refine Sim.ix (by simp) (fun z7 hz7 => ?_)
    refine au ?_
    refine Sim.go (idx_map _ hz7) ?_
    refine au (.ite Iff.rfl (fun hc16 => ?_) fun hc16 => ?_)
    · refine au ?_
      refine Sim.ix (by simp) (fun z8 hz8 => ?_)
      refine au ?_
      refine Sim.go (idx_map _ hz8) ?_
      refine au ?_
      refine Sim.ix (by simp) (fun z9 hz9 => ?_)
      refine au ?_
      refine Sim.go (idx_map _ hz9) ?_
      refine au (.ite Iff.rfl (fun hc17 => ?_) fun hc17 => ?_)
      · exact au (.ret ⟨_, rfl, rfl⟩)
      · refine au ?_
        refine Sim.ix (by simp) (fun z10 hz10 => ?_)
        refine au ?_
        refine Sim.go (idx_map _ hz10) ?_
        refine au ?_
        refine Sim.ix (by simp) (fun z11 hz11 => ?_)
        refine au ?_
        refine Sim.go (idx_map _ hz11) ?_
        refine au (.ite Iff.rfl (fun hc18 => ?_) fun hc18 => ?_)
        · exact au (.ret ⟨_, rfl, rfl⟩)
        · refine au ?_
          exact Sim.ret ⟨_, _, rfl, rfl, rfl⟩
    · refine au ?_
      exact Sim.ret ⟨_, _, rfl, rfl, rfl⟩
  · exact au (.ret ⟨_, rfl, rfl⟩)
noncomputable def l32_NetBrings_2a_step (i7 : Int) (s7 : List Int) (a4 : Int) (y4 : Int) (x10 : List (List GFrame)) (x11 : Int) (x12 : Int) (x15 : GNet) (r25 : GNet) (t6 : GNet) (x13 : Int) (x14 : Int) : Option ((Int × Int) ⊕ ((Bool × Int) ⊕ (Int))) :=
  (idx? x10 x11).bind fun z12 =>
  if x14 < (List.length z12 : Int) then
    (idx? x10 x11).bind fun z13 =>
    (idx? z13 x14).bind fun z14 =>
    if z14.Bytes = ([35] : List UInt8) then
      (idx? x10 x11).bind fun z15 =>
      (idx? z15 x14).bind fun z16 =>
      if z16.From ≠ i7 then
        some (.inr (.inl (false, (wr (x13 + 1)))))
      else
        (idx? x10 x11).bind fun z17 =>
        (idx? z17 x14).bind fun z18 =>
        if z18.Age ≠ y4 then
          some (.inr (.inl (false, (wr (x13 + 1)))))
        else
          some (.inl ((wr (x13 + 1)), (wr (x14 + 1))))
    else
      some (.inl (x13, (wr (x14 + 1))))
  else
    some (.inr (.inr x13))
noncomputable def l32_NetBrings_2a (i7 : Int) (s7 : List Int) (a4 : Int) (y4 : Int) (x10 : List (List GFrame)) (x11 : Int) (x12 : Int) (x15 : GNet) (r25 : GNet) (t6 : GNet) (x13 : Int) (x14 : Int) : Option ((Bool × Int) ⊕ (Int)) :=
  loopO (fun s : Int × Int => l32_NetBrings_2a_step i7 s7 a4 y4 x10 x11 x12 x15 r25 t6 s.1 s.2) (x13, x14)
@[reducible] def l32_NetBrings_2a_st (i7 : Int) (s7 : List Int) (a4 : Int) (y4 : Int) (x10 : List (List GFrame)) (x11 : Int) (x12 : Int) (x15 : GNet) (r25 : GNet) (t6 : GNet) (x13 : Int) (x14 : Int) : PF.St := ⟨[(1, iav i7), (2, lav iav s7), (3, .ptr 103 0), (9, .ptr 109 0), (10, iav a4), (11, iav y4), (12, lav (lav GFrame.av) x10), (14, iav x11), (15, iav x12), (16, iav x13), (17, iav x14)], [(113, ⟨true, GNet.cells x15⟩), (109, ⟨true, GNet.cells r25⟩), (103, ⟨true, GNet.cells t6⟩)]⟩
def l32_NetBrings_2a_rel (i7 : Int) (s7 : List Int) (a4 : Int) (y4 : Int) (x10 : List (List GFrame)) (x11 : Int) (x12 : Int) (x15 : GNet) (r25 : GNet) (t6 : GNet) (r : ((Bool × Int) ⊕ (Int))) (q : Ex × PF.St) : Prop := (fun r (q : Ex × PF.St) => Sum.elim (fun r => (fun r (q : Ex × PF.St) => q = (Ex.ret, ⟨[(1, iav i7), (2, lav iav s7), (3, .ptr 103 0), (6, .bool r.1), (9, .ptr 109 0), (10, iav a4), (11, iav y4), (12, lav (lav GFrame.av) x10), (14, iav x11), (15, iav x12), (16, iav r.2)], [(113, ⟨true, GNet.cells x15⟩), (109, ⟨true, GNet.cells r25⟩), (103, ⟨true, GNet.cells t6⟩)]⟩)) r q) (fun r => (fun r (q : Ex × PF.St) => q = ((.exit 8), ⟨[(1, iav i7), (2, lav iav s7), (3, .ptr 103 0), (6, .undef), (9, .ptr 109 0), (10, iav a4), (11, iav y4), (12, lav (lav GFrame.av) x10), (14, iav x11), (15, iav x12), (16, iav r)], [(113, ⟨true, GNet.cells x15⟩), (109, ⟨true, GNet.cells r25⟩), (103, ⟨true, GNet.cells t6⟩)]⟩)) r q) r) r q
def l32_NetBrings_2a_inv (i7 : Int) (s7 : List Int) (a4 : Int) (y4 : Int) (x10 : List (List GFrame)) (x11 : Int) (x12 : Int) (x15 : GNet) (r25 : GNet) (t6 : GNet) (v : Int × Int) (e : PF.St) : Prop := e = l32_NetBrings_2a_st i7 s7 a4 y4 x10 x11 x12 x15 r25 t6 v.1 v.2
theorem l32_NetBrings_2a_sim (i7 : Int) (s7 : List Int) (a4 : Int) (y4 : Int) (x10 : List (List GFrame)) (x11 : Int) (x12 : Int) (x15 : GNet) (r25 : GNet) (t6 : GNet) (x13 : Int) (x14 : Int) (s : PF.St) (hk : keep [1, 2, 3, 9, 10, 11, 12, 14, 15, 16, 17] [103, 109, 113] s = some (l32_NetBrings_2a_st i7 s7 a4 y4 x10 x11 x12 x15 r25 t6 x13 x14)) : Sim (l32_NetBrings_2a i7 s7 a4 y4 x10 x11 x12 x15 r25 t6 x13 x14) (Gv (l32_NetBrings_2a_rel i7 s7 a4 y4 x10 x11 x12 x15 r25 t6)) (LM.loop ([1, 2, 3, 9, 10, 11, 12, 14, 15, 16, 17], [103, 109, 113], [1, 2, 3, 6, 9, 10, 11, 12, 14, 15, 16], B_l32_NetBrings_2) s) := by
  refine sim_loop M XE (l32_NetBrings_2a_inv i7 s7 a4 y4 x10 x11 x12 x15 r25 t6) (l32_NetBrings_2a_rel i7 s7 a4 y4 x10 x11 x12 x15 r25 t6) ?_ _ _ _ hk rfl
  clear hk
  rintro S hS hw hw8 R hR ⟨x13, x14⟩ env hp he
  change (⟨env, hp⟩ : PF.St) = l32_NetBrings_2a_st i7 s7 a4 y4 x10 x11 x12 x15 r25 t6 x13 x14 at he
  cases he
  show Sim (l32_NetBrings_2a_step i7 s7 a4 y4 x10 x11 x12 x15 r25 t6 x13 x14) _ _
  unfold l32_NetBrings_2a_step
  simp only [hw]
  refine au ?_
  refine Sim.ix (by simp) (fun z12 hz12 => ?_)
  refine au ?_
  refine Sim.go (idx_map _ hz12) ?_
  refine au ?_
  refine Sim.ki hS (m := (List.length z12 : Int)) (by simp) ?_
  refine au (.ite Iff.rfl (fun hc21 => ?_) fun hc21 => ?_)
  · refine au ?_
    refine Sim.ix (by simp) (fun z13 hz13 => ?_)
    refine au ?_
    refine Sim.go (idx_map _ hz13) ?_
    refine au ?_
    refine Sim.ix (by simp) (fun z14 hz14 => ?_)
    refine au ?_
    refine Sim.go (idx_map _ hz14) ?_
    refine au (.ite Iff.rfl (fun hc22 => ?_) fun hc22 => ?_)
    · refine au ?_
      refine Sim.ix (by simp) (fun z15 hz15 => ?_)
      refine au ?_
      refine Sim.go (idx_map _ hz15) ?_
      refine au ?_
      refine Sim.ix (by simp) (fun z16 hz16 => ?_)
      refine au ?_
      refine Sim.go (idx_map _ hz16) ?_
      refine au (.ite Iff.rfl (fun hc23 => ?_) fun hc23 => ?_)
      · exact au (.ret ⟨_, rfl, rfl⟩)
      · refine au ?_
        refine Sim.ix (by simp) (fun z17 hz17 => ?_)
        refine au ?_
        refine Sim.go (idx_map _ hz17) ?_
        refine au ?_
        refine Sim.ix (by simp) (fun z18 hz18 => ?_)
        refine au ?_
        refine Sim.go (idx_map _ hz18) ?_
        refine au (.ite Iff.rfl (fun hc24 => ?_) fun hc24 => ?_)
        · exact au (.ret ⟨_, rfl, rfl⟩)
        · refine au ?_
          exact Sim.ret ⟨_, _, rfl, rfl, rfl⟩
    · refine au ?_
      exact Sim.ret ⟨_, _, rfl, rfl, rfl⟩
  · exact au (.ret ⟨_, rfl, rfl⟩)
noncomputable def l32_NetBrings_3_step (i5 : Int) (s5 : List Int) (y2 : Int) (x0 : List (List GFrame)) (x3 : GNet) (r20 : GNet) (t4 : GNet) (a2 : Int) (x2 : Int) : Option ((Int × Int) ⊕ ((Bool × Int) ⊕ (Int))) :=
  if x2 < t4.N then
    if x2 < (List.length s5 : Int) then
      (idx? s5 x2).bind fun z4 =>
      (l32_NetBrings_2 i5 s5 a2 y2 x0 x2 (max 1 (min z4 8)) x3 r20 t4 0 0).bind fun r22 =>
      Sum.elim
        (fun r23 =>
          some (.inr (.inl (r23.1, a2))))
        (fun r24 =>
          if ((decide (r24 = 1)) != (decide (y2 = (max 1 (min z4 8))))) = true then
            some (.inr (.inl (false, a2)))
          else
            if 1 < r24 then
              some (.inr (.inl (false, a2)))
            else
              some (.inl ((wr (a2 + r24)), (wr (x2 + 1)))))
        r22
    else
      (l32_NetBrings_2a i5 s5 a2 y2 x0 x2 1 x3 r20 t4 0 0).bind fun r26 =>
      Sum.elim
        (fun r27 =>
          some (.inr (.inl (r27.1, a2))))
        (fun r28 =>
          if ((decide (r28 = 1)) != (decide (y2 = 1))) = true then
            some (.inr (.inl (false, a2)))
          else
            if 1 < r28 then
              some (.inr (.inl (false, a2)))
            else
              some (.inl ((wr (a2 + r28)), (wr (x2 + 1)))))
        r26
  else
    some (.inr (.inr a2))
noncomputable def l32_NetBrings_3 (i5 : Int) (s5 : List Int) (y2 : Int) (x0 : List (List GFrame)) (x3 : GNet) (r20 : GNet) (t4 : GNet) (a2 : Int) (x2 : Int) : Option ((Bool × Int) ⊕ (Int)) :=
  loopO (fun s : Int × Int => l32_NetBrings_3_step i5 s5 y2 x0 x3 r20 t4 s.1 s.2) (a2, x2)
@[reducible] def l32_NetBrings_3_st (i5 : Int) (s5 : List Int) (y2 : Int) (x0 : List (List GFrame)) (x3 : GNet) (r20 : GNet) (t4 : GNet) (a2 : Int) (x2 : Int) : PF.St := ⟨[(1, iav i5), (2, lav iav s5), (3, .ptr 103 0), (9, .ptr 109 0), (10, iav a2), (11, iav y2), (12, lav (lav GFrame.av) x0), (14, iav x2)], [(113, ⟨true, GNet.cells x3⟩), (109, ⟨true, GNet.cells r20⟩), (103, ⟨true, GNet.cells t4⟩)]⟩
def l32_NetBrings_3_rel (i5 : Int) (s5 : List Int) (y2 : Int) (x0 : List (List GFrame)) (x3 : GNet) (r20 : GNet) (t4 : GNet) (r : ((Bool × Int) ⊕ (Int))) (q : Ex × PF.St) : Prop := (fun r (q : Ex × PF.St) => Sum.elim (fun r => (fun r (q : Ex × PF.St) => q = (Ex.ret, ⟨[(1, iav i5), (2, lav iav s5), (3, .ptr 103 0), (6, .bool r.1), (9, .ptr 109 0), (10, iav r.2), (11, iav y2)], [(113, ⟨true, GNet.cells x3⟩), (109, ⟨true, GNet.cells r20⟩), (103, ⟨true, GNet.cells t4⟩)]⟩)) r q) (fun r => (fun r (q : Ex × PF.St) => q = ((.exit 6), ⟨[(1, iav i5), (2, lav iav s5), (3, .ptr 103 0), (6, .undef), (9, .ptr 109 0), (10, iav r), (11, iav y2)], [(113, ⟨true, GNet.cells x3⟩), (109, ⟨true, GNet.cells r20⟩), (103, ⟨true, GNet.cells t4⟩)]⟩)) r q) r) r q
def l32_NetBrings_3_inv (i5 : Int) (s5 : List Int) (y2 : Int) (x0 : List (List GFrame)) (x3 : GNet) (r20 : GNet) (t4 : GNet) (v : Int × Int) (e : PF.St) : Prop := e = l32_NetBrings_3_st i5 s5 y2 x0 x3 r20 t4 v.1 v.2
theorem l32_NetBrings_3_sim (i5 : Int) (s5 : List Int) (y2 : Int) (x0 : List (List GFrame)) (x3 : GNet) (r20 : GNet) (t4 : GNet) (a2 : Int) (x2 : Int) (s : PF.St) (hk : keep [1, 2, 3, 9, 10, 11, 12, 14] [103, 109, 113] s = some (l32_NetBrings_3_st i5 s5 y2 x0 x3 r20 t4 a2 x2)) : Sim (l32_NetBrings_3 i5 s5 y2 x0 x3 r20 t4 a2 x2) (Gv (l32_NetBrings_3_rel i5 s5 y2 x0 x3 r20 t4)) (LM.loop ([1, 2, 3, 9, 10, 11, 12, 14], [103, 109, 113], [1, 2, 3, 6, 9, 10, 11], B_l32_NetBrings_3) s) := by
  refine sim_loop M XE (l32_NetBrings_3_inv i5 s5 y2 x0 x3 r20 t4) (l32_NetBrings_3_rel i5 s5 y2 x0 x3 r20 t4) ?_ _ _ _ hk rfl
  clear hk
  rintro S hS hw hw8 R hR ⟨a2, x2⟩ env hp he
  change (⟨env, hp⟩ : PF.St) = l32_NetBrings_3_st i5 s5 y2 x0 x3 r20 t4 a2 x2 at he
  cases he
  show Sim (l32_NetBrings_3_step i5 s5 y2 x0 x3 r20 t4 a2 x2) _ _
  unfold l32_NetBrings_3_step
  simp only [hw]
  refine au (.ite Iff.rfl (fun hc13 => ?_) fun hc13 => ?_)
  · refine au ?_
    refine Sim.ki hS (m := (List.length s5 : Int)) (by simp) ?_
    refine au (.ite Iff.rfl (fun hc14 => ?_) fun hc14 => ?_)
    · refine au ?_
      refine Sim.ix (by simp) (fun z4 hz4 => ?_)
      refine au ?_
      refine Sim.go (idx_map _ hz4) ?_
      refine au ?_
      refine Sim.callL hR (l32_NetBrings_2_sim i5 s5 a2 y2 x0 x2 (max 1 (min z4 8)) x3 r20 t4 0 0 _ rfl) ?_
      rintro r22 q hr
      rcases r22 with r23 | r24
      · cases hr
        exact au (.ret ⟨_, rfl, rfl⟩)
      · cases hr
        refine au (.iteB (fun hc19 => ?_) fun hc19 => ?_)
        · exact au (.ret ⟨_, rfl, rfl⟩)
        · refine au (.ite Iff.rfl (fun hc20 => ?_) fun hc20 => ?_)
          · exact au (.ret ⟨_, rfl, rfl⟩)
          · refine au ?_
            exact Sim.ret ⟨_, _, rfl, rfl, rfl⟩
    · refine au ?_
      refine Sim.callL hR (l32_NetBrings_2a_sim i5 s5 a2 y2 x0 x2 1 x3 r20 t4 0 0 _ rfl) ?_
      rintro r26 q hr
      rcases r26 with r27 | r28
      · cases hr
        exact au (.ret ⟨_, rfl, rfl⟩)
      · cases hr
        refine au (.iteB (fun hc25 => ?_) fun hc25 => ?_)
        · exact au (.ret ⟨_, rfl, rfl⟩)
        · refine au (.ite Iff.rfl (fun hc26 => ?_) fun hc26 => ?_)
          · exact au (.ret ⟨_, rfl, rfl⟩)
          · refine au ?_
            exact Sim.ret ⟨_, _, rfl, rfl, rfl⟩
  · exact au (.ret ⟨_, rfl, rfl⟩)
noncomputable def l32_NetBrings_4_step (i4 : Int) (s4 : List Int) (t3 : GNet) (a0 : Int) (y0 : Int) (r18 : GNet) : Option ((Int × Int × GNet) ⊕ ((Bool × Int × GNet) ⊕ (Int × GNet))) :=
  if y0 ≤ 8 then
    (net_Step r18).bind fun r19 =>
    if (List.length r19.1 : Int) ≠ t3.N then
      some (.inr (.inl (false, a0, r19.2)))
    else
      (l32_NetBrings_3 i4 s4 y0 r19.1 r19.2 r19.2 t3 a0 0).bind fun r29 =>
      Sum.elim
        (fun r30 =>
          some (.inr (.inl (r30.1, r30.2, r19.2))))
        (fun r31 =>
          some (.inl (r31, (wr (y0 + 1)), r19.2)))
        r29
  else
    some (.inr (.inr (a0, r18)))
noncomputable def l32_NetBrings_4 (i4 : Int) (s4 : List Int) (t3 : GNet) (a0 : Int) (y0 : Int) (r18 : GNet) : Option ((Bool × Int × GNet) ⊕ (Int × GNet)) :=
  loopO (fun s : Int × Int × GNet => l32_NetBrings_4_step i4 s4 t3 s.1 s.2.1 s.2.2) (a0, y0, r18)
@[reducible] def l32_NetBrings_4_st (i4 : Int) (s4 : List Int) (t3 : GNet) (a0 : Int) (y0 : Int) (r18 : GNet) : PF.St := ⟨[(1, iav i4), (2, lav iav s4), (3, .ptr 103 0), (9, .ptr 109 0), (10, iav a0), (11, iav y0)], [(109, ⟨true, GNet.cells r18⟩), (103, ⟨true, GNet.cells t3⟩)]⟩
def l32_NetBrings_4_rel (i4 : Int) (s4 : List Int) (t3 : GNet) (r : ((Bool × Int × GNet) ⊕ (Int × GNet))) (q : Ex × PF.St) : Prop := (fun r (q : Ex × PF.St) => Sum.elim (fun r => (fun r (q : Ex × PF.St) => q = (Ex.ret, ⟨[(3, .ptr 103 0), (6, .bool r.1), (10, iav r.2.1)], [(109, ⟨true, GNet.cells r.2.2⟩), (103, ⟨true, GNet.cells t3⟩)]⟩)) r q) (fun r => (fun r (q : Ex × PF.St) => q = ((.exit 4), ⟨[(3, .ptr 103 0), (6, .undef), (10, iav r.1)], [(109, ⟨true, GNet.cells r.2⟩), (103, ⟨true, GNet.cells t3⟩)]⟩)) r q) r) r q
def l32_NetBrings_4_inv (i4 : Int) (s4 : List Int) (t3 : GNet) (v : Int × Int × GNet) (e : PF.St) : Prop := e = l32_NetBrings_4_st i4 s4 t3 v.1 v.2.1 v.2.2
theorem l32_NetBrings_4_sim (i4 : Int) (s4 : List Int) (t3 : GNet) (a0 : Int) (y0 : Int) (r18 : GNet) (s : PF.St) (hk : keep [1, 2, 3, 9, 10, 11] [103, 109] s = some (l32_NetBrings_4_st i4 s4 t3 a0 y0 r18)) : Sim (l32_NetBrings_4 i4 s4 t3 a0 y0 r18) (Gv (l32_NetBrings_4_rel i4 s4 t3)) (LM.loop ([1, 2, 3, 9, 10, 11], [103, 109], [3, 6, 10], B_l32_NetBrings_4) s) := by
  refine sim_loop M XE (l32_NetBrings_4_inv i4 s4 t3) (l32_NetBrings_4_rel i4 s4 t3) ?_ _ _ _ hk rfl
  clear hk
  rintro S hS hw hw8 R hR ⟨a0, y0, r18⟩ env hp he
  change (⟨env, hp⟩ : PF.St) = l32_NetBrings_4_st i4 s4 t3 a0 y0 r18 at he
  cases he
  show Sim (l32_NetBrings_4_step i4 s4 t3 a0 y0 r18) _ _
  unfold l32_NetBrings_4_step
  simp only [hw]
  refine au (.ite Iff.rfl (fun hc11 => ?_) fun hc11 => ?_)
  · refine au (cE hR (net_Step_sim _) fun r19 => ?_)
    refine au ?_
    refine Sim.ki hS (m := (List.length r19.1 : Int)) (by simp) ?_
    refine au (.ite Iff.rfl (fun hc12 => ?_) fun hc12 => ?_)
    · exact au (.ret ⟨_, rfl, rfl⟩)
    · refine au ?_
      refine Sim.callL hR (l32_NetBrings_3_sim i4 s4 y0 r19.1 r19.2 r19.2 t3 a0 0 _ rfl) ?_
      rintro r29 q hr
      rcases r29 with r30 | r31
      · cases hr
        exact au (.ret ⟨_, rfl, rfl⟩)
      · cases hr
        refine au ?_
        exact Sim.ret ⟨_, _, rfl, rfl, rfl⟩
  · exact au (.ret ⟨_, rfl, rfl⟩)
noncomputable def l32_NetBrings (L0 : GNet) (i0 : Int) (s0 : List Int) : Option Bool :=
  (r32_Few L0).bind fun r0 =>
  if (!r0) = true then
    (l32_known).bind fun r2 =>
    some r2
  else
    if L0.N < 1 then
      (l32_known).bind fun r3 =>
      some r3
    else
      if 13 < L0.N then
        (l32_known).bind fun r4 =>
        some r4
      else
        if (List.length L0.Links : Int) ≠ (wr (L0.N * L0.N)) then
          (l32_known).bind fun r5 =>
          some r5
        else
          if i0 < 0 then
            (l32_known).bind fun r6 =>
            some r6
          else
            if L0.N ≤ i0 then
              (l32_known).bind fun r7 =>
              some r7
            else
              if 40 < (List.length s0 : Int) then
                (l32_known).bind fun r8 =>
                some r8
              else
                (l32_NetBrings_1 i0 s0 L0 0).bind fun r14 =>
                Sum.elim
                  (fun r15 =>
                    some r15)
                  (fun r16 =>
                    (net_Cast L0 i0 ([35] : List UInt8) s0).bind fun r17 =>
                    (l32_NetBrings_4 i0 s0 L0 0 1 r17).bind fun r32 =>
                    Sum.elim
                      (fun r33 =>
                        some r33.1)
                      (fun r34 =>
                        if r34.1 = L0.N then
                          (l32_known).bind fun r35 =>
                          some r35
                        else
                          some false)
                      r32)
                  r14
theorem l32_NetBrings_sim (L0 : GNet) (i0 : Int) (s0 : List Int) : Sim (l32_NetBrings L0 i0 s0) (Gv fun r q => q = (.bool r, [])) (LM.call n_l32_NetBrings [GNet.av L0, iav i0, lav iav s0] []) := by
  unfold l32_NetBrings
  refine sim_evR M XE rfl rfl fun S hS hw hw8 R hR => ?_
  simp only [hw]
  refine au (cE hR (r32_Few_sim _) fun r0 => ?_)
  refine au (.iteB (fun hc => ?_) fun hc => ?_)
  · refine au (cE hR (l32_known_sim) fun r2 => ?_)
    exact au (.ret ⟨_, rfl, rfl⟩)
  · refine au (.ite Iff.rfl (fun hc2 => ?_) fun hc2 => ?_)
    · refine au (cE hR (l32_known_sim) fun r3 => ?_)
      exact au (.ret ⟨_, rfl, rfl⟩)
    · refine au (.ite Iff.rfl (fun hc3 => ?_) fun hc3 => ?_)
      · refine au (cE hR (l32_known_sim) fun r4 => ?_)
        exact au (.ret ⟨_, rfl, rfl⟩)
      · refine au ?_
        refine Sim.ki hS (m := (List.length L0.Links : Int)) (by simp) ?_
        refine au (.ite Iff.rfl (fun hc4 => ?_) fun hc4 => ?_)
        · refine au (cE hR (l32_known_sim) fun r5 => ?_)
          exact au (.ret ⟨_, rfl, rfl⟩)
        · refine au (.ite Iff.rfl (fun hc5 => ?_) fun hc5 => ?_)
          · refine au (cE hR (l32_known_sim) fun r6 => ?_)
            exact au (.ret ⟨_, rfl, rfl⟩)
          · refine au (.ite Iff.rfl (fun hc6 => ?_) fun hc6 => ?_)
            · refine au (cE hR (l32_known_sim) fun r7 => ?_)
              exact au (.ret ⟨_, rfl, rfl⟩)
            · refine au ?_
              refine Sim.ki hS (m := (List.length s0 : Int)) (by simp) ?_
              refine au (.ite Iff.rfl (fun hc7 => ?_) fun hc7 => ?_)
              · refine au (cE hR (l32_known_sim) fun r8 => ?_)
                exact au (.ret ⟨_, rfl, rfl⟩)
              · refine au ?_
                refine Sim.callL hR (l32_NetBrings_1_sim i0 s0 L0 0 _ rfl) ?_
                rintro r14 q hr
                rcases r14 with r15 | r16
                · cases hr
                  exact au (.ret ⟨_, rfl, rfl⟩)
                · cases hr
                  refine au (cE hR (net_Cast_sim _ _ _ _) fun r17 => ?_)
                  refine au ?_
                  refine Sim.callL hR (l32_NetBrings_4_sim i0 s0 L0 0 1 r17 _ rfl) ?_
                  rintro r32 q hr
                  rcases r32 with r33 | r34
                  · cases hr
                    exact au (.ret ⟨_, rfl, rfl⟩)
                  · cases hr
                    refine au (.ite Iff.rfl (fun hc27 => ?_) fun hc27 => ?_)
                    · refine au (cE hR (l32_known_sim) fun r35 => ?_)
                      exact au (.ret ⟨_, rfl, rfl⟩)
                    · exact au (.ret ⟨_, rfl, rfl⟩)
noncomputable def r32_has (t0 : GNet) (n0 : Int) : Option Bool :=
  if 0 ≤ n0 then
    some (decide (n0 < t0.N))
  else
    some false
theorem r32_has_sim (t0 : GNet) (n0 : Int) : Sim (r32_has t0 n0) (Gv fun r q => q = (.bool r, [])) (LM.call n_r32_has [GNet.av t0, iav n0] []) := by
  unfold r32_has
  refine sim_evR M XE rfl rfl fun S hS hw hw8 R hR => ?_
  refine au (.ite Iff.rfl (fun hc => ?_) fun hc => ?_)
  · exact au (.ret ⟨_, rfl, rfl⟩)
  · exact au (.ret ⟨_, rfl, rfl⟩)
noncomputable def r32_Link (raw : GNet) (from0 : Int) (to0 : Int) : Option GLink :=
  (r32_well raw).bind fun r0 =>
  (r32_has r0 from0).bind fun r2 =>
  if (!r2) = true then
    some (GLink.mk ([] : List GItem) 0)
  else
    (r32_has r0 to0).bind fun r3 =>
    if (!r3) = true then
      some (GLink.mk ([] : List GItem) 0)
    else
      (idx? r0.Links (wr ((wr (from0 * r0.N)) + to0))).bind fun z0 =>
      some z0
theorem r32_Link_sim (raw : GNet) (from0 : Int) (to0 : Int) : Sim (r32_Link raw from0 to0) (Gv fun r q => q = (GLink.av r, [])) (LM.call n_r32_Link [GNet.av raw, iav from0, iav to0] []) := by
  unfold r32_Link
  refine sim_evR M XE rfl rfl fun S hS hw hw8 R hR => ?_
  simp only [hw]
  refine au (cE hR (r32_well_sim _) fun r0 => ?_)
  refine au (cE hR (r32_has_sim _ _) fun r2 => ?_)
  refine au (.iteB (fun hc => ?_) fun hc => ?_)
  · exact au (.ret ⟨_, rfl, rfl⟩)
  · refine au (cE hR (r32_has_sim _ _) fun r3 => ?_)
    refine au (.iteB (fun hc2 => ?_) fun hc2 => ?_)
    · exact au (.ret ⟨_, rfl, rfl⟩)
    · refine au ?_
      refine Sim.ix (by simp) (fun z0 hz0 => ?_)
      refine au ?_
      refine Sim.go (idx_map _ hz0) ?_
      exact au (.ret ⟨_, rfl, rfl⟩)
noncomputable def net_Send (t0 : GNet) (s0 : GSend) : Option GNet :=
  (net_open t0).bind fun r0 =>
  (net_put r0.1 r0.2.1 s0 r0.2.2).bind fun r2 =>
  (sub? r2 0 r0.2.1).bind fun l0 =>
  some (GNet.mk r0.1 (List.map GLink_g.pl l0))
theorem net_Send_sim (t0 : GNet) (s0 : GSend) : Sim (net_Send t0 s0) (Gv fun r q => q = (GNet.av r, [])) (LM.call n_net_Send [GNet.av t0, GSend.av s0] []) := by
  unfold net_Send
  refine sim_evR M XE rfl rfl fun S hS hw hw8 R hR => ?_
  refine au (cE hR (net_open_sim _) fun r0 => ?_)
  refine au ?_
  refine Sim.kfl (Flat.ren (Flat.fm (fun _ => Flat.of rfl) _) _) ?_
  refine au ?_
  refine Sim.kfn (Flat.to (Flat.fm (fun _ => Flat.of rfl) _)) ?_
  refine au ?_
  refine Sim.kfl (Flat.ren (Flat.fm (fun _ => Flat.of rfl) _) _) ?_
  refine au (cE hR (net_put_sim _ _ _ _) fun r2 => ?_)
  refine au ?_
  refine Sim.kfl (Flat.ren (Flat.fm (fun _ => Flat.of rfl) _) _) ?_
  refine au ?_
  refine Sim.opt (elems_fmP GLink_g.pl (g := GLink.av) (e := 2) (b := 0) (fun _ => rfl) (fun _ => rfl) (fun _ => rfl) (by decide) (by omega)) (fun l0 _ => ?_)
  exact au (.ret ⟨_, rfl, rfl⟩)
noncomputable def r08_Push_0_step (out : List GItem) (gone : Int) : Option (((List GItem) × Int) ⊕ ((List GItem) × Int)) :=
  if 8 < (List.length out : Int) then
    if 0 ≤ (1 : Int) ∧ (1 : Int) ≤ ((List.length out) : Nat) then
      some (.inl ((List.drop (Int.toNat 1) out), (wr (gone + 1))))
    else none
  else
    some (.inr (out, gone))
noncomputable def r08_Push_0 (out : List GItem) (gone : Int) : Option ((List GItem) × Int) :=
  loopO (fun s : (List GItem) × Int => r08_Push_0_step s.1 s.2) (out, gone)
@[reducible] def r08_Push_0_st (out : List GItem) (gone : Int) (g0 : Gr) : PF.St := ⟨[(6, .lst g0 (List.map GItem.av out)), (7, iav gone)], []⟩
def r08_Push_0_rel (r : ((List GItem) × Int)) (q : Ex × PF.St) : Prop := (fun r (q : Ex × PF.St) => ∃ g0', q = ((.exit 0), ⟨[(6, .lst g0' (List.map GItem.av r.1)), (7, iav r.2)], []⟩)) r q
def r08_Push_0_inv (v : (List GItem) × Int) (e : PF.St) : Prop := ∃ g0, e = r08_Push_0_st v.1 v.2 g0
theorem r08_Push_0_sim (out : List GItem) (gone : Int) (g0 : Gr) (s : PF.St) (hk : keep [6, 7] [] s = some (r08_Push_0_st out gone g0)) : Sim (r08_Push_0 out gone) (Gv (r08_Push_0_rel)) (LM.loop ([6, 7], [], [6, 7], B_r08_Push_0) s) := by
  refine sim_loop M XE (r08_Push_0_inv) (r08_Push_0_rel) ?_ _ _ _ hk ⟨g0, rfl⟩
  clear hk
  rintro S hS hw hw8 R hR ⟨out, gone⟩ env hp ⟨g0, he⟩
  change (⟨env, hp⟩ : PF.St) = r08_Push_0_st out gone g0 at he
  cases he
  show Sim (r08_Push_0_step out gone) _ _
  unfold r08_Push_0_step
  simp only [hw]
  refine au ?_
  refine Sim.ki hS (m := (List.length out : Int)) (by simp) ?_
  refine au (.ite Iff.rfl (fun hc => ?_) fun hc => ?_)
  · refine au ?_
    first | (refine Sim.goB (headE_map (by intro _; rfl) _) ?_) | skip
    refine au ?_
    refine Sim.kn hS (m := (List.length out)) (by simp) ?_
    refine au ?_
    first | refine Sim.ite Iff.rfl (fun _ => ?_) (fun _ => Sim.no) | refine Sim.guard (fun _ => ?_)
    refine au ?_
    refine Sim.kl hS (ys := List.map GItem.av (List.drop (Int.toNat 1) out)) (by simp only [PF.cut, List.map_drop, List.map_take]) ?_
    refine au ?_
    exact Sim.ret ⟨_, _, rfl, rfl, ⟨_, rfl⟩⟩
  · refine au ?_
    exact Sim.ret ⟨_, rfl, ⟨_, rfl⟩⟩
noncomputable def r08_Push (q0 : List GItem) (v0 : List GItem) : Option ((List GItem) × Int) :=
  if List.length ([] : List GItem) + List.length q0 ≤ lenMax then
    if List.length q0 + List.length v0 ≤ lenMax then
      (r08_Push_0 (q0 ++ v0) 0).bind fun r0 =>
      some (r0.1, r0.2)
    else none
  else none
theorem r08_Push_sim (q0 : List GItem) (v0 : List GItem) : Sim (r08_Push q0 v0) (Gv fun r q => q = (.tup [lav GItem.av r.1, iav r.2], [])) (LM.call n_r08_Push [lav GItem.av q0, lav GItem.av v0] []) := by
  unfold r08_Push
  refine sim_evR M XE rfl rfl fun S hS hw hw8 R hR => ?_
  refine au ?_
  first | (refine Sim.goB (okE_map (by intro _; exact ⟨rfl, rfl, rfl⟩) _) ?_) | skip
  refine au ?_
  first | refine Sim.ite (by simp) (fun _ => ?_) (fun _ => Sim.no) | refine Sim.guard (fun _ => ?_)
  refine au ?_
  refine Sim.kl hS (ys := List.map GItem.av q0) (by simp) ?_
  refine au ?_
  first | (refine Sim.goB (okE_map (by intro _; exact ⟨rfl, rfl, rfl⟩) _) ?_) | skip
  refine au ?_
  first | refine Sim.ite (by simp) (fun _ => ?_) (fun _ => Sim.no) | refine Sim.guard (fun _ => ?_)
  refine au ?_
  refine Sim.kl hS (ys := List.map GItem.av (q0 ++ v0)) (by simp) ?_
  refine au ?_
  refine Sim.callL hR (r08_Push_0_sim (q0 ++ v0) 0 (.own 3) _ rfl) ?_
  rintro r0 q ⟨g2, rfl⟩
  exact au (.ret ⟨_, rfl, rfl⟩)
noncomputable def r31_Send (l0 : GLink) (bytes : List UInt8) (delay : Int) : Option GLink :=
  if bytes = ([] : List UInt8) then
    some l0
  else
    (r01_Clamp delay 1 8).bind fun r0 =>
    if List.length ([] : List GItem) + List.length [(GItem.mk 0 r0 bytes)] ≤ lenMax then
      (r08_Push l0.Queue [(GItem.mk 0 r0 bytes)]).bind fun r2 =>
      (r01_Clamp l0.Lost 0 65535).bind fun r3 =>
      some (GLink.mk r2.1 (min (wr (r3 + r2.2)) 65535))
    else none
theorem r31_Send_sim (l0 : GLink) (bytes : List UInt8) (delay : Int) : Sim (r31_Send l0 bytes delay) (Gv fun r q => q = (GLink.av r, [])) (LM.call n_r31_Send [GLink.av l0, .str bytes, iav delay] []) := by
  unfold r31_Send
  refine sim_evR M XE rfl rfl fun S hS hw hw8 R hR => ?_
  simp only [hw]
  refine au (.ite Iff.rfl (fun hc => ?_) fun hc => ?_)
  · exact au (.ret ⟨_, rfl, rfl⟩)
  · refine au (cE hR (r01_Clamp_sim _ _ _) fun r0 => ?_)
    refine au ?_
    refine Sim.kl hS (ys := List.map GItem.av [(GItem.mk 0 r0 bytes)]) rfl ?_
    refine au ?_
    first | (refine Sim.goB (okE_map (by intro _; exact ⟨rfl, rfl, rfl⟩) _) ?_) | skip
    refine au ?_
    first | refine Sim.ite (by simp) (fun _ => ?_) (fun _ => Sim.no) | refine Sim.guard (fun _ => ?_)
    refine au ?_
    refine Sim.kl hS (ys := List.map GItem.av [(GItem.mk 0 r0 bytes)]) (by simp) ?_
    refine au (cE hR (r08_Push_sim _ _) fun r2 => ?_)
    refine au (cE hR (r01_Clamp_sim _ _ _) fun r3 => ?_)
    exact au (.ret ⟨_, rfl, rfl⟩)
noncomputable def r32_Send (raw : GNet) (s0 : GSend) : Option GNet :=
  (r32_well raw).bind fun r0 =>
  (r32_has r0 s0.From).bind fun r2 =>
  if (!r2) = true then
    some r0
  else
    (r32_has r0 s0.To).bind fun r3 =>
    if (!r3) = true then
      some r0
    else
      if List.length ([] : List GLink_g) + List.length r0.Links ≤ lenMax then
        if 0 ≤ (wr ((wr (s0.From * r0.N)) + s0.To)) ∧ (wr ((wr (s0.From * r0.N)) + s0.To)) < (((List.length (([] : List GLink_g) ++ (List.map GLink_g.up r0.Links))) : Nat) : Int) then
          ((([] : List GLink_g) ++ (List.map GLink_g.up r0.Links))[(Int.toNat (wr ((wr (s0.From * r0.N)) + s0.To)))]?).bind fun z0 =>
          (r31_Send (GLink.mk z0.Queue.2 z0.Lost) s0.Bytes s0.Delay).bind fun r4 =>
          if 0 ≤ (wr ((wr (s0.From * r0.N)) + s0.To)) ∧ (wr ((wr (s0.From * r0.N)) + s0.To)) < (((List.length (([] : List GLink_g) ++ (List.map GLink_g.up r0.Links))) : Nat) : Int) then
            (mod? (([] : List GLink_g) ++ (List.map GLink_g.up r0.Links)) (Int.toNat (wr ((wr (s0.From * r0.N)) + s0.To))) (fun _ => (GLink_g.mk (Gr.no, r4.Queue) r4.Lost))).bind fun l0 =>
            (sub? l0 0 (List.length l0)).bind fun l2 =>
            some (GNet.mk r0.N (List.map GLink_g.pl l2))
          else none
        else none
      else none
theorem r32_Send_sim (raw : GNet) (s0 : GSend) : Sim (r32_Send raw s0) (Gv fun r q => q = (GNet.av r, [])) (LM.call n_r32_Send [GNet.av raw, GSend.av s0] []) := by
  unfold r32_Send
  refine sim_evR M XE rfl rfl fun S hS hw hw8 R hR => ?_
  simp only [hw]
  refine au (cE hR (r32_well_sim _) fun r0 => ?_)
  refine au (cE hR (r32_has_sim _ _) fun r2 => ?_)
  refine au (.iteB (fun hc => ?_) fun hc => ?_)
  · exact au (.ret ⟨_, rfl, rfl⟩)
  · refine au (cE hR (r32_has_sim _ _) fun r3 => ?_)
    refine au (.iteB (fun hc2 => ?_) fun hc2 => ?_)
    · exact au (.ret ⟨_, rfl, rfl⟩)
    · refine au ?_
      first | (refine Sim.goB (decide_eq_true (fm_len (fun _ => rfl) _)) ?_) | skip
      refine au ?_
      first | (refine Sim.goB (okE_map (by intro _; exact ⟨rfl, rfl, rfl⟩) _) ?_) | skip
      refine au ?_
      first | refine Sim.ite (by simp) (fun _ => ?_) (fun _ => Sim.no) | refine Sim.guard (fun _ => ?_)
      refine au ?_
      first | (refine Sim.goB (noRef_flat (Flat.fm (fun _ => Flat.of rfl) _) (noRef_cons rfl (noRef_cons rfl (noRef_cons rfl (noRef_cons rfl (noRef_nil _)))))) ?_) | skip
      refine au ?_
      first | (refine Sim.goB rfl ?_) | skip
      refine au ?_
      refine Sim.kl hS (ys := (List.flatMap GLink_g.cells (([] : List GLink_g) ++ (List.map GLink_g.up r0.Links)))) (by exact app_fmU GLink_g.up (f := GLink_g.cells) (g := GLink.av) (by intro _; rfl) ([] : List GLink_g) r0.Links) ?_
      refine au ?_
      refine Sim.kn hS (m := List.length (([] : List GLink_g) ++ (List.map GLink_g.up r0.Links))) (by simp) ?_
      refine au ?_
      first | refine Sim.ite Iff.rfl (fun _ => ?_) (fun _ => Sim.no) | refine Sim.guard (fun _ => ?_)
      refine au ?_
      refine Sim.opt (load_fm1 (v := fun z0 => .agg [.lst (Gr.cp z0.Queue.1) (List.map GItem.av z0.Queue.2), iav z0.Lost]) (k := 0) (e := 2) (m := (Int.toNat (S.wr ((S.wr (s0.From * r0.N)) + s0.To)))) (fun _ => rfl) (by omega) (by decide) rfl (fun _ => rfl)) (fun z0 _ => ?_)
      refine au (cE hR (r31_Send_sim _ _ _) fun r4 => ?_)
      refine au ?_
      first | refine Sim.ite Iff.rfl (fun _ => ?_) (fun _ => Sim.no) | refine Sim.guard (fun _ => ?_)
      refine au ?_
      refine Sim.opt (store_fm (u := (fun _ => (GLink_g.mk (Gr.no, r4.Queue) r4.Lost))) (k := 0) (e := 2) (m := (Int.toNat (S.wr ((S.wr (s0.From * r0.N)) + s0.To)))) (fun _ => rfl) (by omega) (by simp) (fun _ => rfl)) (fun l0 hm => ?_)
      try rw [show List.length (([] : List GLink_g) ++ (List.map GLink_g.up r0.Links)) = List.length l0 from by have := mod_len hm; simpa using this.symm]
      refine au ?_
      refine Sim.opt (elems_fmP GLink_g.pl (g := GLink.av) (e := 2) (b := 0) (fun _ => rfl) (fun _ => rfl) (fun _ => rfl) (by decide) (by omega)) (fun l2 _ => ?_)
      exact au (.ret ⟨_, rfl, rfl⟩)
noncomputable def r32_Cast_0_step (from2 : Int) (bytes2 : List UInt8) (delays2 : List Int) (x0 : GNet) (raw2 : GNet) (j0 : Int) (t0 : GNet) : Option ((Int × GNet) ⊕ GNet) :=
  if j0 < t0.N then
    if j0 < (List.length delays2 : Int) then
      (idx? delays2 j0).bind fun z0 =>
      (r32_Send t0 (GSend.mk from2 j0 z0 bytes2)).bind fun r2 =>
      some (.inl ((wr (j0 + 1)), r2))
    else
      (r32_Send t0 (GSend.mk from2 j0 1 bytes2)).bind fun r3 =>
      some (.inl ((wr (j0 + 1)), r3))
  else
    some (.inr t0)
noncomputable def r32_Cast_0 (from2 : Int) (bytes2 : List UInt8) (delays2 : List Int) (x0 : GNet) (raw2 : GNet) (j0 : Int) (t0 : GNet) : Option GNet :=
  loopO (fun s : Int × GNet => r32_Cast_0_step from2 bytes2 delays2 x0 raw2 s.1 s.2) (j0, t0)
@[reducible] def r32_Cast_0_st (from2 : Int) (bytes2 : List UInt8) (delays2 : List Int) (x0 : GNet) (raw2 : GNet) (j0 : Int) (t0 : GNet) (g0 : Gr) : PF.St := ⟨[(1, iav from2), (2, .str bytes2), (3, lav iav delays2), (8, .ptr 108 0), (9, .ptr 109 0), (10, iav j0)], [(109, ⟨true, GNet.cells t0⟩), (108, ⟨true, [iav x0.N, .lst g0 (List.map GLink.av x0.Links)]⟩), (104, ⟨true, GNet.cells raw2⟩)]⟩
def r32_Cast_0_rel (from2 : Int) (bytes2 : List UInt8) (delays2 : List Int) (x0 : GNet) (raw2 : GNet) (r : GNet) (q : Ex × PF.St) : Prop := (fun r (q : Ex × PF.St) => ∃ g0', q = ((.exit 0), ⟨[(8, .ptr 108 0), (9, .ptr 109 0)], [(109, ⟨true, GNet.cells r⟩), (108, ⟨true, [iav x0.N, .lst g0' (List.map GLink.av x0.Links)]⟩), (104, ⟨true, GNet.cells raw2⟩)]⟩) ∧ Mg 2 g0') r q
def r32_Cast_0_inv (from2 : Int) (bytes2 : List UInt8) (delays2 : List Int) (x0 : GNet) (raw2 : GNet) (v : Int × GNet) (e : PF.St) : Prop := ∃ g0, e = r32_Cast_0_st from2 bytes2 delays2 x0 raw2 v.1 v.2 g0 ∧ Mg 2 g0
theorem r32_Cast_0_sim (from2 : Int) (bytes2 : List UInt8) (delays2 : List Int) (x0 : GNet) (raw2 : GNet) (j0 : Int) (t0 : GNet) (g0 : Gr) (hg0 : Mg 2 g0) (s : PF.St) (hk : keep [1, 2, 3, 8, 9, 10] [104, 108, 109] s = some (r32_Cast_0_st from2 bytes2 delays2 x0 raw2 j0 t0 g0)) : Sim (r32_Cast_0 from2 bytes2 delays2 x0 raw2 j0 t0) (Gv (r32_Cast_0_rel from2 bytes2 delays2 x0 raw2)) (LM.loop ([1, 2, 3, 8, 9, 10], [104, 108, 109], [8, 9], B_r32_Cast_0) s) := by
  refine sim_loop M XE (r32_Cast_0_inv from2 bytes2 delays2 x0 raw2) (r32_Cast_0_rel from2 bytes2 delays2 x0 raw2) ?_ _ _ _ hk ⟨g0, rfl, hg0⟩
  clear hk hg0
  rintro S hS hw hw8 R hR ⟨j0, t0⟩ env hp ⟨g0, he, hg0⟩
  change (⟨env, hp⟩ : PF.St) = r32_Cast_0_st from2 bytes2 delays2 x0 raw2 j0 t0 g0 at he
  cases he
  show Sim (r32_Cast_0_step from2 bytes2 delays2 x0 raw2 j0 t0) _ _
  unfold r32_Cast_0_step
  simp only [hw]
  refine au (.ite Iff.rfl (fun hc => ?_) fun hc => ?_)
  · refine au ?_
    refine Sim.ki hS (m := (List.length delays2 : Int)) (by simp) ?_
    refine au (.ite Iff.rfl (fun hc2 => ?_) fun hc2 => ?_)
    · refine au ?_
      refine Sim.ix (by simp) (fun z0 hz0 => ?_)
      refine au ?_
      refine Sim.go (idx_map _ hz0) ?_
      refine au (cE hR (r32_Send_sim _ _) fun r2 => ?_)
      refine au ?_
      exact Sim.ret ⟨_, _, rfl, rfl, ⟨_, rfl, hg0⟩⟩
    · refine au (cE hR (r32_Send_sim _ _) fun r3 => ?_)
      refine au ?_
      exact Sim.ret ⟨_, _, rfl, rfl, ⟨_, rfl, hg0⟩⟩
  · refine au ?_
    exact Sim.ret ⟨_, rfl, ⟨_, rfl, hg0⟩⟩
noncomputable def r32_Cast (raw : GNet) (from0 : Int) (bytes : List UInt8) (delays : List Int) : Option GNet :=
  (r32_well raw).bind fun r0 =>
  (r32_Cast_0 from0 bytes delays (GNet.mk 0 ([] : List GLink)) raw 0 r0).bind fun r4 =>
  some r4
theorem r32_Cast_sim (raw : GNet) (from0 : Int) (bytes : List UInt8) (delays : List Int) : Sim (r32_Cast raw from0 bytes delays) (Gv fun r q => q = (GNet.av r, [])) (LM.call n_r32_Cast [GNet.av raw, iav from0, .str bytes, lav iav delays] []) := by
  unfold r32_Cast
  refine sim_evR M XE rfl rfl fun S hS hw hw8 R hR => ?_
  refine au (cE hR (r32_well_sim _) fun r0 => ?_)
  refine au ?_
  refine Sim.callL hR (r32_Cast_0_sim from0 bytes delays (GNet.mk 0 ([] : List GLink)) raw 0 r0 .full Mg.full _ rfl) ?_
  rintro r4 q ⟨g2, rfl, hg2⟩
  exact au (.ret ⟨_, rfl, rfl⟩)
noncomputable def l32_NetMoves (L0 : GNet) (i0 : GSend) (s0 : List Int) : Option Bool :=
  (r32_Few L0).bind fun r0 =>
  if (!r0) = true then
    (l32_known).bind fun r2 =>
    some r2
  else
    if 40 < (List.length s0 : Int) then
      (l32_known).bind fun r3 =>
      some r3
    else
      (net_New L0.N).bind fun r4 =>
      (sub? r4.2.2 0 r4.2.1).bind fun l0 =>
      (r32_New L0.N).bind fun r5 =>
      (r32_Same (GNet.mk r4.1 (List.map GLink_g.pl l0)) r5).bind fun r6 =>
      if r6 = true then
        (net_Link L0 i0.From i0.To).bind fun r7 =>
        (r32_Link L0 i0.From i0.To).bind fun r8 =>
        (r31_Same r7 r8).bind fun r9 =>
        if r9 = true then
          (net_Send L0 i0).bind fun r10 =>
          (r32_Send L0 i0).bind fun r11 =>
          (r32_Same r10 r11).bind fun r12 =>
          if r12 = true then
            (net_Cast L0 i0.From i0.Bytes s0).bind fun r13 =>
            (r32_Cast L0 i0.From i0.Bytes s0).bind fun r14 =>
            (r32_Same r13 r14).bind fun r15 =>
            if r15 = true then
              (l32_known).bind fun r16 =>
              some r16
            else
              some false
          else
            some false
        else
          some false
      else
        some false
theorem l32_NetMoves_sim (L0 : GNet) (i0 : GSend) (s0 : List Int) : Sim (l32_NetMoves L0 i0 s0) (Gv fun r q => q = (.bool r, [])) (LM.call n_l32_NetMoves [GNet.av L0, GSend.av i0, lav iav s0] []) := by
  unfold l32_NetMoves
  refine sim_evR M XE rfl rfl fun S hS hw hw8 R hR => ?_
  refine au (cE hR (r32_Few_sim _) fun r0 => ?_)
  refine au (.iteB (fun hc => ?_) fun hc => ?_)
  · refine au (cE hR (l32_known_sim) fun r2 => ?_)
    exact au (.ret ⟨_, rfl, rfl⟩)
  · refine au ?_
    refine Sim.ki hS (m := (List.length s0 : Int)) (by simp) ?_
    refine au (.ite Iff.rfl (fun hc2 => ?_) fun hc2 => ?_)
    · refine au (cE hR (l32_known_sim) fun r3 => ?_)
      exact au (.ret ⟨_, rfl, rfl⟩)
    · refine au (cE hR (net_New_sim _) fun r4 => ?_)
      refine au ?_
      refine Sim.opt (elems_fmP GLink_g.pl (g := GLink.av) (e := 2) (b := 0) (fun _ => rfl) (fun _ => rfl) (fun _ => rfl) (by decide) (by omega)) (fun l0 _ => ?_)
      refine au (cE hR (r32_New_sim _) fun r5 => ?_)
      refine au (cE hR (r32_Same_sim _ _) fun r6 => ?_)
      refine au (.iteB (fun hc3 => ?_) fun hc3 => ?_)
      · refine au (cE hR (net_Link_sim _ _ _) fun r7 => ?_)
        refine au (cE hR (r32_Link_sim _ _ _) fun r8 => ?_)
        refine au (cE hR (r31_Same_sim _ _) fun r9 => ?_)
        refine au (.iteB (fun hc4 => ?_) fun hc4 => ?_)
        · refine au (cE hR (net_Send_sim _ _) fun r10 => ?_)
          refine au (cE hR (r32_Send_sim _ _) fun r11 => ?_)
          refine au (cE hR (r32_Same_sim _ _) fun r12 => ?_)
          refine au (.iteB (fun hc5 => ?_) fun hc5 => ?_)
          · refine au (cE hR (net_Cast_sim _ _ _ _) fun r13 => ?_)
            refine au (cE hR (r32_Cast_sim _ _ _ _) fun r14 => ?_)
            refine au (cE hR (r32_Same_sim _ _) fun r15 => ?_)
            refine au (.iteB (fun hc6 => ?_) fun hc6 => ?_)
            · refine au (cE hR (l32_known_sim) fun r16 => ?_)
              exact au (.ret ⟨_, rfl, rfl⟩)
            · exact au (.ret ⟨_, rfl, rfl⟩)
          · exact au (.ret ⟨_, rfl, rfl⟩)
        · exact au (.ret ⟨_, rfl, rfl⟩)
      · exact au (.ret ⟨_, rfl, rfl⟩)
end Go.Proofs.Ytockahdfbagmgaa
