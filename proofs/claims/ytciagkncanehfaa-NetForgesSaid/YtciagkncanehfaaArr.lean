/-
  Functions of the program, evaluated: arr.
-/
import Derived.Test.YtciagkncanehfaaLink
set_option linter.unusedVariables false
set_option linter.unusedSimpArgs false
set_option maxRecDepth 100000
namespace Go.Proofs.Ytciagkncanehfaa
open Go.Proofs.PF

/-! ### Objects whose cells are not written out -/
def Flat (cs : List AV) : Prop := ∀ c ∈ cs, refs2 c = []
theorem Flat.app {a b : List AV} (h1 : Flat a) (h2 : Flat b) : Flat (a ++ b) := fun c hc => (List.mem_append.1 hc).elim (h1 c) (h2 c)
theorem Flat.cons {c : AV} {a : List AV} (h1 : refs2 c = []) (h2 : Flat a) : Flat (c :: a) := fun x hx => (List.mem_cons.1 hx).elim (fun e => e ▸ h1) (h2 x)
theorem Flat.nil : Flat [] := fun _ h => by cases h
def okH (ko : List Nat) (h : PF.Heap) : Bool := h.all fun p => p.2.cells.all fun c => (refs2 c).all fun o => o < 100 || ko.contains o
theorem okH_nil (ko : List Nat) : okH ko [] = true := rfl
theorem okH_flat {ko : List Nat} {n : Nat} {w : Bool} {cs : List AV} {r : PF.Heap} (h1 : Flat cs) (h2 : okH ko r = true) : okH ko ((n, ⟨w, cs⟩) :: r) = true := by
  have : (cs.all fun c => (refs2 c).all fun o => o < 100 || ko.contains o) = true := List.all_eq_true.2 fun c hc => by rw [h1 c hc]; rfl
  simp only [okH, List.all_cons, Bool.and_eq_true]
  exact ⟨this, h2⟩
theorem okH_cons {ko : List Nat} {n : Nat} {ob : PF.Obj} {r : PF.Heap} (h1 : (ob.cells.all fun c => (refs2 c).all fun o => o < 100 || ko.contains o) = true) (h2 : okH ko r = true) : okH ko ((n, ob) :: r) = true := by
  simp only [okH, List.all_cons, Bool.and_eq_true]
  exact ⟨h1, h2⟩
theorem keep_eq {ks ko : List Nat} {s : St} {e : PF.Env} {h : PF.Heap} (h1 : (ks.map fun k => (k, get s.env k)) = e) (h2 : (s.heap.filter fun p => p.1 < 100 || ko.contains p.1) = h)
    (h3 : (e.all fun p => (refs p.2).all fun o => o < 100 || ko.contains o) = true) (h4 : okH ko h = true) : keep ks ko s = some ⟨e, h⟩ := by
  subst h1; subst h2
  simp only [keep]
  rw [if_pos]
  rw [Bool.and_eq_true]
  exact ⟨h3, h4⟩
theorem storeC_app (a b vs r : List AV) (n : Nat) (hn : n = a.length) (h : over b vs = some r) : storeC (a ++ b) n vs = some (a ++ r) := by
  subst hn
  induction a with
  | nil => cases b <;> exact h
  | cons x a ih => simp only [List.cons_append, List.length_cons, storeC, ih]
theorem reach_one {h : PF.Heap} {o : Nat} {w : Bool} {cs : List AV} (h1 : hget h o = some ⟨w, cs⟩) (h2 : Flat cs) : reach h 64 [o] [] = some [o] := by
  have : cs.flatMap refs2 = [] := List.flatMap_eq_nil_iff.2 h2
  simp [reach, h1, this]
theorem Flat.ren {cs : List AV} (h : Flat cs) (f : Nat → Nat) : cs.map (ren2 f) = cs := by
  refine (List.map_congr_left fun c hc => ?_).trans (List.map_id cs)
  have := h c hc
  cases c with
  | ptr o a => cases this
  | arr o a b c d => cases this
  | fn g cap =>
    show AV.fn g (cap.map (ren1 f)) = AV.fn g cap
    have h3 : ∀ x ∈ cap, refs1 x = [] := fun x hx => List.flatMap_eq_nil_iff.1 this x hx
    congr 1
    refine (List.map_congr_left fun x hx => ?_).trans (List.map_id cap)
    have := h3 x hx
    cases x <;> first | rfl | cases this
  | _ => rfl
theorem flR_go {β : Type} {cs : List AV} {f : Nat → Nat} {k : List AV → Option β} {r : Option β} (hf : Flat cs) (h : k cs = r) : fl (cs.map (ren2 f)) k = r := by
  rw [fl_eq, hf.ren]; exact h
end Go.Proofs.Ytciagkncanehfaa
