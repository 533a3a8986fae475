/-
  Functions of the program, evaluated: link.
-/
import Derived.Test.YtciagkncanehfaaQueue
set_option linter.unusedVariables false
set_option linter.unusedSimpArgs false
set_option maxRecDepth 100000
namespace Go.Proofs.Ytciagkncanehfaa
open Go.Proofs.PF

/-! ### Links -/
structure Lk where
  q : List It
  lost : Int
@[reducible] def Lk.av (l : Lk) : AV := .agg [.lst .no (l.q.map It.av), .int .i64 l.lost]
structure Lk.Ok (l : Lk) : Prop where
  q : ∀ x ∈ l.q, x.Ok
  lost : IN l.lost
  len : l.q.length ≤ 4000
theorem clone_It (q : List It) (hq : q.length ≤ 4000) : LM.call n_slices_Clone_api_Item_api_Item [.lst .no (q.map It.av)] [] = some (.lst .no (q.map It.av), []) := by
  have h1 := It.oks q
  have h2 := It.len q
  rw [lim_ext_eq M XE rfl]
  have : XE n_slices_Clone_api_Item_api_Item [.lst .no (q.map It.av)] = some (.lst .no (q.map It.av)) := by
    show (if okElems 3 true (q.map It.av) && Nat.ble (q.map It.av).length lenMax then some (AV.lst .no (q.map It.av)) else none) = _
    rw [h1, h2, if_pos]
    simp only [Bool.true_and, Nat.ble_eq, lenMax]
    omega
  rw [this]; rfl
theorem link_open_s (l : Lk) (h : l.Ok) : LM.call n_link_open [l.av] [] = some (l.av, []) := by
  refine ev M XE rfl rfl ?_
  conv => lhs; whnf
  repeat' (first
    | with_reducible rfl
    | (refine kO_go (clone_It l.q h.len) ?_; conv => lhs; whnf)
    | (refine kW_go (by omega) ?_; conv => lhs; whnf)
    | (refine kB_true (decide_eq_true (by omega)) ?_; conv => lhs; whnf)
    | (refine kB_false (decide_eq_false (by omega)) ?_; conv => lhs; whnf)
    | ((with_reducible refine kN_go ?_ ?_); (first | assumption | with_reducible rfl | (refine decide_eq_true ?_; simp only [lenMax, List.length_cons, List.length_nil, List.length_append, List.length_map]; omega) | rotate_left); conv => lhs; whnf)
    | ((with_reducible refine kW_go ?_ ?_); rotate_left; conv => lhs; whnf)
    | (refine kB_dec (fun _ => ?_) (fun _ => ?_) <;> (conv => lhs; whnf))
    | (refine kB_elim (fun _ => ?_) (fun _ => ?_) <;> (conv => lhs; whnf)))
  all_goals (first | rfl | assumption | omega | (simp [*]; done) | (simp [*]; omega) | (simp_all []; done) | (simp only []; repeat' split; all_goals first | omega | (simp [*]; done) | (simp [*]; omega)))
theorem link_step_s (l : Lk) (h : l.Ok) (b : Bool) : LM.call n_link_line_step [.ptr 0 0] [⟨true, [.lst .no (l.q.map It.av), .int .i64 l.lost]⟩] = some (.lst .no ((comes l.q).map It.av), [⟨true, [.lst .no ((rests l.q).map It.av), .int .i64 l.lost]⟩]) := by
  refine ev M XE rfl rfl ?_
  conv => lhs; whnf
  repeat' (first
    | with_reducible rfl
    | (refine kO_go (queue_Step_s l.q h.len h.q) ?_; conv => lhs; whnf)
    | (refine kW_go (by omega) ?_; conv => lhs; whnf)
    | (refine kB_true (decide_eq_true (by omega)) ?_; conv => lhs; whnf)
    | (refine kB_false (decide_eq_false (by omega)) ?_; conv => lhs; whnf)
    | ((with_reducible refine kN_go ?_ ?_); (first | assumption | with_reducible rfl | (refine decide_eq_true ?_; simp only [lenMax, List.length_cons, List.length_nil, List.length_append, List.length_map]; omega) | rotate_left); conv => lhs; whnf)
    | ((with_reducible refine kW_go ?_ ?_); rotate_left; conv => lhs; whnf)
    | (refine kB_dec (fun _ => ?_) (fun _ => ?_) <;> (conv => lhs; whnf))
    | (refine kB_elim (fun _ => ?_) (fun _ => ?_) <;> (conv => lhs; whnf)))
  all_goals (first | rfl | assumption | omega | (simp [*]; done) | (simp [*]; omega) | (simp_all []; done) | (simp only []; repeat' split; all_goals first | omega | (simp [*]; done) | (simp [*]; omega)))
abbrev pushQ (q v : List It) : List It := push q v
def Lk.step (l : Lk) : Lk := ⟨rests l.q, l.lost⟩
def Lk.push (l : Lk) (x : It) : Lk := ⟨pushQ l.q [x], min (cl l.lost + ((l.q.length + 1 - 8 : Nat) : Int)) 65535⟩
def Lk.send (l : Lk) (b : List UInt8) (d : Int) : Lk := if b = [] then l else l.push ⟨0, clamp d 1 8, b⟩
theorem link_push_s (l : Lk) (h : l.Ok) (x : It) : LM.call n_link_line_push [.ptr 0 0, x.av] [⟨true, [.lst .no (l.q.map It.av), .int .i64 l.lost]⟩] = some (.tup [], [⟨true, [.lst .no ((l.push x).q.map It.av), .int .i64 (l.push x).lost]⟩]) := by
  have hc : 0 ≤ clamp l.lost 0 65535 ∧ clamp l.lost 0 65535 ≤ 65535 := cl_in l.lost
  have hl := h.len
  refine ev M XE rfl rfl ?_
  conv => lhs; whnf
  repeat' (first
    | with_reducible rfl
    | (refine kO_go (queue_Push_s l.q [x] h.len (by simp)) ?_; conv => lhs; whnf)
    | (refine kO_go (num_Clamp_s _ _ _) ?_; conv => lhs; whnf)
    | (refine kW_go (by omega) ?_; conv => lhs; whnf)
    | (refine kB_true (decide_eq_true (by omega)) ?_; conv => lhs; whnf)
    | (refine kB_false (decide_eq_false (by omega)) ?_; conv => lhs; whnf)
    | ((with_reducible refine kN_go ?_ ?_); (first | assumption | with_reducible rfl | (refine decide_eq_true ?_; simp only [lenMax, List.length_cons, List.length_nil, List.length_append, List.length_map]; omega) | rotate_left); conv => lhs; whnf)
    | ((with_reducible refine kW_go ?_ ?_); rotate_left; conv => lhs; whnf)
    | (refine kB_dec (fun _ => ?_) (fun _ => ?_) <;> (conv => lhs; whnf))
    | (refine kB_elim (fun _ => ?_) (fun _ => ?_) <;> (conv => lhs; whnf)))
  all_goals (first | rfl | assumption | omega | (simp [*, Lk.push]; done) | (simp [*, Lk.push]; omega) | (simp_all [Lk.push]; done) | (simp only [Lk.push]; repeat' split; all_goals first | omega | (simp [*]; done) | (simp [*]; omega)))
theorem link_Step_s (l : Lk) (h : l.Ok) : LM.call n_link_Step [l.av] [] = some (.tup [.lst .no ((comes l.q).map It.av), l.step.av], []) := by
  refine ev M XE rfl rfl ?_
  conv => lhs; whnf
  repeat' (first
    | with_reducible rfl
    | (refine kO_go (link_open_s l h) ?_; conv => lhs; whnf)
    | (refine kO_go (link_step_s l h true) ?_; conv => lhs; whnf)
    | (refine kW_go (by omega) ?_; conv => lhs; whnf)
    | (refine kB_true (decide_eq_true (by omega)) ?_; conv => lhs; whnf)
    | (refine kB_false (decide_eq_false (by omega)) ?_; conv => lhs; whnf)
    | ((with_reducible refine kN_go ?_ ?_); (first | assumption | with_reducible rfl | (refine decide_eq_true ?_; simp only [lenMax, List.length_cons, List.length_nil, List.length_append, List.length_map]; omega) | rotate_left); conv => lhs; whnf)
    | ((with_reducible refine kW_go ?_ ?_); rotate_left; conv => lhs; whnf)
    | (refine kB_dec (fun _ => ?_) (fun _ => ?_) <;> (conv => lhs; whnf))
    | (refine kB_elim (fun _ => ?_) (fun _ => ?_) <;> (conv => lhs; whnf)))
  all_goals (first | rfl | assumption | omega | (simp [*, Lk.step]; done) | (simp [*, Lk.step]; omega) | (simp_all [Lk.step]; done) | (simp only [Lk.step]; repeat' split; all_goals first | omega | (simp [*]; done) | (simp [*]; omega)))
theorem r31_Step_s (l : Lk) (h : l.Ok) : LM.call n_r31_Step [l.av] [] = some (.tup [.lst .no ((comes l.q).map It.av), l.step.av], []) := by
  refine ev M XE rfl rfl ?_
  conv => lhs; whnf
  repeat' (first
    | with_reducible rfl
    | (refine kO_go (r08_Step_s l.q h.len h.q) ?_; conv => lhs; whnf)
    | (refine kW_go (by omega) ?_; conv => lhs; whnf)
    | (refine kB_true (decide_eq_true (by omega)) ?_; conv => lhs; whnf)
    | (refine kB_false (decide_eq_false (by omega)) ?_; conv => lhs; whnf)
    | ((with_reducible refine kN_go ?_ ?_); (first | assumption | with_reducible rfl | (refine decide_eq_true ?_; simp only [lenMax, List.length_cons, List.length_nil, List.length_append, List.length_map]; omega) | rotate_left); conv => lhs; whnf)
    | ((with_reducible refine kW_go ?_ ?_); rotate_left; conv => lhs; whnf)
    | (refine kB_dec (fun _ => ?_) (fun _ => ?_) <;> (conv => lhs; whnf))
    | (refine kB_elim (fun _ => ?_) (fun _ => ?_) <;> (conv => lhs; whnf)))
  all_goals (first | rfl | assumption | omega | (simp [*, Lk.step]; done) | (simp [*, Lk.step]; omega) | (simp_all [Lk.step]; done) | (simp only [Lk.step]; repeat' split; all_goals first | omega | (simp [*]; done) | (simp [*]; omega)))
theorem link_Send_s (l : Lk) (h : l.Ok) (b : List UInt8) (d : Int) : LM.call n_link_Send [l.av, .str b, .int .i64 d] [] = some ((l.send b d).av, []) := by
  refine ev M XE rfl rfl ?_
  conv => lhs; whnf
  repeat' (first
    | with_reducible rfl
    | (refine kO_go (link_open_s l h) ?_; conv => lhs; whnf)
    | (refine kO_go (link_push_s l h ⟨0, clamp d 1 8, b⟩) ?_; conv => lhs; whnf)
    | (refine kO_go (num_Clamp_s _ _ _) ?_; conv => lhs; whnf)
    | (refine kW_go (by omega) ?_; conv => lhs; whnf)
    | (refine kB_true (decide_eq_true (by omega)) ?_; conv => lhs; whnf)
    | (refine kB_false (decide_eq_false (by omega)) ?_; conv => lhs; whnf)
    | ((with_reducible refine kN_go ?_ ?_); (first | assumption | with_reducible rfl | (refine decide_eq_true ?_; simp only [lenMax, List.length_cons, List.length_nil, List.length_append, List.length_map]; omega) | rotate_left); conv => lhs; whnf)
    | ((with_reducible refine kW_go ?_ ?_); rotate_left; conv => lhs; whnf)
    | (refine kB_dec (fun _ => ?_) (fun _ => ?_) <;> (conv => lhs; whnf))
    | (refine kB_elim (fun _ => ?_) (fun _ => ?_) <;> (conv => lhs; whnf)))
  all_goals (first | rfl | assumption | omega | (simp [*, Lk.send]; done) | (simp [*, Lk.send]; omega) | (simp_all [Lk.send]; done) | (simp only [Lk.send]; repeat' split; all_goals first | omega | (simp [*]; done) | (simp [*]; omega)))
theorem r31_Send_s (l : Lk) (h : l.Ok) (b : List UInt8) (d : Int) : LM.call n_r31_Send [l.av, .str b, .int .i64 d] [] = some ((l.send b d).av, []) := by
  have hc : 0 ≤ clamp l.lost 0 65535 ∧ clamp l.lost 0 65535 ≤ 65535 := cl_in l.lost
  have hl := h.len
  refine ev M XE rfl rfl ?_
  conv => lhs; whnf
  repeat' (first
    | with_reducible rfl
    | (refine kO_go (r08_Push_s l.q [⟨0, clamp d 1 8, b⟩] h.len (by simp)) ?_; conv => lhs; whnf)
    | (refine kO_go (r01_Clamp_s _ _ _) ?_; conv => lhs; whnf)
    | (refine kW_go (by omega) ?_; conv => lhs; whnf)
    | (refine kB_true (decide_eq_true (by omega)) ?_; conv => lhs; whnf)
    | (refine kB_false (decide_eq_false (by omega)) ?_; conv => lhs; whnf)
    | ((with_reducible refine kN_go ?_ ?_); (first | assumption | with_reducible rfl | (refine decide_eq_true ?_; simp only [lenMax, List.length_cons, List.length_nil, List.length_append, List.length_map]; omega) | rotate_left); conv => lhs; whnf)
    | ((with_reducible refine kW_go ?_ ?_); rotate_left; conv => lhs; whnf)
    | (refine kB_dec (fun _ => ?_) (fun _ => ?_) <;> (conv => lhs; whnf))
    | (refine kB_elim (fun _ => ?_) (fun _ => ?_) <;> (conv => lhs; whnf)))
  all_goals (first | rfl | assumption | omega | (simp [*, Lk.send, Lk.push]; done) | (simp [*, Lk.send, Lk.push]; omega) | (simp_all [Lk.send, Lk.push]; done) | (simp only [Lk.send, Lk.push]; repeat' split; all_goals first | omega | (simp [*]; done) | (simp [*]; omega)))
theorem r31_Same_s (a b : Lk) (h : a.q.length ≤ 4000) : LM.call n_r31_Same [a.av, b.av] [] = some (.bool (decide (a.lost = b.lost ∧ a.q = b.q)), []) := by
  refine ev M XE rfl rfl ?_
  conv => lhs; whnf
  repeat' (first
    | with_reducible rfl
    | (refine kO_go (r08_Same_s a.q b.q h) ?_; conv => lhs; whnf)
    | (refine kW_go (by omega) ?_; conv => lhs; whnf)
    | (refine kB_true (decide_eq_true (by omega)) ?_; conv => lhs; whnf)
    | (refine kB_false (decide_eq_false (by omega)) ?_; conv => lhs; whnf)
    | ((with_reducible refine kN_go ?_ ?_); (first | assumption | with_reducible rfl | (refine decide_eq_true ?_; simp only [lenMax, List.length_cons, List.length_nil, List.length_append, List.length_map]; omega) | rotate_left); conv => lhs; whnf)
    | ((with_reducible refine kW_go ?_ ?_); rotate_left; conv => lhs; whnf)
    | (refine kB_dec (fun _ => ?_) (fun _ => ?_) <;> (conv => lhs; whnf))
    | (refine kB_elim (fun _ => ?_) (fun _ => ?_) <;> (conv => lhs; whnf)))
  all_goals (first | rfl | assumption | omega | (simp [*]; done) | (simp [*]; omega) | (simp_all []; done) | (simp only []; repeat' split; all_goals first | omega | (simp [*]; done) | (simp [*]; omega)))
theorem Lk.dec {cs : List AV} (h : wfcs [.l [.i .i64, .i .i64, .s] true, .i .i64] cs) : ∃ l : Lk, mkE true cs = l.av ∧ (∀ x ∈ l.q, x.Ok) ∧ IN l.lost ∧ l.q.length ≤ 9223372036854775807 := by
  obtain ⟨_, _, rfl, h1, h⟩ := wfcs_cons h
  obtain ⟨_, _, rfl, h2, h⟩ := wfcs_cons h
  obtain rfl := wfcs_nil h
  obtain ⟨q, rfl, q1, q2⟩ := Its.dec h1
  obtain ⟨n, rfl, n1⟩ := wfc_i64 h2
  exact ⟨⟨q, n⟩, rfl, q1, n1, q2⟩
end Go.Proofs.Ytciagkncanehfaa
