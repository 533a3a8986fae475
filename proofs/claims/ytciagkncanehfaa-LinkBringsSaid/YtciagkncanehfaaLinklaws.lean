/-
  Functions of the program, evaluated: linklaws.
-/
import Derived.Test.YtciagkncanehfaaLink
set_option linter.unusedVariables false
set_option linter.unusedSimpArgs false
set_option maxRecDepth 100000
namespace Go.Proofs.Ytciagkncanehfaa
open Go.Proofs.PF

theorem l31_known_s : LM.call n_l31_known [] [] = some (.bool true, []) := (lim_call M XE).2 ⟨60, by kernel_rfl⟩
theorem Lk.dec {cs : List AV} (h : wfcs [.l [.i .i64, .i .i64, .s] true, .i .i64] cs) : ∃ l : Lk, mkE true cs = l.av ∧ (∀ x ∈ l.q, x.Ok) ∧ IN l.lost ∧ l.q.length ≤ 9223372036854775807 := by
  obtain ⟨_, _, rfl, h1, h⟩ := wfcs_cons h
  obtain ⟨_, _, rfl, h2, h⟩ := wfcs_cons h
  obtain rfl := wfcs_nil h
  obtain ⟨q, rfl, q1, q2⟩ := Its.dec h1
  obtain ⟨n, rfl, n1⟩ := wfc_i64 h2
  exact ⟨⟨q, n⟩, rfl, q1, n1, q2⟩
theorem send_len (l : Lk) (h : l.q.length ≤ 60) (b : List UInt8) (d : Int) : (l.send b d).q.length ≤ 1000 := by
  unfold Lk.send
  split
  · omega
  · have := push_len l.q [⟨0, clamp d 1 8, b⟩]
    simp only [Lk.push, pushQ, this]; omega
theorem LinkMoves_s (l : Lk) (hq : ∀ x ∈ l.q, x.Ok) (hl : IN l.lost) (hlen : l.q.length ≤ 9223372036854775807) (b : List UInt8) (d : Int) :
    LM.call n_l31_LinkMoves [l.av, .str b, .int .i64 d] [] = some (.bool true, []) := by
  have lq := It.len l.q
  by_cases hc : l.q.length > 60
  · refine ev M XE rfl rfl ?_
    conv => lhs; whnf
    repeat' (first
      | with_reducible rfl
      | (refine kO_go (l31_known_s) ?_; conv => lhs; whnf)
      | (refine kW_go (by omega) ?_; conv => lhs; whnf)
      | (refine kB_true (decide_eq_true (by omega)) ?_; conv => lhs; whnf)
      | (refine kB_false (decide_eq_false (by omega)) ?_; conv => lhs; whnf)
      | ((with_reducible refine kN_go ?_ ?_); (first | assumption | with_reducible rfl | (refine decide_eq_true ?_; simp only [lenMax, List.length_cons, List.length_nil, List.length_append, List.length_map]; omega) | rotate_left); conv => lhs; whnf)
      | ((with_reducible refine kW_go ?_ ?_); rotate_left; conv => lhs; whnf)
      | (refine kB_dec (fun _ => ?_) (fun _ => ?_) <;> (conv => lhs; whnf))
      | (refine kB_elim (fun _ => ?_) (fun _ => ?_) <;> (conv => lhs; whnf)))
    all_goals (first | rfl | assumption | omega | (simp [*]; done) | (simp [*]; omega) | (simp_all []; done) | (simp only []; repeat' split; all_goals first | omega | (simp [*]; done) | (simp [*]; omega)))
  · have h : l.Ok := ⟨hq, hl, by omega⟩
    have hcr := comes_rests l.q
    have s1 := send_len l (by omega) b d
    refine ev M XE rfl rfl ?_
    conv => lhs; whnf
    repeat' (first
      | with_reducible rfl
      | (refine kO_go (link_Step_s l h) ?_; conv => lhs; whnf)
      | (refine kO_go (r31_Step_s l h) ?_; conv => lhs; whnf)
      | (refine kO_go (link_Send_s l h b d) ?_; conv => lhs; whnf)
      | (refine kO_go (r31_Send_s l h b d) ?_; conv => lhs; whnf)
      | (refine kO_go (r31_Same_s (l.send b d) (l.send b d) s1) ?_; conv => lhs; whnf)
      | (refine kO_go (r08_Same_s (comes l.q) (comes l.q) (by omega)) ?_; conv => lhs; whnf)
      | (refine kO_go (r31_Same_s l.step l.step (by simp only [Lk.step]; omega)) ?_; conv => lhs; whnf)
      | (refine kO_go (link_Due_s l h d) ?_; conv => lhs; whnf)
      | (refine kO_go (r31_Due_s l h d) ?_; conv => lhs; whnf)
      | (refine kO_go (l31_known_s) ?_; conv => lhs; whnf)
      | ((refine kB_true ?_ ?_); (focus (simp; done)); conv => lhs; whnf)
      | (refine kW_go (by omega) ?_; conv => lhs; whnf)
      | (refine kB_true (decide_eq_true (by omega)) ?_; conv => lhs; whnf)
      | (refine kB_false (decide_eq_false (by omega)) ?_; conv => lhs; whnf)
      | ((with_reducible refine kN_go ?_ ?_); (first | assumption | with_reducible rfl | (refine decide_eq_true ?_; simp only [lenMax, List.length_cons, List.length_nil, List.length_append, List.length_map]; omega) | rotate_left); conv => lhs; whnf)
      | ((with_reducible refine kW_go ?_ ?_); rotate_left; conv => lhs; whnf)
      | (refine kB_dec (fun _ => ?_) (fun _ => ?_) <;> (conv => lhs; whnf))
      | (refine kB_elim (fun _ => ?_) (fun _ => ?_) <;> (conv => lhs; whnf)))
    all_goals (first | rfl | assumption | omega | (simp [*]; done) | (simp [*]; omega) | (simp_all []; done) | (simp only []; repeat' split; all_goals first | omega | (simp [*]; done) | (simp [*]; omega)))
theorem LinkMoves_law (l : List AV) (h : ArgsOf [([.l [.i .i64, .i .i64, .s] true, .i .i64], true), ([.s], false), ([.i .i64], false)] l) : LM.call n_l31_LinkMoves l [] = some (.bool true, []) := by
  obtain ⟨_, _, rfl, h1, h⟩ := args_cons h
  obtain ⟨_, _, rfl, h2, h⟩ := args_cons h
  obtain ⟨_, _, rfl, h3, h⟩ := args_cons h
  obtain rfl := args_nil h
  obtain ⟨l, e1, l1, l2, l3⟩ := Lk.dec h1
  obtain ⟨b, e2, _⟩ := wfc_s (wfcs_one h2)
  obtain ⟨d, e3, _⟩ := wfc_i64 (wfcs_one h3)
  rw [e1, e2, e3]
  exact LinkMoves_s l l1 l2 l3 b d
theorem push_last (q : List It) (x : It) : (push q [x]).getLast? = some x := by
  simp only [push, List.length_cons, List.length_nil]
  rw [List.drop_append_of_le_length (by omega)]
  simp
theorem LinkCaps_s (l : Lk) (hq : ∀ x ∈ l.q, x.Ok) (hl : IN l.lost) (hlen : l.q.length ≤ 9223372036854775807) (b : List UInt8) (d : Int) :
    LM.call n_l31_LinkCaps [l.av, .str b, .int .i64 d] [] = some (.bool true, []) := by
  have lq := It.len l.q
  by_cases hc : l.q.length > 60
  · refine ev M XE rfl rfl ?_
    conv => lhs; whnf
    repeat' (first
      | with_reducible rfl
      | (refine kO_go (l31_known_s) ?_; conv => lhs; whnf)
      | (refine kW_go (by omega) ?_; conv => lhs; whnf)
      | (refine kB_true (decide_eq_true (by omega)) ?_; conv => lhs; whnf)
      | (refine kB_false (decide_eq_false (by omega)) ?_; conv => lhs; whnf)
      | ((with_reducible refine kN_go ?_ ?_); (first | assumption | with_reducible rfl | (refine decide_eq_true ?_; simp only [lenMax, List.length_cons, List.length_nil, List.length_append, List.length_map]; omega) | rotate_left); conv => lhs; whnf)
      | ((with_reducible refine kW_go ?_ ?_); rotate_left; conv => lhs; whnf)
      | (refine kB_dec (fun _ => ?_) (fun _ => ?_) <;> (conv => lhs; whnf))
      | (refine kB_elim (fun _ => ?_) (fun _ => ?_) <;> (conv => lhs; whnf)))
    all_goals (first | rfl | assumption | omega | (simp [*]; done) | (simp [*]; omega) | (simp_all []; done) | (simp only []; repeat' split; all_goals first | omega | (simp [*]; done) | (simp [*]; omega)))
  · have h : l.Ok := ⟨hq, hl, by omega⟩
    by_cases hb : b = []
    · subst hb
      have c1 := link_Send_s l h [] d
      have e : l.send [] d = l := by simp [Lk.send]
      rw [e] at c1
      refine ev M XE rfl rfl ?_
      conv => lhs; whnf
      repeat' (first
        | with_reducible rfl
        | (refine kO_go (c1) ?_; conv => lhs; whnf)
        | (refine kO_go (r31_Same_s l l (by omega)) ?_; conv => lhs; whnf)
        | (refine kO_go (l31_known_s) ?_; conv => lhs; whnf)
        | ((refine kB_true ?_ ?_); (focus (simp; done)); conv => lhs; whnf)
        | (refine kW_go (by omega) ?_; conv => lhs; whnf)
        | (refine kB_true (decide_eq_true (by omega)) ?_; conv => lhs; whnf)
        | (refine kB_false (decide_eq_false (by omega)) ?_; conv => lhs; whnf)
        | ((with_reducible refine kN_go ?_ ?_); (first | assumption | with_reducible rfl | (refine decide_eq_true ?_; simp only [lenMax, List.length_cons, List.length_nil, List.length_append, List.length_map]; omega) | rotate_left); conv => lhs; whnf)
        | ((with_reducible refine kW_go ?_ ?_); rotate_left; conv => lhs; whnf)
        | (refine kB_dec (fun _ => ?_) (fun _ => ?_) <;> (conv => lhs; whnf))
        | (refine kB_elim (fun _ => ?_) (fun _ => ?_) <;> (conv => lhs; whnf)))
      all_goals (first | rfl | assumption | omega | (simp [*]; done) | (simp [*]; omega) | (simp_all []; done) | (simp only []; repeat' split; all_goals first | omega | (simp [*]; done) | (simp [*]; omega)))
    · have c1 := link_Send_s l h b d
      have e : l.send b d = l.push ⟨0, clamp d 1 8, b⟩ := by simp [Lk.send, hb]
      rw [e] at c1
      have hpl := push_len l.q [⟨0, clamp d 1 8, b⟩]
      have hlast := push_last l.q ⟨0, clamp d 1 8, b⟩
      have hc : 0 ≤ clamp l.lost 0 65535 ∧ clamp l.lost 0 65535 ≤ 65535 := cl_in l.lost
      have hc2 : l.lost ≤ 65535 → l.lost ≤ clamp l.lost 0 65535 := by intro h; simp only [clamp]; split <;> (try split) <;> omega
      have hlp := It.len (l.push ⟨0, clamp d 1 8, b⟩).q
      generalize hy : l.push ⟨0, clamp d 1 8, b⟩ = y at *
      have hyq : y.q = push l.q [⟨0, clamp d 1 8, b⟩] := by rw [← hy]; rfl
      have hyl : y.lost = min (clamp l.lost 0 65535 + ((l.q.length + 1 - 8 : Nat) : Int)) 65535 := by rw [← hy]; rfl
      rw [← hyq] at hpl hlast
      have hne : y.q ≠ [] := by intro e; rw [e] at hlast; cases hlast
      have hpos : 0 < y.q.length := List.length_pos_iff.2 hne
      simp only [List.length_cons, List.length_nil] at hpl
      have hg : (y.q.map It.av)[((y.q.map It.av).length - 1 : Int).toNat]? = some (It.av ⟨0, clamp d 1 8, b⟩) := by
        rw [hlp, List.getElem?_map, show ((y.q.length : Int) - 1).toNat = y.q.length - 1 from by omega, ← List.getLast?_eq_getElem?, hlast]; rfl
      refine ev M XE rfl rfl ?_
      conv => lhs; whnf
      repeat' (first
        | with_reducible rfl
        | (refine kO_go (c1) ?_; conv => lhs; whnf)
        | (refine kO_go (hg) ?_; conv => lhs; whnf)
        | (refine kO_go (l31_known_s) ?_; conv => lhs; whnf)
        | ((refine kB_false ?_ ?_); (focus (simp [hb]; done)); conv => lhs; whnf)
        | ((refine kB_true ?_ ?_); (focus (simp; done)); conv => lhs; whnf)
        | (refine kW_go (by omega) ?_; conv => lhs; whnf)
        | (refine kB_true (decide_eq_true (by omega)) ?_; conv => lhs; whnf)
        | (refine kB_false (decide_eq_false (by omega)) ?_; conv => lhs; whnf)
        | ((with_reducible refine kN_go ?_ ?_); (first | assumption | with_reducible rfl | (refine decide_eq_true ?_; simp only [lenMax, List.length_cons, List.length_nil, List.length_append, List.length_map]; omega) | rotate_left); conv => lhs; whnf)
        | ((with_reducible refine kW_go ?_ ?_); rotate_left; conv => lhs; whnf)
        | (refine kB_dec (fun _ => ?_) (fun _ => ?_) <;> (conv => lhs; whnf))
        | (refine kB_elim (fun _ => ?_) (fun _ => ?_) <;> (conv => lhs; whnf)))
      all_goals (first | rfl | assumption | omega | (simp [*]; done) | (simp [*]; omega) | (simp_all []; done) | (simp only []; repeat' split; all_goals first | omega | (simp [*]; done) | (simp [*]; omega)))
theorem LinkCaps_law (l : List AV) (h : ArgsOf [([.l [.i .i64, .i .i64, .s] true, .i .i64], true), ([.s], false), ([.i .i64], false)] l) : LM.call n_l31_LinkCaps l [] = some (.bool true, []) := by
  obtain ⟨_, _, rfl, h1, h⟩ := args_cons h
  obtain ⟨_, _, rfl, h2, h⟩ := args_cons h
  obtain ⟨_, _, rfl, h3, h⟩ := args_cons h
  obtain rfl := args_nil h
  obtain ⟨l, e1, l1, l2, l3⟩ := Lk.dec h1
  obtain ⟨b, e2, _⟩ := wfc_s (wfcs_one h2)
  obtain ⟨d, e3, _⟩ := wfc_i64 (wfcs_one h3)
  rw [e1, e2, e3]
  exact LinkCaps_s l l1 l2 l3 b d
end Go.Proofs.Ytciagkncanehfaa
