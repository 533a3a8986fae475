/-
  Functions of the program, evaluated: diag2.
-/
import Derived.Test.YtmnnichijcfjaaaDiag
set_option linter.unusedVariables false
set_option linter.unusedSimpArgs false
set_option maxRecDepth 100000
namespace Go.Proofs.Ytmnnichijcfjaaa
open Go.Proofs.PF
/-! ### Up -/
theorem bump_one (x : D6) (hx : (0 ≤ x.a ∧ x.a ≤ 65535) ∧ (0 ≤ x.b ∧ x.b ≤ 65535) ∧ (0 ≤ x.c ∧ x.c ≤ 65535) ∧ (0 ≤ x.d ∧ x.d ≤ 65535) ∧ (0 ≤ x.e ∧ x.e ≤ 65535) ∧ (0 ≤ x.f ∧ x.f ≤ 65535)) (k : Int) :
    let y := x.bump k
    ((k = 0 ∧ x.a < 65535 ∧ y.a = x.a + 1) ∨ (¬ (k = 0 ∧ x.a < 65535) ∧ y.a = x.a)) ∧ ((k = 1 ∧ x.b < 65535 ∧ y.b = x.b + 1) ∨ (¬ (k = 1 ∧ x.b < 65535) ∧ y.b = x.b)) ∧
    ((k = 2 ∧ x.c < 65535 ∧ y.c = x.c + 1) ∨ (¬ (k = 2 ∧ x.c < 65535) ∧ y.c = x.c)) ∧ ((k = 3 ∧ x.d < 65535 ∧ y.d = x.d + 1) ∨ (¬ (k = 3 ∧ x.d < 65535) ∧ y.d = x.d)) ∧
    ((k = 4 ∧ x.e < 65535 ∧ y.e = x.e + 1) ∨ (¬ (k = 4 ∧ x.e < 65535) ∧ y.e = x.e)) ∧ ((k = 5 ∧ x.f < 65535 ∧ y.f = x.f + 1) ∨ (¬ (k = 5 ∧ x.f < 65535) ∧ y.f = x.f)) := by
  have hs : ∀ n, 0 ≤ n ∧ n ≤ 65535 → (n < 65535 ∧ sat n 65535 = n + 1) ∨ (¬ n < 65535 ∧ sat n 65535 = n) := by
    intro n hn; simp only [sat]; split <;> (try split) <;> omega
  obtain ⟨h1, h2, h3, h4, h5, h6⟩ := hx
  have s1 := hs _ h1
  have s2 := hs _ h2
  have s3 := hs _ h3
  have s4 := hs _ h4
  have s5 := hs _ h5
  have s6 := hs _ h6
  simp only [D6.bump]
  by_cases k0 : k = 0
  · subst k0; simp; omega
  by_cases k1 : k = 1
  · subst k1; simp; omega
  by_cases k2 : k = 2
  · subst k2; simp; omega
  by_cases k3 : k = 3
  · subst k3; simp; omega
  by_cases k4 : k = 4
  · subst k4; simp; omega
  by_cases k5 : k = 5
  · subst k5; simp; omega
  simp [k0, k1, k2, k3, k4, k5]
theorem clean_id (x : D6) (hx : (0 ≤ x.a ∧ x.a ≤ 65535) ∧ (0 ≤ x.b ∧ x.b ≤ 65535) ∧ (0 ≤ x.c ∧ x.c ≤ 65535) ∧ (0 ≤ x.d ∧ x.d ≤ 65535) ∧ (0 ≤ x.e ∧ x.e ≤ 65535) ∧ (0 ≤ x.f ∧ x.f ≤ 65535)) : x.clean = x := by
  obtain ⟨h1, h2, h3, h4, h5, h6⟩ := hx
  cases x
  simp only [D6.clean] at *
  rw [cl_id h1, cl_id h2, cl_id h3, cl_id h4, cl_id h5, cl_id h6]
set_option maxHeartbeats 4000000 in
theorem DiagUp_s (d : D6) (k : Int) : LM.call n_l09_DiagUp [d.av, .int .i64 k] [] = some (.bool true, []) := by
  have c1 := diag_Clean_s d
  have hx : (0 ≤ d.clean.a ∧ d.clean.a ≤ 65535) ∧ (0 ≤ d.clean.b ∧ d.clean.b ≤ 65535) ∧ (0 ≤ d.clean.c ∧ d.clean.c ≤ 65535) ∧ (0 ≤ d.clean.d ∧ d.clean.d ≤ 65535) ∧ (0 ≤ d.clean.e ∧ d.clean.e ≤ 65535) ∧ (0 ≤ d.clean.f ∧ d.clean.f ≤ 65535) :=
    ⟨cl_in _, cl_in _, cl_in _, cl_in _, cl_in _, cl_in _⟩
  revert c1 hx
  generalize d.clean = x
  intro c1 hx
  have hok : x.Ok := by obtain ⟨h1, h2, h3, h4, h5, h6⟩ := hx; constructor <;> constructor <;> omega
  have hb := bump_one x hx k
  have c2 := diag_Bump_s x hok [k] (by simp)
  have c3 := (diag_Clean_s x).trans (by rw [clean_id x hx])
  simp only [List.foldl_cons, List.foldl_nil] at c2
  revert c2 hb
  generalize x.bump k = y
  intro hb c2
  dsimp only at hb
  have c4 := diag_Total_s y
  have ht : y.total ≤ 393210 := by
    have h1 := (cl_in y.a).2
    have h2 := (cl_in y.b).2
    have h3 := (cl_in y.c).2
    have h4 := (cl_in y.d).2
    have h5 := (cl_in y.e).2
    have h6 := (cl_in y.f).2
    simp only [D6.total]; omega
  obtain ⟨h1, h2, h3, h4, h5, h6⟩ := hx
  obtain ⟨g1, g2, g3, g4, g5, g6⟩ := hb
  refine ev M noExt rfl rfl ?_
  conv => lhs; whnf
  repeat' (first
    | with_reducible rfl
    | (refine kO_go (c1) ?_; conv => lhs; whnf)
    | (refine kO_go (c2) ?_; conv => lhs; whnf)
    | (refine kO_go (c3) ?_; conv => lhs; whnf)
    | (refine kO_go (c4) ?_; conv => lhs; whnf)
    | (refine kO_go (l09_known_s) ?_; conv => lhs; whnf)
    | (refine evLK M noExt rfl ?_; conv => lhs; whnf)
    | ((refine kB_true ?_ ?_); (focus (rw [D6.eqb]; simp; done)); conv => lhs; whnf)
    | ((refine kB_false ?_ ?_); (focus (simp; omega; done)); conv => lhs; whnf)
    | (refine kB_true (decide_eq_true (by omega)) ?_; conv => lhs; whnf)
    | (refine kB_false (decide_eq_false (by omega)) ?_; conv => lhs; whnf)
    | ((with_reducible refine kN_go ?_ ?_); (first | assumption | with_reducible rfl | (refine decide_eq_true ?_; simp only [lenMax, List.length_cons, List.length_nil, List.length_append, List.length_map]; omega) | rotate_left); conv => lhs; whnf)
    | ((with_reducible refine kW_go ?_ ?_); rotate_left; conv => lhs; whnf)
    | (refine kB_dec (fun _ => ?_) (fun _ => ?_) <;> (conv => lhs; whnf))
    | (refine kB_elim (fun _ => ?_) (fun _ => ?_) <;> (conv => lhs; whnf)))
  all_goals (first | rfl | assumption | omega | (simp [*]; done) | (simp [*]; omega) | (simp only []; repeat' split; all_goals first | omega | (simp [*]; done) | (simp [*]; omega)))
theorem DiagUp_law (l : List AV) (h : ArgsOf [([.i .i64, .i .i64, .i .i64, .i .i64, .i .i64, .i .i64], true), ([.i .i64], false)] l) : LM.call n_l09_DiagUp l [] = some (.bool true, []) := by
  obtain ⟨_, _, rfl, h1, h⟩ := args_cons h
  obtain ⟨_, _, rfl, h2, h⟩ := args_cons h
  obtain rfl := args_nil h
  obtain ⟨x, e1, x1⟩ := D6.dec h1
  obtain ⟨k, e2, _⟩ := wfc_i64 (wfcs_one h2)
  rw [e1, e2]
  exact DiagUp_s x k
end Go.Proofs.Ytmnnichijcfjaaa
