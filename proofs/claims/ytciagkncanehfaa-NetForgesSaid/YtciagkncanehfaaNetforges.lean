/-
  Functions of the program, evaluated: netforges.
-/
import Derived.Test.YtciagkncanehfaaNetlaws
set_option linter.unusedVariables false
set_option linter.unusedSimpArgs false
set_option maxRecDepth 100000
namespace Go.Proofs.Ytciagkncanehfaa
open Go.Proofs.PF

/-! ### What is sent on one link is seen nowhere else -/
theorem forges_in (n : Nat) (hn : n ≤ 13) (f g d k tk : Int) (b : List UInt8) (r a1 b1 c1 d1 : Nt) (hr : r.n = n) (x y : List (List Fr)) (hx : x.length = n) (hy : y.length = n)
    (hbx : ∀ l ∈ x, l.length ≤ 4000000) (hby : ∀ l ∈ y, l.length ≤ 4000000)
    (hsame : ∀ j (h1 : j < x.length) (h2 : j < y.length), (if (j : Int) = g then oth f x[j] = oth f y[j] else x[j] = y[j])) : ∀ (m : Nat) (s : St) (j : Nat),
    keep [2, 3, 4, 7, 8, 9, 10, 11, 12, 13, 14] [103, 104, 107, 108, 111, 113] s = some ⟨[(2, .int .i64 tk), (3, .ptr 103 0), (4, .ptr 104 0), (7, .ptr 107 0), (8, .ptr 108 0), (9, .int .i64 k), (10, .lst .no (x.map fel)), (11, .ptr 111 0), (12, .lst .no (y.map fel)), (13, .ptr 113 0), (14, .int .i64 j)],
      [(113, ⟨true, [.int .i64 d1.n, .lst .no (d1.ls.map Lk.av)]⟩), (111, ⟨true, [.int .i64 c1.n, .lst .no (c1.ls.map Lk.av)]⟩), (108, ⟨true, [.int .i64 b1.n, .lst .no (b1.ls.map Lk.av)]⟩), (107, ⟨true, [.int .i64 a1.n, .lst .no (a1.ls.map Lk.av)]⟩), (104, ⟨true, [.int .i64 f, .int .i64 g, .int .i64 d, .str b]⟩), (103, ⟨true, [.int .i64 r.n, .lst .no (r.ls.map Lk.av)]⟩)]⟩ →
    j + m = n →
    LM.loop ([2, 3, 4, 7, 8, 9, 10, 11, 12, 13, 14], [103, 104, 107, 108, 111, 113], [2, 3, 4, 6, 7, 8, 9, 11, 13], B_l32_NetForges_0) s = some (.exit 2, ⟨[(2, .int .i64 tk), (3, .ptr 103 0), (4, .ptr 104 0), (6, .undef), (7, .ptr 107 0), (8, .ptr 108 0), (9, .int .i64 k), (11, .ptr 111 0), (13, .ptr 113 0)],
      [(113, ⟨true, [.int .i64 d1.n, .lst .no (d1.ls.map Lk.av)]⟩), (111, ⟨true, [.int .i64 c1.n, .lst .no (c1.ls.map Lk.av)]⟩), (108, ⟨true, [.int .i64 b1.n, .lst .no (b1.ls.map Lk.av)]⟩), (107, ⟨true, [.int .i64 a1.n, .lst .no (a1.ls.map Lk.av)]⟩), (104, ⟨true, [.int .i64 f, .int .i64 g, .int .i64 d, .str b]⟩), (103, ⟨true, [.int .i64 r.n, .lst .no (r.ls.map Lk.av)]⟩)]⟩) := by
  have hxl : (x.map fel).length = n := by simp [hx]
  have hyl : (y.map fel).length = n := by simp [hy]
  intro m
  induction m with
  | zero =>
    intro s j hk hj
    refine evL M XE hk ?_
    conv => lhs; whnf
    repeat' (first
      | with_reducible rfl
      | (refine kW_go (by omega) ?_; conv => lhs; whnf)
      | (refine kB_true (decide_eq_true (by omega)) ?_; conv => lhs; whnf)
      | (refine kB_false (decide_eq_false (by omega)) ?_; conv => lhs; whnf)
      | ((with_reducible refine kN_go ?_ ?_); (first | assumption | with_reducible rfl | (refine decide_eq_true ?_; simp only [lenMax, List.length_cons, List.length_nil, List.length_append, List.length_map]; omega) | rotate_left); conv => lhs; whnf)
      | ((with_reducible refine kW_go ?_ ?_); rotate_left; conv => lhs; whnf)
      | (refine kB_dec (fun _ => ?_) (fun _ => ?_) <;> (conv => lhs; whnf))
      | (refine kB_elim (fun _ => ?_) (fun _ => ?_) <;> (conv => lhs; whnf)))
    rfl
  | succ m ih =>
    intro s j hk hj
    have h1 : j < x.length := by omega
    have h2 : j < y.length := by omega
    have hgx : (x.map fel)[((j : Int)).toNat]? = some (fel x[j]) := by rw [Int.toNat_natCast, List.getElem?_map, List.getElem?_eq_getElem h1]; rfl
    have hgy : (y.map fel)[((j : Int)).toNat]? = some (fel y[j]) := by rw [Int.toNat_natCast, List.getElem?_map, List.getElem?_eq_getElem h2]; rfl
    have hs := hsame j h1 h2
    have lx := hbx _ (List.getElem_mem h1)
    have ly := hby _ (List.getElem_mem h2)
    by_cases hg : (j : Int) = g
    · rw [if_pos hg] at hs
      have ho := l32_others_s f x[j] lx
      have ho2 := l32_others_s f y[j] ly
      rw [← hs] at ho2
      have hfr := r32_Frames_s (oth f x[j]) (by have : (oth f x[j]).length ≤ x[j].length := List.length_filter_le _ _; omega)
      refine evL M XE hk ?_
      conv => lhs; whnf
      repeat' (first
        | with_reducible rfl
        | (refine kO_go (hgx) ?_; conv => lhs; whnf)
        | (refine kO_go (hgy) ?_; conv => lhs; whnf)
        | (refine kO_go (ho) ?_; conv => lhs; whnf)
        | (refine kO_go (ho2) ?_; conv => lhs; whnf)
        | (refine kO_go (hfr) ?_; conv => lhs; whnf)
        | (refine kW_go (by omega) ?_; conv => lhs; whnf)
        | (refine kB_true (decide_eq_true (by omega)) ?_; conv => lhs; whnf)
        | (refine kB_false (decide_eq_false (by omega)) ?_; conv => lhs; whnf)
        | ((with_reducible refine kN_go ?_ ?_); (first | assumption | with_reducible rfl | (refine decide_eq_true ?_; simp only [lenMax, List.length_cons, List.length_nil, List.length_append, List.length_map]; omega) | rotate_left); conv => lhs; whnf)
        | ((with_reducible refine kW_go ?_ ?_); rotate_left; conv => lhs; whnf)
        | (refine kB_dec (fun _ => ?_) (fun _ => ?_) <;> (conv => lhs; whnf))
        | (refine kB_elim (fun _ => ?_) (fun _ => ?_) <;> (conv => lhs; whnf)))
      all_goals exact ih _ (j + 1) rfl (by omega)
    · rw [if_neg hg] at hs
      rw [← hs] at hgy
      have hfr := r32_Frames_s x[j] (by omega)
      refine evL M XE hk ?_
      conv => lhs; whnf
      repeat' (first
        | with_reducible rfl
        | (refine kO_go (hgx) ?_; conv => lhs; whnf)
        | (refine kO_go (hgy) ?_; conv => lhs; whnf)
        | (refine kO_go (hfr) ?_; conv => lhs; whnf)
        | (refine kW_go (by omega) ?_; conv => lhs; whnf)
        | (refine kB_true (decide_eq_true (by omega)) ?_; conv => lhs; whnf)
        | (refine kB_false (decide_eq_false (by omega)) ?_; conv => lhs; whnf)
        | ((with_reducible refine kN_go ?_ ?_); (first | assumption | with_reducible rfl | (refine decide_eq_true ?_; simp only [lenMax, List.length_cons, List.length_nil, List.length_append, List.length_map]; omega) | rotate_left); conv => lhs; whnf)
        | ((with_reducible refine kW_go ?_ ?_); rotate_left; conv => lhs; whnf)
        | (refine kB_dec (fun _ => ?_) (fun _ => ?_) <;> (conv => lhs; whnf))
        | (refine kB_elim (fun _ => ?_) (fun _ => ?_) <;> (conv => lhs; whnf)))
      all_goals exact ih _ (j + 1) rfl (by omega)
end Go.Proofs.Ytciagkncanehfaa
