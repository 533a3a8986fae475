/-
  Functions of the program, evaluated: diag3.
-/
import Derived.Test.YtmnnichijcfjaaaDiag
set_option linter.unusedVariables false
set_option linter.unusedSimpArgs false
set_option maxRecDepth 100000
namespace Go.Proofs.Ytmnnichijcfjaaa
open Go.Proofs.PF
/-! ### In any order -/
theorem bump_out {x : D6} {k : Int} (h : ¬ (0 ≤ k ∧ k < 6)) : x.bump k = x := by
  unfold D6.bump
  rw [if_neg (by omega), if_neg (by omega), if_neg (by omega), if_neg (by omega), if_neg (by omega), if_neg (by omega)]
theorem bump_comm (x : D6) (j k : Int) : (x.bump j).bump k = (x.bump k).bump j := by
  by_cases hj : 0 ≤ j ∧ j < 6
  · by_cases hk : 0 ≤ k ∧ k < 6
    · rcases k6 hj with rfl | rfl | rfl | rfl | rfl | rfl <;> rcases k6 hk with rfl | rfl | rfl | rfl | rfl | rfl <;> rfl
    · rw [bump_out hk, bump_out hk]
  · rw [bump_out hj, bump_out hj]
theorem foldl_perm {l m : List Int} (h : l.Perm m) (x : D6) : l.foldl D6.bump x = m.foldl D6.bump x := h.foldl_eq' (fun a _ b _ z => bump_comm z a b) x
theorem add_comm6 (x y : D6) : x.add y = y.add x := by
  simp only [D6.add]
  congr 2 <;> omega
theorem iav_oks (q : List Int) : okElems 1 false (q.map iav) = true := by
  simp only [okElems, List.all_eq_true, List.mem_map]
  rintro _ ⟨x, -, rfl⟩
  rfl
@[reducible] def D6.cs (x : D6) : List AV := [.int .i64 x.a, .int .i64 x.b, .int .i64 x.c, .int .i64 x.d, .int .i64 x.e, .int .i64 x.f]
theorem DiagOrder_l (kinds more all : List Int) (ws : List AV) (hws : ws = all.map iav) (hq : all.length ≤ 1000) (d b : D6) : ∀ (n : Nat) (s : St) (g : Gr) (ys : List AV) (i : Int),
    keep [1, 2, 4, 7, 9, 10, 11] [104, 107] s = some ⟨[(1, .lst .no (kinds.map iav)), (2, .lst .no (more.map iav)), (4, .ptr 104 0), (7, .ptr 107 0), (9, .lst (.own 1) ws), (10, .lst g ys), (11, .int .i64 i)], [(107, ⟨true, b.cs⟩), (104, ⟨true, d.cs⟩)]⟩ →
    n ≤ all.length → i = (n : Int) - 1 → mayApp 1 g ys = true → ys = ((all.drop n).reverse).map iav →
    ∃ g', LM.loop ([1, 2, 4, 7, 9, 10, 11], [104, 107], [1, 2, 4, 7, 9, 10], B_l09_DiagOrder_0) s = some (.exit 0, ⟨[(1, .lst .no (kinds.map iav)), (2, .lst .no (more.map iav)), (4, .ptr 104 0), (7, .ptr 107 0), (9, .lst (.own 1) ws), (10, .lst g' (all.reverse.map iav))], [(107, ⟨true, b.cs⟩), (104, ⟨true, d.cs⟩)]⟩) := by
  have hl : ws.length = all.length := by rw [hws]; simp
  intro n
  induction n with
  | zero =>
    intro s g ys i hk hn hi hg hy
    refine ⟨g, ?_⟩
    refine evL M noExt hk ?_
    conv => lhs; whnf
    repeat' (first
      | with_reducible rfl
      | (refine kB_true (decide_eq_true (by omega)) ?_; conv => lhs; whnf)
      | (refine kB_false (decide_eq_false (by omega)) ?_; conv => lhs; whnf)
      | ((with_reducible refine kN_go ?_ ?_); (first | assumption | with_reducible rfl | (refine decide_eq_true ?_; simp only [lenMax, List.length_cons, List.length_nil, List.length_append, List.length_map]; omega) | rotate_left); conv => lhs; whnf)
      | ((with_reducible refine kW_go ?_ ?_); rotate_left; conv => lhs; whnf)
      | (refine kB_dec (fun _ => ?_) (fun _ => ?_) <;> (conv => lhs; whnf))
      | (refine kB_elim (fun _ => ?_) (fun _ => ?_) <;> (conv => lhs; whnf)))
    rw [hy]
    rfl
  | succ n ih =>
    intro s g ys i hk hn hi hg hy
    have hg0 : ws[i.toNat]? = some (iav all[n]) := by
      rw [hws, show i.toNat = n from by omega, List.getElem?_map, List.getElem?_eq_getElem (by omega)]; rfl
    have hyl : ys.length ≤ 1000 := by rw [hy]; simp; omega
    have hd : ys ++ [iav all[n]] = ((all.drop n).reverse).map iav := by
      rw [hy, List.drop_eq_getElem_cons (by omega : n < all.length), List.reverse_cons, List.map_append]; rfl
    have hi2 : i = (n : Int) := by omega
    obtain ⟨g', h'⟩ := ih ⟨[(1, .lst .no (kinds.map iav)), (2, .lst .no (more.map iav)), (4, .ptr 104 0), (7, .ptr 107 0), (9, .lst (.own 1) ws), (10, .lst (.own 1) (ys ++ [iav all[n]])), (11, .int .i64 (i - 1))], [(107, ⟨true, b.cs⟩), (104, ⟨true, d.cs⟩)]⟩ _ _ _ rfl (by omega) (by omega) rfl hd
    refine ⟨g', ?_⟩
    refine evL M noExt hk ?_
    conv => lhs; whnf
    repeat' (first
      | with_reducible rfl
      | (refine kO_go (hg0) ?_; conv => lhs; whnf)
      | (refine kB_true (decide_eq_true (by omega)) ?_; conv => lhs; whnf)
      | (refine kB_false (decide_eq_false (by omega)) ?_; conv => lhs; whnf)
      | ((with_reducible refine kN_go ?_ ?_); (first | assumption | with_reducible rfl | (refine decide_eq_true ?_; simp only [lenMax, List.length_cons, List.length_nil, List.length_append, List.length_map]; omega) | rotate_left); conv => lhs; whnf)
      | ((with_reducible refine kW_go ?_ ?_); rotate_left; conv => lhs; whnf)
      | (refine kB_dec (fun _ => ?_) (fun _ => ?_) <;> (conv => lhs; whnf))
      | (refine kB_elim (fun _ => ?_) (fun _ => ?_) <;> (conv => lhs; whnf)))
    refine Eq.trans ?_ h'
    exact loop_keep M noExt rfl rfl

set_option maxHeartbeats 1000000 in
theorem DiagOrder_s (d b : D6) (hd : d.Ok) (kinds more : List Int) (h1 : kinds.length ≤ 9223372036854775807) (h2 : more.length ≤ 9223372036854775807) :
    LM.call n_l09_DiagOrder [d.av, .lst .no (kinds.map iav), .lst .no (more.map iav), b.av] [] = some (.bool true, []) := by
  have l1 := iav_len kinds
  have l2 := iav_len more
  by_cases hc : kinds.length > 40 ∨ more.length > 40
  · refine ev M noExt rfl rfl ?_
    conv => lhs; whnf
    repeat' (first
      | with_reducible rfl
      | (refine kO_go (l09_known_s) ?_; conv => lhs; whnf)
      | (refine kB_true (decide_eq_true (by omega)) ?_; conv => lhs; whnf)
      | (refine kB_false (decide_eq_false (by omega)) ?_; conv => lhs; whnf)
      | ((with_reducible refine kN_go ?_ ?_); (first | assumption | with_reducible rfl | (refine decide_eq_true ?_; simp only [lenMax, List.length_cons, List.length_nil, List.length_append, List.length_map]; omega) | rotate_left); conv => lhs; whnf)
      | ((with_reducible refine kW_go ?_ ?_); rotate_left; conv => lhs; whnf)
      | (refine kB_dec (fun _ => ?_) (fun _ => ?_) <;> (conv => lhs; whnf))
      | (refine kB_elim (fun _ => ?_) (fun _ => ?_) <;> (conv => lhs; whnf)))
    all_goals (first | rfl | assumption | omega | (simp [*]; done) | (simp [*]; omega) | (simp only []; repeat' split; all_goals first | omega | (simp [*]; done) | (simp [*]; omega)))
  · have o1 := iav_oks kinds
    have o2 := iav_oks more
    have hl : (kinds ++ more).length ≤ 1000 := by simp; omega
    have lk : ([] ++ kinds.map iav).length = kinds.length := by simp
    have lkm : ([] ++ kinds.map iav ++ more.map iav).length = kinds.length + more.length := by simp
    have hws : [] ++ kinds.map iav ++ more.map iav = (kinds ++ more).map iav := by simp
    have ok2 : (kinds.foldl D6.bump d).Ok := by
      have : ∀ (l : List Int) (x : D6), x.Ok → (l.foldl D6.bump x).Ok := by
        intro l
        induction l with
        | nil => exact fun x h => h
        | cons k l ih => exact fun x h => ih _ (D6.bump_ok h k)
      exact this kinds d hd
    have c1 : LM.call n_diag_Bump [d.av, .lst .no ([] ++ kinds.map iav ++ more.map iav)] [] = some (((kinds ++ more).foldl D6.bump d).av, []) := by rw [hws]; exact diag_Bump_s d hd _ hl
    have c2 := diag_Bump_s d hd kinds (by omega)
    have c3 : LM.call n_diag_Bump [(kinds.foldl D6.bump d).av, .lst .no (more.map iav)] [] = some (((kinds ++ more).foldl D6.bump d).av, []) := by
      rw [List.foldl_append]; exact diag_Bump_s _ ok2 more (by omega)
    have c4 : LM.call n_diag_Bump [d.av, .lst .no ((kinds ++ more).reverse.map iav)] [] = some (((kinds ++ more).foldl D6.bump d).av, []) := by
      rw [← foldl_perm (List.reverse_perm (kinds ++ more))]; exact diag_Bump_s d hd _ (by simp at hl ⊢; omega)
    have c5 := diag_Add_s d b
    have c6 : LM.call n_diag_Add [b.av, d.av] [] = some ((d.add b).av, []) := by rw [add_comm6]; exact diag_Add_s b d
    generalize hA : (kinds ++ more).foldl D6.bump d = A at *
    generalize hB : kinds.foldl D6.bump d = B at *
    obtain ⟨g', hloop⟩ := DiagOrder_l kinds more (kinds ++ more) _ hws hl d b (kinds ++ more).length
      ⟨[(1, .lst .no (kinds.map iav)), (2, .lst .no (more.map iav)), (4, .ptr 104 0), (7, .ptr 107 0), (9, .lst (.own 1) ([] ++ kinds.map iav ++ more.map iav)), (10, .lst .full []), (11, .int .i64 (((kinds ++ more).length : Int) - 1))], [(107, ⟨true, b.cs⟩), (104, ⟨true, d.cs⟩)]⟩
      .full [] _ rfl (Nat.le_refl _) rfl rfl (by simp)
    have hll : ((kinds ++ more).length : Int) = ([] ++ kinds.map iav ++ more.map iav).length := by simp
    rw [hll] at hloop
    refine ev M noExt rfl rfl ?_
    conv => lhs; whnf
    repeat' (first
      | with_reducible rfl
      | (refine kO_go ((loop_keep M noExt (by rfl) rfl).trans hloop) ?_; conv => lhs; whnf)
      | (refine kO_go (c1) ?_; conv => lhs; whnf)
      | (refine kO_go (c2) ?_; conv => lhs; whnf)
      | (refine kO_go (c3) ?_; conv => lhs; whnf)
      | (refine kO_go (c4) ?_; conv => lhs; whnf)
      | (refine kO_go (c5) ?_; conv => lhs; whnf)
      | (refine kO_go (c6) ?_; conv => lhs; whnf)
      | (refine kO_go (l09_known_s) ?_; conv => lhs; whnf)
      | ((refine kB_true ?_ ?_); (focus (rw [D6.eqb]; simp; done)); conv => lhs; whnf)
      | (refine kB_true (decide_eq_true (by omega)) ?_; conv => lhs; whnf)
      | (refine kB_false (decide_eq_false (by omega)) ?_; conv => lhs; whnf)
      | ((with_reducible refine kN_go ?_ ?_); (first | assumption | with_reducible rfl | (refine decide_eq_true ?_; simp only [lenMax, List.length_cons, List.length_nil, List.length_append, List.length_map]; omega) | rotate_left); conv => lhs; whnf)
      | ((with_reducible refine kW_go ?_ ?_); rotate_left; conv => lhs; whnf)
      | (refine kB_dec (fun _ => ?_) (fun _ => ?_) <;> (conv => lhs; whnf))
      | (refine kB_elim (fun _ => ?_) (fun _ => ?_) <;> (conv => lhs; whnf)))
    all_goals (first | rfl | assumption | omega | (simp [*]; done) | (simp [*]; omega) | (simp only []; repeat' split; all_goals first | omega | (simp [*]; done) | (simp [*]; omega)))
theorem DiagOrder_law (l : List AV) (h : ArgsOf [([.i .i64, .i .i64, .i .i64, .i .i64, .i .i64, .i .i64], true), ([.l [.i .i64] false], false), ([.l [.i .i64] false], false), ([.i .i64, .i .i64, .i .i64, .i .i64, .i .i64, .i .i64], true)] l) : LM.call n_l09_DiagOrder l [] = some (.bool true, []) := by
  obtain ⟨_, _, rfl, h1, h⟩ := args_cons h
  obtain ⟨_, _, rfl, h2, h⟩ := args_cons h
  obtain ⟨_, _, rfl, h3, h⟩ := args_cons h
  obtain ⟨_, _, rfl, h4, h⟩ := args_cons h
  obtain rfl := args_nil h
  obtain ⟨x, e1, x1⟩ := D6.dec h1
  obtain ⟨ks, e2, k1, k2⟩ := ints.dec (wfcs_one h2)
  obtain ⟨ms, e3, m1, m2⟩ := ints.dec (wfcs_one h3)
  obtain ⟨y, e4, y1⟩ := D6.dec h4
  rw [e1, e2, e3, e4]
  exact DiagOrder_s x y x1 ks ms k2 m2
end Go.Proofs.Ytmnnichijcfjaaa
