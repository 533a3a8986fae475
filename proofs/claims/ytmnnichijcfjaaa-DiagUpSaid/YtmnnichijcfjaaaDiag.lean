/-
  Functions of the program, evaluated: diag.
-/
import Derived.Test.YtmnnichijcfjaaaNum
set_option linter.unusedVariables false
set_option linter.unusedSimpArgs false
set_option maxRecDepth 100000
namespace Go.Proofs.Ytmnnichijcfjaaa
open Go.Proofs.PF
/-! ### Counters -/
structure D6 where
  a : Int
  b : Int
  c : Int
  d : Int
  e : Int
  f : Int
  deriving DecidableEq
@[reducible] def D6.av (x : D6) : AV := .agg [.int .i64 x.a, .int .i64 x.b, .int .i64 x.c, .int .i64 x.d, .int .i64 x.e, .int .i64 x.f]
structure D6.Ok (x : D6) : Prop where
  a : IN x.a
  b : IN x.b
  c : IN x.c
  d : IN x.d
  e : IN x.e
  f : IN x.f
def D6.clean (x : D6) : D6 := ⟨cl x.a, cl x.b, cl x.c, cl x.d, cl x.e, cl x.f⟩
def D6.bump (x : D6) (k : Int) : D6 :=
  if k = 0 then { x with a := sat x.a 65535 } else if k = 1 then { x with b := sat x.b 65535 } else if k = 2 then { x with c := sat x.c 65535 }
  else if k = 3 then { x with d := sat x.d 65535 } else if k = 4 then { x with e := sat x.e 65535 } else if k = 5 then { x with f := sat x.f 65535 } else x
def D6.total (x : D6) : Int := cl x.a + cl x.b + cl x.c + cl x.d + cl x.e + cl x.f
def D6.add (x y : D6) : D6 := D6.clean ⟨cl x.a + cl y.a, cl x.b + cl y.b, cl x.c + cl y.c, cl x.d + cl y.d, cl x.e + cl y.e, cl x.f + cl y.f⟩
theorem D6.eqb (x y : D6) : (decide (x.a = y.a) && (decide (x.b = y.b) && (decide (x.c = y.c) && (decide (x.d = y.d) && (decide (x.e = y.e) && (decide (x.f = y.f) && true)))))) = decide (x = y) := by
  cases x; cases y
  simp only [D6.mk.injEq, Bool.and_true]
  simp only [Bool.decide_and]
theorem diag_clean_s (x : D6) : LM.call n_diag_counters_clean [x.av] [] = some (x.clean.av, []) := by
  refine ev M noExt rfl rfl ?_
  conv => lhs; whnf
  repeat' (first
    | with_reducible rfl
    | (refine evLK M noExt rfl ?_; conv => lhs; whnf)
    | (refine kO_go (num_Clamp_s _ _ _) ?_; conv => lhs; whnf)
    | (refine kB_true (decide_eq_true (by omega)) ?_; conv => lhs; whnf)
    | (refine kB_false (decide_eq_false (by omega)) ?_; conv => lhs; whnf)
    | ((with_reducible refine kN_go ?_ ?_); (first | assumption | with_reducible rfl | (refine decide_eq_true ?_; simp only [lenMax, List.length_cons, List.length_nil, List.length_append, List.length_map]; omega) | rotate_left); conv => lhs; whnf)
    | ((with_reducible refine kW_go ?_ ?_); rotate_left; conv => lhs; whnf)
    | (refine kB_dec (fun _ => ?_) (fun _ => ?_) <;> (conv => lhs; whnf))
    | (refine kB_elim (fun _ => ?_) (fun _ => ?_) <;> (conv => lhs; whnf)))
  all_goals (first | rfl | assumption | omega | (simp [*]; done) | (simp [*]; omega) | (simp only []; repeat' split; all_goals first | omega | (simp [*]; done) | (simp [*]; omega)))
theorem diag_Clean_s (x : D6) : LM.call n_diag_Clean [x.av] [] = some (x.clean.av, []) := by
  refine ev M noExt rfl rfl ?_
  conv => lhs; whnf
  repeat' (first
    | with_reducible rfl
    | (refine kO_go (diag_clean_s x) ?_; conv => lhs; whnf)
    | (refine kB_true (decide_eq_true (by omega)) ?_; conv => lhs; whnf)
    | (refine kB_false (decide_eq_false (by omega)) ?_; conv => lhs; whnf)
    | ((with_reducible refine kN_go ?_ ?_); (first | assumption | with_reducible rfl | (refine decide_eq_true ?_; simp only [lenMax, List.length_cons, List.length_nil, List.length_append, List.length_map]; omega) | rotate_left); conv => lhs; whnf)
    | ((with_reducible refine kW_go ?_ ?_); rotate_left; conv => lhs; whnf)
    | (refine kB_dec (fun _ => ?_) (fun _ => ?_) <;> (conv => lhs; whnf))
    | (refine kB_elim (fun _ => ?_) (fun _ => ?_) <;> (conv => lhs; whnf)))
  all_goals (first | rfl | assumption | omega | (simp [*]; done) | (simp [*]; omega) | (simp only []; repeat' split; all_goals first | omega | (simp [*]; done) | (simp [*]; omega)))
theorem r09_Clean_s (x : D6) : LM.call n_r09_Clean [x.av] [] = some (x.clean.av, []) := by
  refine ev M noExt rfl rfl ?_
  conv => lhs; whnf
  repeat' (first
    | with_reducible rfl
    | (refine evLK M noExt rfl ?_; conv => lhs; whnf)
    | (refine kO_go (r01_Clamp_s _ _ _) ?_; conv => lhs; whnf)
    | (refine kB_true (decide_eq_true (by omega)) ?_; conv => lhs; whnf)
    | (refine kB_false (decide_eq_false (by omega)) ?_; conv => lhs; whnf)
    | ((with_reducible refine kN_go ?_ ?_); (first | assumption | with_reducible rfl | (refine decide_eq_true ?_; simp only [lenMax, List.length_cons, List.length_nil, List.length_append, List.length_map]; omega) | rotate_left); conv => lhs; whnf)
    | ((with_reducible refine kW_go ?_ ?_); rotate_left; conv => lhs; whnf)
    | (refine kB_dec (fun _ => ?_) (fun _ => ?_) <;> (conv => lhs; whnf))
    | (refine kB_elim (fun _ => ?_) (fun _ => ?_) <;> (conv => lhs; whnf)))
  all_goals (first | rfl | assumption | omega | (simp [*]; done) | (simp [*]; omega) | (simp only []; repeat' split; all_goals first | omega | (simp [*]; done) | (simp [*]; omega)))
theorem diag_Add_s (x y : D6) : LM.call n_diag_Add [x.av, y.av] [] = some ((x.add y).av, []) := by
  have h1 := cl_in x.a
  have h2 := cl_in x.b
  have h3 := cl_in x.c
  have h4 := cl_in x.d
  have h5 := cl_in x.e
  have h6 := cl_in x.f
  have k1 := cl_in y.a
  have k2 := cl_in y.b
  have k3 := cl_in y.c
  have k4 := cl_in y.d
  have k5 := cl_in y.e
  have k6 := cl_in y.f
  refine ev M noExt rfl rfl ?_
  conv => lhs; whnf
  repeat' (first
    | with_reducible rfl
    | (refine kO_go (diag_clean_s x) ?_; conv => lhs; whnf)
    | (refine kO_go (diag_clean_s y) ?_; conv => lhs; whnf)
    | (refine evLK M noExt rfl ?_; conv => lhs; whnf)
    | (refine kO_go (diag_clean_s ⟨_, _, _, _, _, _⟩) ?_; conv => lhs; whnf)
    | (refine kB_true (decide_eq_true (by omega)) ?_; conv => lhs; whnf)
    | (refine kB_false (decide_eq_false (by omega)) ?_; conv => lhs; whnf)
    | ((with_reducible refine kN_go ?_ ?_); (first | assumption | with_reducible rfl | (refine decide_eq_true ?_; simp only [lenMax, List.length_cons, List.length_nil, List.length_append, List.length_map]; omega) | rotate_left); conv => lhs; whnf)
    | ((with_reducible refine kW_go ?_ ?_); rotate_left; conv => lhs; whnf)
    | (refine kB_dec (fun _ => ?_) (fun _ => ?_) <;> (conv => lhs; whnf))
    | (refine kB_elim (fun _ => ?_) (fun _ => ?_) <;> (conv => lhs; whnf)))
  all_goals (first | rfl | assumption | omega | (simp [*, D6.add, D6.clean]; done) | (simp [*, D6.add, D6.clean]; omega) | (simp only [D6.add, D6.clean]; repeat' split; all_goals first | omega | (simp [*]; done) | (simp [*]; omega)))
theorem r09_Add_s (x y : D6) : LM.call n_r09_Add [x.av, y.av] [] = some ((x.add y).av, []) := by
  have h1 := cl_in x.a
  have h2 := cl_in x.b
  have h3 := cl_in x.c
  have h4 := cl_in x.d
  have h5 := cl_in x.e
  have h6 := cl_in x.f
  have k1 := cl_in y.a
  have k2 := cl_in y.b
  have k3 := cl_in y.c
  have k4 := cl_in y.d
  have k5 := cl_in y.e
  have k6 := cl_in y.f
  refine ev M noExt rfl rfl ?_
  conv => lhs; whnf
  repeat' (first
    | with_reducible rfl
    | (refine kO_go (r09_Clean_s x) ?_; conv => lhs; whnf)
    | (refine kO_go (r09_Clean_s y) ?_; conv => lhs; whnf)
    | (refine evLK M noExt rfl ?_; conv => lhs; whnf)
    | (refine kO_go (r09_Clean_s ⟨_, _, _, _, _, _⟩) ?_; conv => lhs; whnf)
    | (refine kB_true (decide_eq_true (by omega)) ?_; conv => lhs; whnf)
    | (refine kB_false (decide_eq_false (by omega)) ?_; conv => lhs; whnf)
    | ((with_reducible refine kN_go ?_ ?_); (first | assumption | with_reducible rfl | (refine decide_eq_true ?_; simp only [lenMax, List.length_cons, List.length_nil, List.length_append, List.length_map]; omega) | rotate_left); conv => lhs; whnf)
    | ((with_reducible refine kW_go ?_ ?_); rotate_left; conv => lhs; whnf)
    | (refine kB_dec (fun _ => ?_) (fun _ => ?_) <;> (conv => lhs; whnf))
    | (refine kB_elim (fun _ => ?_) (fun _ => ?_) <;> (conv => lhs; whnf)))
  all_goals (first | rfl | assumption | omega | (simp [*, D6.add, D6.clean]; done) | (simp [*, D6.add, D6.clean]; omega) | (simp only [D6.add, D6.clean]; repeat' split; all_goals first | omega | (simp [*]; done) | (simp [*]; omega)))
theorem diag_Total_s (x : D6) : LM.call n_diag_Total [x.av] [] = some (.int .i64 x.total, []) := by
  have h1 := cl_in x.a
  have h2 := cl_in x.b
  have h3 := cl_in x.c
  have h4 := cl_in x.d
  have h5 := cl_in x.e
  have h6 := cl_in x.f
  refine ev M noExt rfl rfl ?_
  conv => lhs; whnf
  repeat' (first
    | with_reducible rfl
    | (refine kO_go (diag_clean_s x) ?_; conv => lhs; whnf)
    | (refine evLK M noExt rfl ?_; conv => lhs; whnf)
    | (refine kB_true (decide_eq_true (by omega)) ?_; conv => lhs; whnf)
    | (refine kB_false (decide_eq_false (by omega)) ?_; conv => lhs; whnf)
    | ((with_reducible refine kN_go ?_ ?_); (first | assumption | with_reducible rfl | (refine decide_eq_true ?_; simp only [lenMax, List.length_cons, List.length_nil, List.length_append, List.length_map]; omega) | rotate_left); conv => lhs; whnf)
    | ((with_reducible refine kW_go ?_ ?_); rotate_left; conv => lhs; whnf)
    | (refine kB_dec (fun _ => ?_) (fun _ => ?_) <;> (conv => lhs; whnf))
    | (refine kB_elim (fun _ => ?_) (fun _ => ?_) <;> (conv => lhs; whnf)))
  all_goals (first | rfl | assumption | omega | (simp [*, D6.total, D6.clean]; done) | (simp [*, D6.total, D6.clean]; omega) | (simp only [D6.total, D6.clean]; repeat' split; all_goals first | omega | (simp [*]; done) | (simp [*]; omega)))
theorem r09_Total_s (x : D6) : LM.call n_r09_Total [x.av] [] = some (.int .i64 x.total, []) := by
  have h1 := cl_in x.a
  have h2 := cl_in x.b
  have h3 := cl_in x.c
  have h4 := cl_in x.d
  have h5 := cl_in x.e
  have h6 := cl_in x.f
  refine ev M noExt rfl rfl ?_
  conv => lhs; whnf
  repeat' (first
    | with_reducible rfl
    | (refine kO_go (r09_Clean_s x) ?_; conv => lhs; whnf)
    | (refine evLK M noExt rfl ?_; conv => lhs; whnf)
    | (refine kB_true (decide_eq_true (by omega)) ?_; conv => lhs; whnf)
    | (refine kB_false (decide_eq_false (by omega)) ?_; conv => lhs; whnf)
    | ((with_reducible refine kN_go ?_ ?_); (first | assumption | with_reducible rfl | (refine decide_eq_true ?_; simp only [lenMax, List.length_cons, List.length_nil, List.length_append, List.length_map]; omega) | rotate_left); conv => lhs; whnf)
    | ((with_reducible refine kW_go ?_ ?_); rotate_left; conv => lhs; whnf)
    | (refine kB_dec (fun _ => ?_) (fun _ => ?_) <;> (conv => lhs; whnf))
    | (refine kB_elim (fun _ => ?_) (fun _ => ?_) <;> (conv => lhs; whnf)))
  all_goals (first | rfl | assumption | omega | (simp [*, D6.total, D6.clean]; done) | (simp [*, D6.total, D6.clean]; omega) | (simp only [D6.total, D6.clean]; repeat' split; all_goals first | omega | (simp [*]; done) | (simp [*]; omega)))
def kindOf (e : Int) : Int :=
  if e = 3 ∨ e = 16 ∨ e = 11 ∨ e = 2 ∨ e = 15 ∨ e = 4 ∨ e = 5 ∨ e = 6 ∨ e = 7 then 0 else if e = 10 then 1 else if e = 17 then 2 else if e = 13 then 3 else if e = 9 then 4 else -1
theorem diag_Kind_s (e : Int) : LM.call n_diag_Kind [.int .i64 e] [] = some (.int .i64 (kindOf e), []) := by
  unfold kindOf
  refine ev M noExt rfl rfl ?_
  conv => lhs; whnf
  repeat' (first
    | with_reducible rfl
    | (refine kB_true (decide_eq_true (by omega)) ?_; conv => lhs; whnf)
    | (refine kB_false (decide_eq_false (by omega)) ?_; conv => lhs; whnf)
    | ((with_reducible refine kN_go ?_ ?_); (first | assumption | with_reducible rfl | (refine decide_eq_true ?_; simp only [lenMax, List.length_cons, List.length_nil, List.length_append, List.length_map]; omega) | rotate_left); conv => lhs; whnf)
    | ((with_reducible refine kW_go ?_ ?_); rotate_left; conv => lhs; whnf)
    | (refine kB_dec (fun _ => ?_) (fun _ => ?_) <;> (conv => lhs; whnf))
    | (refine kB_elim (fun _ => ?_) (fun _ => ?_) <;> (conv => lhs; whnf)))
  all_goals (first | rfl | assumption | omega | (simp [*]; done) | (simp [*]; omega) | (simp only []; repeat' split; all_goals first | omega | (simp [*]; done) | (simp [*]; omega)))
theorem r09_Kind_s (e : Int) : LM.call n_r09_Kind [.int .i64 e] [] = some (.int .i64 (kindOf e), []) := by
  unfold kindOf
  refine ev M noExt rfl rfl ?_
  conv => lhs; whnf
  repeat' (first
    | with_reducible rfl
    | (refine kB_true (decide_eq_true (by omega)) ?_; conv => lhs; whnf)
    | (refine kB_false (decide_eq_false (by omega)) ?_; conv => lhs; whnf)
    | ((with_reducible refine kN_go ?_ ?_); (first | assumption | with_reducible rfl | (refine decide_eq_true ?_; simp only [lenMax, List.length_cons, List.length_nil, List.length_append, List.length_map]; omega) | rotate_left); conv => lhs; whnf)
    | ((with_reducible refine kW_go ?_ ?_); rotate_left; conv => lhs; whnf)
    | (refine kB_dec (fun _ => ?_) (fun _ => ?_) <;> (conv => lhs; whnf))
    | (refine kB_elim (fun _ => ?_) (fun _ => ?_) <;> (conv => lhs; whnf)))
  all_goals (first | rfl | assumption | omega | (simp [*]; done) | (simp [*]; omega) | (simp only []; repeat' split; all_goals first | omega | (simp [*]; done) | (simp [*]; omega)))
abbrev iav (n : Int) : AV := .int .i64 n
theorem iav_len (q : List Int) : (q.map iav).length = q.length := by simp
theorem k6 {k : Int} (h : 0 ≤ k ∧ k < 6) : k = 0 ∨ k = 1 ∨ k = 2 ∨ k = 3 ∨ k = 4 ∨ k = 5 := by omega
theorem D6.bump_ok {x : D6} (h : x.Ok) (k : Int) : (x.bump k).Ok := by
  obtain ⟨h1, h2, h3, h4, h5, h6⟩ := h
  have hs : ∀ n, IN n → IN (sat n 65535) := by intro n hn; simp only [sat]; split <;> (try split) <;> constructor <;> omega
  unfold D6.bump
  repeat' split
  all_goals (constructor <;> first | assumption | exact hs _ (by assumption))
theorem diag_Bump_l (ks : List Int) (hq : ks.length ≤ 1000) : ∀ (post pre : List Int) (s : St) (x : D6) (z : List AV) (i m : Int),
    keep [2, 4, 7, 8, 9] [102, 104] s = some ⟨[(2, .ptr 102 0), (4, .ptr 104 0), (7, .lst .no (ks.map iav)), (8, .int .i64 m), (9, .int .i64 i)],
      [(104, ⟨true, [.int .i64 0, .int .i64 0, .int .i64 0, .int .i64 0, .int .i64 0, .int .i64 0]⟩), (102, ⟨true, [.int .i64 x.a, .int .i64 x.b, .int .i64 x.c, .int .i64 x.d, .int .i64 x.e, .int .i64 x.f]⟩)]⟩ →
    m = ks.length → ks = pre ++ post → i = pre.length → x.Ok →
    LM.loop ([2, 4, 7, 8, 9], [102, 104], [2, 4], B_diag_Bump_0) s = some (.exit 0, ⟨[(2, .ptr 102 0), (4, .ptr 104 0)],
      [(104, ⟨true, [.int .i64 0, .int .i64 0, .int .i64 0, .int .i64 0, .int .i64 0, .int .i64 0]⟩), (102, ⟨true, (post.foldl D6.bump x).av.cells⟩)]⟩) := by
  intro post
  induction post with
  | nil =>
    intro pre s x z i m hk hm hpre hi hx
    have hl : ks.length = pre.length := by rw [hpre]; simp
    refine evL M noExt hk ?_
    conv => lhs; whnf
    repeat' (first
      | with_reducible rfl
      | (refine kB_true (decide_eq_true (by omega)) ?_; conv => lhs; whnf)
      | (refine kB_false (decide_eq_false (by omega)) ?_; conv => lhs; whnf)
      | ((with_reducible refine kN_go ?_ ?_); (first | assumption | with_reducible rfl | (refine decide_eq_true ?_; simp only [lenMax, List.length_cons, List.length_nil, List.length_append, List.length_map]; omega) | rotate_left); conv => lhs; whnf)
      | ((with_reducible refine kW_go ?_ ?_); rotate_left; conv => lhs; whnf)
      | (refine kB_dec (fun _ => ?_) (fun _ => ?_) <;> (conv => lhs; whnf))
      | (refine kB_elim (fun _ => ?_) (fun _ => ?_) <;> (conv => lhs; whnf)))
    all_goals rfl
  | cons k post ih =>
    intro pre s x z i m hk hm hpre hi hx
    have hl : ks.length = pre.length + post.length + 1 := by rw [hpre]; simp; omega
    have hl2 := iav_len ks
    have hg : (ks.map iav)[i.toNat]? = some (iav k) := by rw [hpre, hi]; simp
    have hx' := hx
    obtain ⟨h1, h2, h3, h4, h5, h6⟩ := hx
    by_cases hr : 0 ≤ k ∧ k < 6
    · rcases k6 hr with rfl | rfl | rfl | rfl | rfl | rfl
      all_goals (
        refine evL M noExt hk ?_
        conv => lhs; whnf
        repeat' (first
          | with_reducible rfl
          | (refine kO_go (hg) ?_; conv => lhs; whnf)
          | (refine kO_go (num_Sat_s _ _ (by omega) (by omega)) ?_; conv => lhs; whnf)
          | (refine kB_true (decide_eq_true (by omega)) ?_; conv => lhs; whnf)
          | (refine kB_false (decide_eq_false (by omega)) ?_; conv => lhs; whnf)
          | ((with_reducible refine kN_go ?_ ?_); (first | assumption | with_reducible rfl | (refine decide_eq_true ?_; simp only [lenMax, List.length_cons, List.length_nil, List.length_append, List.length_map]; omega) | rotate_left); conv => lhs; whnf)
          | ((with_reducible refine kW_go ?_ ?_); rotate_left; conv => lhs; whnf)
          | (refine kB_dec (fun _ => ?_) (fun _ => ?_) <;> (conv => lhs; whnf))
          | (refine kB_elim (fun _ => ?_) (fun _ => ?_) <;> (conv => lhs; whnf)))
        exact (ih (pre ++ [_]) _ (x.bump _) z _ _ rfl hm (hpre.trans (List.append_cons _ _ _)) (by simp [hi]) (D6.bump_ok hx' _)))
    · have hb : x.bump k = x := by
        unfold D6.bump
        rw [if_neg (by omega), if_neg (by omega), if_neg (by omega), if_neg (by omega), if_neg (by omega), if_neg (by omega)]
      refine evL M noExt hk ?_
      conv => lhs; whnf
      repeat' (first
        | with_reducible rfl
        | (refine kO_go (hg) ?_; conv => lhs; whnf)
        | (refine kB_true (decide_eq_true (by omega)) ?_; conv => lhs; whnf)
        | (refine kB_false (decide_eq_false (by omega)) ?_; conv => lhs; whnf)
        | ((with_reducible refine kN_go ?_ ?_); (first | assumption | with_reducible rfl | (refine decide_eq_true ?_; simp only [lenMax, List.length_cons, List.length_nil, List.length_append, List.length_map]; omega) | rotate_left); conv => lhs; whnf)
        | ((with_reducible refine kW_go ?_ ?_); rotate_left; conv => lhs; whnf)
        | (refine kB_dec (fun _ => ?_) (fun _ => ?_) <;> (conv => lhs; whnf))
        | (refine kB_elim (fun _ => ?_) (fun _ => ?_) <;> (conv => lhs; whnf)))
      all_goals (
        rw [List.foldl_cons, hb]
        exact ih (pre ++ [_]) _ x z _ _ rfl hm (hpre.trans (List.append_cons _ _ _)) (by simp [hi]) hx')
theorem r09_Bump_l (ks : List Int) (hq : ks.length ≤ 1000) : ∀ (post pre : List Int) (s : St) (x : D6) (z : List AV) (i : Int),
    keep [1, 2, 4, 5] [102, 104] s = some ⟨[(1, .lst .no (ks.map iav)), (2, .ptr 102 0), (4, .ptr 104 0), (5, .int .i64 i)],
      [(104, ⟨true, [.int .i64 0, .int .i64 0, .int .i64 0, .int .i64 0, .int .i64 0, .int .i64 0]⟩), (102, ⟨true, [.int .i64 x.a, .int .i64 x.b, .int .i64 x.c, .int .i64 x.d, .int .i64 x.e, .int .i64 x.f]⟩)]⟩ →
    ks = pre ++ post → i = pre.length → x.Ok →
    LM.loop ([1, 2, 4, 5], [102, 104], [2, 4], B_r09_Bump_0) s = some (.exit 0, ⟨[(2, .ptr 102 0), (4, .ptr 104 0)],
      [(104, ⟨true, [.int .i64 0, .int .i64 0, .int .i64 0, .int .i64 0, .int .i64 0, .int .i64 0]⟩), (102, ⟨true, (post.foldl D6.bump x).av.cells⟩)]⟩) := by
  intro post
  induction post with
  | nil =>
    intro pre s x z i hk hpre hi hx
    have hl : ks.length = pre.length := by rw [hpre]; simp
    have hl2 := iav_len ks
    refine evL M noExt hk ?_
    conv => lhs; whnf
    repeat' (first
      | with_reducible rfl
      | (refine kB_true (decide_eq_true (by omega)) ?_; conv => lhs; whnf)
      | (refine kB_false (decide_eq_false (by omega)) ?_; conv => lhs; whnf)
      | ((with_reducible refine kN_go ?_ ?_); (first | assumption | with_reducible rfl | (refine decide_eq_true ?_; simp only [lenMax, List.length_cons, List.length_nil, List.length_append, List.length_map]; omega) | rotate_left); conv => lhs; whnf)
      | ((with_reducible refine kW_go ?_ ?_); rotate_left; conv => lhs; whnf)
      | (refine kB_dec (fun _ => ?_) (fun _ => ?_) <;> (conv => lhs; whnf))
      | (refine kB_elim (fun _ => ?_) (fun _ => ?_) <;> (conv => lhs; whnf)))
    all_goals rfl
  | cons k post ih =>
    intro pre s x z i hk hpre hi hx
    have hl : ks.length = pre.length + post.length + 1 := by rw [hpre]; simp; omega
    have hl2 := iav_len ks
    have hg : (ks.map iav)[i.toNat]? = some (iav k) := by rw [hpre, hi]; simp
    have hx' := hx
    obtain ⟨h1, h2, h3, h4, h5, h6⟩ := hx
    by_cases hr : 0 ≤ k ∧ k < 6
    · rcases k6 hr with rfl | rfl | rfl | rfl | rfl | rfl
      all_goals (
        refine evL M noExt hk ?_
        conv => lhs; whnf
        repeat' (first
          | with_reducible rfl
          | (refine kO_go (hg) ?_; conv => lhs; whnf)
          | (refine kO_go (r01_Sat_s _ _ (by omega) (by omega)) ?_; conv => lhs; whnf)
          | (refine kB_true (decide_eq_true (by omega)) ?_; conv => lhs; whnf)
          | (refine kB_false (decide_eq_false (by omega)) ?_; conv => lhs; whnf)
          | ((with_reducible refine kN_go ?_ ?_); (first | assumption | with_reducible rfl | (refine decide_eq_true ?_; simp only [lenMax, List.length_cons, List.length_nil, List.length_append, List.length_map]; omega) | rotate_left); conv => lhs; whnf)
          | ((with_reducible refine kW_go ?_ ?_); rotate_left; conv => lhs; whnf)
          | (refine kB_dec (fun _ => ?_) (fun _ => ?_) <;> (conv => lhs; whnf))
          | (refine kB_elim (fun _ => ?_) (fun _ => ?_) <;> (conv => lhs; whnf)))
        exact (ih (pre ++ [_]) _ (x.bump _) z _ rfl (hpre.trans (List.append_cons _ _ _)) (by simp [hi]) (D6.bump_ok hx' _)))
    · have hb : x.bump k = x := by
        unfold D6.bump
        rw [if_neg (by omega), if_neg (by omega), if_neg (by omega), if_neg (by omega), if_neg (by omega), if_neg (by omega)]
      refine evL M noExt hk ?_
      conv => lhs; whnf
      repeat' (first
        | with_reducible rfl
        | (refine kO_go (hg) ?_; conv => lhs; whnf)
        | (refine kB_true (decide_eq_true (by omega)) ?_; conv => lhs; whnf)
        | (refine kB_false (decide_eq_false (by omega)) ?_; conv => lhs; whnf)
        | ((with_reducible refine kN_go ?_ ?_); (first | assumption | with_reducible rfl | (refine decide_eq_true ?_; simp only [lenMax, List.length_cons, List.length_nil, List.length_append, List.length_map]; omega) | rotate_left); conv => lhs; whnf)
        | ((with_reducible refine kW_go ?_ ?_); rotate_left; conv => lhs; whnf)
        | (refine kB_dec (fun _ => ?_) (fun _ => ?_) <;> (conv => lhs; whnf))
        | (refine kB_elim (fun _ => ?_) (fun _ => ?_) <;> (conv => lhs; whnf)))
      all_goals (
        rw [List.foldl_cons, hb]
        exact ih (pre ++ [_]) _ x z _ rfl (hpre.trans (List.append_cons _ _ _)) (by simp [hi]) hx')

theorem diag_Bump_s (x : D6) (hx : x.Ok) (ks : List Int) (hq : ks.length ≤ 1000) : LM.call n_diag_Bump [x.av, .lst .no (ks.map iav)] [] = some ((ks.foldl D6.bump x).av, []) := by
  refine ev M noExt rfl rfl ?_
  conv => lhs; whnf
  repeat' (first
    | with_reducible rfl
    | (refine kO_go (diag_Bump_l ks hq ks [] _ x [] _ _ rfl (by simp) rfl rfl hx) ?_; conv => lhs; whnf)
    | (refine kB_true (decide_eq_true (by omega)) ?_; conv => lhs; whnf)
    | (refine kB_false (decide_eq_false (by omega)) ?_; conv => lhs; whnf)
    | ((with_reducible refine kN_go ?_ ?_); (first | assumption | with_reducible rfl | (refine decide_eq_true ?_; simp only [lenMax, List.length_cons, List.length_nil, List.length_append, List.length_map]; omega) | rotate_left); conv => lhs; whnf)
    | ((with_reducible refine kW_go ?_ ?_); rotate_left; conv => lhs; whnf)
    | (refine kB_dec (fun _ => ?_) (fun _ => ?_) <;> (conv => lhs; whnf))
    | (refine kB_elim (fun _ => ?_) (fun _ => ?_) <;> (conv => lhs; whnf)))
  simp
theorem r09_Bump_s (x : D6) (hx : x.Ok) (ks : List Int) (hq : ks.length ≤ 1000) : LM.call n_r09_Bump [x.av, .lst .no (ks.map iav)] [] = some ((ks.foldl D6.bump x).av, []) := by
  refine ev M noExt rfl rfl ?_
  conv => lhs; whnf
  repeat' (first
    | with_reducible rfl
    | (refine kO_go (r09_Bump_l ks hq ks [] _ x [] _ rfl rfl rfl hx) ?_; conv => lhs; whnf)
    | (refine kB_true (decide_eq_true (by omega)) ?_; conv => lhs; whnf)
    | (refine kB_false (decide_eq_false (by omega)) ?_; conv => lhs; whnf)
    | ((with_reducible refine kN_go ?_ ?_); (first | assumption | with_reducible rfl | (refine decide_eq_true ?_; simp only [lenMax, List.length_cons, List.length_nil, List.length_append, List.length_map]; omega) | rotate_left); conv => lhs; whnf)
    | ((with_reducible refine kW_go ?_ ?_); rotate_left; conv => lhs; whnf)
    | (refine kB_dec (fun _ => ?_) (fun _ => ?_) <;> (conv => lhs; whnf))
    | (refine kB_elim (fun _ => ?_) (fun _ => ?_) <;> (conv => lhs; whnf)))
  simp
theorem l09_known_s : LM.call n_l09_known [] [] = some (.bool true, []) := (lim_call M noExt).2 ⟨60, by kernel_rfl⟩
theorem D6.dec {cs : List AV} (h : wfcs [.i .i64, .i .i64, .i .i64, .i .i64, .i .i64, .i .i64] cs) : ∃ x : D6, mkE true cs = x.av ∧ x.Ok := by
  obtain ⟨_, _, rfl, h1, h⟩ := wfcs_cons h
  obtain ⟨_, _, rfl, h2, h⟩ := wfcs_cons h
  obtain ⟨_, _, rfl, h3, h⟩ := wfcs_cons h
  obtain ⟨_, _, rfl, h4, h⟩ := wfcs_cons h
  obtain ⟨_, _, rfl, h5, h⟩ := wfcs_cons h
  obtain ⟨_, _, rfl, h6, h⟩ := wfcs_cons h
  obtain rfl := wfcs_nil h
  obtain ⟨a, rfl, a1⟩ := wfc_i64 h1
  obtain ⟨b, rfl, b1⟩ := wfc_i64 h2
  obtain ⟨c, rfl, c1⟩ := wfc_i64 h3
  obtain ⟨d, rfl, d1⟩ := wfc_i64 h4
  obtain ⟨e, rfl, e1⟩ := wfc_i64 h5
  obtain ⟨f, rfl, f1⟩ := wfc_i64 h6
  exact ⟨⟨a, b, c, d, e, f⟩, rfl, a1, b1, c1, d1, e1, f1⟩
theorem ints.dec {a : AV} (h : wfc (.l [.i .i64] false) a) : ∃ q : List Int, a = .lst .no (q.map iav) ∧ (∀ x ∈ q, IN x) ∧ q.length ≤ 9223372036854775807 := wfc_list iav IN (fun cs h => by
  obtain ⟨_, _, rfl, h1, h⟩ := wfcs_cons h
  obtain rfl := wfcs_nil h
  obtain ⟨n, rfl, h2⟩ := wfc_i64 h1
  exact ⟨n, rfl, h2⟩) h
theorem DiagCounts_s (x y : D6) (ks : List Int) (e : Int) (hx : x.Ok) (hl : ks.length ≤ 9223372036854775807) : LM.call n_l09_DiagCounts [x.av, y.av, .lst .no (ks.map iav), .int .i64 e] [] = some (.bool true, []) := by
  have hl2 := iav_len ks
  by_cases hc : ks.length > 40
  · refine ev M noExt rfl rfl ?_
    conv => lhs; whnf
    repeat' (first
      | with_reducible rfl
      | (refine kO_go (l09_known_s) ?_; conv => lhs; whnf)
      | (refine kB_true (decide_eq_true (by omega)) ?_; conv => lhs; whnf)
      | (refine kB_false (decide_eq_false (by omega)) ?_; conv => lhs; whnf)
      | ((with_reducible refine kN_go ?_ ?_); (first | assumption | with_reducible rfl | (refine decide_eq_true ?_; simp only [lenMax, List.length_cons, List.length_nil, List.length_append, List.length_map]; omega) | rotate_left); conv => lhs; whnf)
      | ((with_reducible refine kW_go ?_ ?_); rotate_left; conv => lhs; whnf)
      | (refine kB_dec (fun _ => ?_) (fun _ => ?_) <;> (conv => lhs; whnf))
      | (refine kB_elim (fun _ => ?_) (fun _ => ?_) <;> (conv => lhs; whnf)))
    all_goals (first | rfl | assumption | omega | (simp [*]; done) | (simp [*]; omega) | (simp only []; repeat' split; all_goals first | omega | (simp [*]; done) | (simp [*]; omega)))
  · have hq : ks.length ≤ 1000 := by omega
    refine ev M noExt rfl rfl ?_
    conv => lhs; whnf
    repeat' (first
      | with_reducible rfl
      | (refine kO_go (diag_Bump_s x hx ks hq) ?_; conv => lhs; whnf)
      | (refine kO_go (r09_Bump_s x hx ks hq) ?_; conv => lhs; whnf)
      | (refine kO_go (diag_Clean_s x) ?_; conv => lhs; whnf)
      | (refine kO_go (r09_Clean_s x) ?_; conv => lhs; whnf)
      | (refine kO_go (diag_Add_s x y) ?_; conv => lhs; whnf)
      | (refine kO_go (r09_Add_s x y) ?_; conv => lhs; whnf)
      | (refine kO_go (diag_Total_s x) ?_; conv => lhs; whnf)
      | (refine kO_go (r09_Total_s x) ?_; conv => lhs; whnf)
      | (refine kO_go (diag_Kind_s e) ?_; conv => lhs; whnf)
      | (refine kO_go (r09_Kind_s e) ?_; conv => lhs; whnf)
      | (refine kO_go (l09_known_s) ?_; conv => lhs; whnf)
      | ((refine kB_true ?_ ?_); (focus (simp; done)); conv => lhs; whnf)
      | (refine kB_true (decide_eq_true (by omega)) ?_; conv => lhs; whnf)
      | (refine kB_false (decide_eq_false (by omega)) ?_; conv => lhs; whnf)
      | ((with_reducible refine kN_go ?_ ?_); (first | assumption | with_reducible rfl | (refine decide_eq_true ?_; simp only [lenMax, List.length_cons, List.length_nil, List.length_append, List.length_map]; omega) | rotate_left); conv => lhs; whnf)
      | ((with_reducible refine kW_go ?_ ?_); rotate_left; conv => lhs; whnf)
      | (refine kB_dec (fun _ => ?_) (fun _ => ?_) <;> (conv => lhs; whnf))
      | (refine kB_elim (fun _ => ?_) (fun _ => ?_) <;> (conv => lhs; whnf)))
    all_goals (first | rfl | assumption | omega | (simp [*]; done) | (simp [*]; omega) | (simp only []; repeat' split; all_goals first | omega | (simp [*]; done) | (simp [*]; omega)))
theorem DiagCounts_law (l : List AV) (h : ArgsOf [([.i .i64, .i .i64, .i .i64, .i .i64, .i .i64, .i .i64], true), ([.i .i64, .i .i64, .i .i64, .i .i64, .i .i64, .i .i64], true), ([.l [.i .i64] false], false), ([.i .i64], false)] l) : LM.call n_l09_DiagCounts l [] = some (.bool true, []) := by
  obtain ⟨_, _, rfl, h1, h⟩ := args_cons h
  obtain ⟨_, _, rfl, h2, h⟩ := args_cons h
  obtain ⟨_, _, rfl, h3, h⟩ := args_cons h
  obtain ⟨_, _, rfl, h4, h⟩ := args_cons h
  obtain rfl := args_nil h
  obtain ⟨x, e1, x1⟩ := D6.dec h1
  obtain ⟨y, e2, y1⟩ := D6.dec h2
  obtain ⟨ks, e3, k1, k2⟩ := ints.dec (wfcs_one h3)
  obtain ⟨e, e4, _⟩ := wfc_i64 (wfcs_one h4)
  rw [e1, e2, e3, e4]
  exact DiagCounts_s x y ks e x1 k2
end Go.Proofs.Ytmnnichijcfjaaa
