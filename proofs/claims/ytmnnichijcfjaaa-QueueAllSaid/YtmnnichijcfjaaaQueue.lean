/-
  Functions of the program, evaluated: queue.
-/
import Derived.Test.YtmnnichijcfjaaaF1
set_option linter.unusedVariables false
set_option linter.unusedSimpArgs false
set_option maxRecDepth 100000
namespace Go.Proofs.Ytmnnichijcfjaaa
open Go.Proofs.PF
noncomputable abbrev LM : MRec := lim M noExt

/-! ### Numbers -/
def sat (n m : Int) : Int := if n < 0 ∨ m < 0 then 0 else if m ≤ n then m else n + 1
theorem num_Sat_s (n m : Int) (hn : n ≤ 9223372036854775807) (hm : m ≤ 9223372036854775807) : LM.call n_num_Sat [.int .i64 n, .int .i64 m] [] = some (.int .i64 (sat n m), []) := by
  unfold sat
  refine ev M noExt rfl rfl ?_
  conv => lhs; whnf
  repeat' (first
    | with_reducible rfl
    | (refine kB_true (decide_eq_true (by omega)) ?_; conv => lhs; whnf)
    | (refine kB_false (decide_eq_false (by omega)) ?_; conv => lhs; whnf)
    | ((with_reducible refine kN_go ?_ ?_); (first | assumption | with_reducible rfl | (refine decide_eq_true ?_; simp only [lenMax, List.length_cons, List.length_nil, List.length_append, List.length_map]; omega) | rotate_left); conv => lhs; whnf)
    | ((with_reducible refine kW_go ?_ ?_); rotate_left; conv => lhs; whnf)
    | (refine kB_dec (fun _ => ?_) (fun _ => ?_) <;> (conv => lhs; whnf))
    | (refine kB_elim (fun _ => ?_) (fun _ => ?_) <;> (conv => lhs; whnf)))
  all_goals (first | rfl | assumption | omega | (simp [*]; done) | (simp [*]; omega) | (simp only []; repeat' split; all_goals first | omega | (simp [*]; done) | (simp [*]; omega)))
theorem r01_Sat_s (n m : Int) (hn : n ≤ 9223372036854775807) (hm : m ≤ 9223372036854775807) : LM.call n_r01_Sat [.int .i64 n, .int .i64 m] [] = some (.int .i64 (sat n m), []) := by
  unfold sat
  refine ev M noExt rfl rfl ?_
  conv => lhs; whnf
  repeat' (first
    | with_reducible rfl
    | (refine kB_true (decide_eq_true (by omega)) ?_; conv => lhs; whnf)
    | (refine kB_false (decide_eq_false (by omega)) ?_; conv => lhs; whnf)
    | ((with_reducible refine kN_go ?_ ?_); (first | assumption | with_reducible rfl | (refine decide_eq_true ?_; simp only [lenMax, List.length_cons, List.length_nil, List.length_append, List.length_map]; omega) | rotate_left); conv => lhs; whnf)
    | ((with_reducible refine kW_go ?_ ?_); rotate_left; conv => lhs; whnf)
    | (refine kB_dec (fun _ => ?_) (fun _ => ?_) <;> (conv => lhs; whnf))
    | (refine kB_elim (fun _ => ?_) (fun _ => ?_) <;> (conv => lhs; whnf)))
  all_goals (first | rfl | assumption | omega | (simp [*]; done) | (simp [*]; omega) | (simp only []; repeat' split; all_goals first | omega | (simp [*]; done) | (simp [*]; omega)))

/-! ### Items -/
structure It where
  age : Int
  wait : Int
  bytes : List UInt8
  deriving DecidableEq
@[reducible] def It.av (x : It) : AV := .agg [.int .i64 x.age, .int .i64 x.wait, .str x.bytes]
structure It.Ok (x : It) : Prop where
  age : IN x.age
  wait : IN x.wait
def older (x : It) : It := { age := sat x.age 65535, wait := if x.wait ≤ 1 then 0 else x.wait - 1, bytes := x.bytes }
theorem queue_older_s (x : It) (h : x.Ok) : LM.call n_queue_older [x.av] [] = some (.tup [(older x).av, .bool (decide (x.wait ≤ 1))], []) := by
  obtain ⟨h1, h2⟩ := h
  refine ev M noExt rfl rfl ?_
  conv => lhs; whnf
  repeat' (first
    | with_reducible rfl
    | (refine kO_go (num_Sat_s _ _ (by omega) (by omega)) ?_; conv => lhs; whnf)
    | (refine kB_true (decide_eq_true (by omega)) ?_; conv => lhs; whnf)
    | (refine kB_false (decide_eq_false (by omega)) ?_; conv => lhs; whnf)
    | ((with_reducible refine kN_go ?_ ?_); (first | assumption | with_reducible rfl | (refine decide_eq_true ?_; simp only [lenMax, List.length_cons, List.length_nil, List.length_append, List.length_map]; omega) | rotate_left); conv => lhs; whnf)
    | ((with_reducible refine kW_go ?_ ?_); rotate_left; conv => lhs; whnf)
    | (refine kB_dec (fun _ => ?_) (fun _ => ?_) <;> (conv => lhs; whnf))
    | (refine kB_elim (fun _ => ?_) (fun _ => ?_) <;> (conv => lhs; whnf)))
  all_goals (first | rfl | assumption | omega | (simp [*, older]; done) | (simp [*, older]; omega) | (simp only [older]; repeat' split; all_goals first | omega | (simp [*]; done) | (simp [*]; omega)))

def due (t : Int) : List It → Nat
  | [] => 0
  | x :: r => (if max x.wait 1 ≤ t then 1 else 0) + due t r
theorem due_le (t : Int) (q : List It) : due t q ≤ q.length := by
  induction q with
  | nil => simp [due]
  | cons x r ih => simp only [due, List.length_cons]; split <;> omega

theorem queue_Due_l (q : List It) (t : Int) (hq : q.length ≤ 1000) : ∀ (post pre : List It) (s : St) (n i m : Int), keep [1, 5, 8, 9, 10] [] s = some ⟨[(1, .int .i64 t), (5, .int .i64 n), (8, .lst .no (q.map It.av)), (9, .int .i64 m), (10, .int .i64 i)], []⟩ →
    m = q.length → q = pre ++ post → i = pre.length → 0 ≤ n → n ≤ i →
    LM.loop ([1, 5, 8, 9, 10], [], [5], B_queue_Due_0) s = some (.exit 0, ⟨[(5, .int .i64 (n + due t post))], []⟩) := by
  intro post
  induction post with
  | nil =>
    intro pre s n i m hk hm hpre hi h0 hn
    have hl : q.length = pre.length := by rw [hpre]; simp
    refine evL M noExt hk ?_
    conv => lhs; whnf
    repeat' (first
      | with_reducible rfl
      | (refine kB_true (decide_eq_true (by omega)) ?_; conv => lhs; whnf)
      | (refine kB_false (decide_eq_false (by omega)) ?_; conv => lhs; whnf)
      | ((with_reducible refine kN_go ?_ ?_); (first | assumption | with_reducible rfl | (refine decide_eq_true ?_; simp only [lenMax, List.length_cons, List.length_nil, List.length_append, List.length_map]; omega) | rotate_left); conv => lhs; whnf)
      | ((with_reducible refine kW_go ?_ ?_); rotate_left; conv => lhs; whnf)
      | (refine kB_dec (fun _ => ?_) (fun _ => ?_) <;> (conv => lhs; whnf))
      | (refine kB_elim (fun _ => ?_) (fun _ => ?_) <;> (conv => lhs; whnf)))
    simp [due]
  | cons x post ih =>
    intro pre s n i m hk hm hpre hi h0 hn
    have hl : q.length = pre.length + post.length + 1 := by rw [hpre]; simp; omega
    have hl2 : (q.map It.av).length = q.length := by simp
    have hg : (q.map It.av)[i.toNat]? = some (It.av x) := by rw [hpre, hi]; simp
    refine evL M noExt hk ?_
    conv => lhs; whnf
    repeat' (first
      | with_reducible rfl
      | (refine kO_go (hg) ?_; conv => lhs; whnf)
      | (refine kB_true (decide_eq_true (by omega)) ?_; conv => lhs; whnf)
      | (refine kB_false (decide_eq_false (by omega)) ?_; conv => lhs; whnf)
      | ((with_reducible refine kN_go ?_ ?_); (first | assumption | with_reducible rfl | (refine decide_eq_true ?_; simp only [lenMax, List.length_cons, List.length_nil, List.length_append, List.length_map]; omega) | rotate_left); conv => lhs; whnf)
      | ((with_reducible refine kW_go ?_ ?_); rotate_left; conv => lhs; whnf)
      | (refine kB_dec (fun _ => ?_) (fun _ => ?_) <;> (conv => lhs; whnf))
      | (refine kB_elim (fun _ => ?_) (fun _ => ?_) <;> (conv => lhs; whnf)))
    · refine (ih (pre ++ [x]) _ _ _ _ rfl hm (by simp [hpre]) (by simp [hi]) ?_ ?_).trans ?_
      all_goals (first | rfl | assumption | omega | (simp [*, due]; done) | (simp [*, due]; omega) | (simp only [due]; repeat' split; all_goals first | omega | (simp [*]; done) | (simp [*]; omega)))
    · refine (ih (pre ++ [x]) _ _ _ _ rfl hm (by simp [hpre]) (by simp [hi]) ?_ ?_).trans ?_
      all_goals (first | rfl | assumption | omega | (simp [*, due]; done) | (simp [*, due]; omega) | (simp only [due]; repeat' split; all_goals first | omega | (simp [*]; done) | (simp [*]; omega)))
theorem queue_Due_s (q : List It) (t : Int) (hq : q.length ≤ 1000) : LM.call n_queue_Due [.lst .no (q.map It.av), .int .i64 t] [] = some (.int .i64 (due t q), []) := by
  refine ev M noExt rfl rfl ?_
  conv => lhs; whnf
  repeat' (first
    | with_reducible rfl
    | (refine kO_go (queue_Due_l q t hq q [] _ _ _ _ rfl (by simp) rfl rfl (by omega) (by omega)) ?_; conv => lhs; whnf)
    | (refine kB_true (decide_eq_true (by omega)) ?_; conv => lhs; whnf)
    | (refine kB_false (decide_eq_false (by omega)) ?_; conv => lhs; whnf)
    | ((with_reducible refine kN_go ?_ ?_); (first | assumption | with_reducible rfl | (refine decide_eq_true ?_; simp only [lenMax, List.length_cons, List.length_nil, List.length_append, List.length_map]; omega) | rotate_left); conv => lhs; whnf)
    | ((with_reducible refine kW_go ?_ ?_); rotate_left; conv => lhs; whnf)
    | (refine kB_dec (fun _ => ?_) (fun _ => ?_) <;> (conv => lhs; whnf))
    | (refine kB_elim (fun _ => ?_) (fun _ => ?_) <;> (conv => lhs; whnf)))
  simp

theorem r08_Due_l (q : List It) (t : Int) (hq : q.length ≤ 1000) : ∀ (post pre : List It) (s : St) (n i : Int), keep [0, 1, 5, 6] [] s = some ⟨[(0, .lst .no (q.map It.av)), (1, .int .i64 t), (5, .int .i64 n), (6, .int .i64 i)], []⟩ →
    q = pre ++ post → i = pre.length → 0 ≤ n → n ≤ i →
    LM.loop ([0, 1, 5, 6], [], [5], B_r08_Due_0) s = some (.exit 0, ⟨[(5, .int .i64 (n + due t post))], []⟩) := by
  intro post
  induction post with
  | nil =>
    intro pre s n i hk hpre hi h0 hn
    have hl : q.length = pre.length := by rw [hpre]; simp
    have hl2 : (q.map It.av).length = q.length := by simp
    refine evL M noExt hk ?_
    conv => lhs; whnf
    repeat' (first
      | with_reducible rfl
      | (refine kB_true (decide_eq_true (by omega)) ?_; conv => lhs; whnf)
      | (refine kB_false (decide_eq_false (by omega)) ?_; conv => lhs; whnf)
      | ((with_reducible refine kN_go ?_ ?_); (first | assumption | with_reducible rfl | (refine decide_eq_true ?_; simp only [lenMax, List.length_cons, List.length_nil, List.length_append, List.length_map]; omega) | rotate_left); conv => lhs; whnf)
      | ((with_reducible refine kW_go ?_ ?_); rotate_left; conv => lhs; whnf)
      | (refine kB_dec (fun _ => ?_) (fun _ => ?_) <;> (conv => lhs; whnf))
      | (refine kB_elim (fun _ => ?_) (fun _ => ?_) <;> (conv => lhs; whnf)))
    simp [due]
  | cons x post ih =>
    intro pre s n i hk hpre hi h0 hn
    have hl : q.length = pre.length + post.length + 1 := by rw [hpre]; simp; omega
    have hl2 : (q.map It.av).length = q.length := by simp
    have hg : (q.map It.av)[i.toNat]? = some (It.av x) := by rw [hpre, hi]; simp
    refine evL M noExt hk ?_
    conv => lhs; whnf
    repeat' (first
      | with_reducible rfl
      | (refine kO_go (hg) ?_; conv => lhs; whnf)
      | (refine kB_true (decide_eq_true (by omega)) ?_; conv => lhs; whnf)
      | (refine kB_false (decide_eq_false (by omega)) ?_; conv => lhs; whnf)
      | ((with_reducible refine kN_go ?_ ?_); (first | assumption | with_reducible rfl | (refine decide_eq_true ?_; simp only [lenMax, List.length_cons, List.length_nil, List.length_append, List.length_map]; omega) | rotate_left); conv => lhs; whnf)
      | ((with_reducible refine kW_go ?_ ?_); rotate_left; conv => lhs; whnf)
      | (refine kB_dec (fun _ => ?_) (fun _ => ?_) <;> (conv => lhs; whnf))
      | (refine kB_elim (fun _ => ?_) (fun _ => ?_) <;> (conv => lhs; whnf)))
    all_goals (refine (ih (pre ++ [x]) _ _ _ rfl (by simp [hpre]) (by simp [hi]) ?_ ?_).trans ?_)
    all_goals (first | rfl | assumption | omega | (simp [*, due]; done) | (simp [*, due]; omega) | (simp only [due]; repeat' split; all_goals first | omega | (simp [*]; done) | (simp [*]; omega)))
theorem r08_Due_s (q : List It) (t : Int) (hq : q.length ≤ 1000) : LM.call n_r08_Due [.lst .no (q.map It.av), .int .i64 t] [] = some (.int .i64 (due t q), []) := by
  refine ev M noExt rfl rfl ?_
  conv => lhs; whnf
  repeat' (first
    | with_reducible rfl
    | (refine kO_go (r08_Due_l q t hq q [] _ _ _ rfl rfl rfl (by omega) (by omega)) ?_; conv => lhs; whnf)
    | (refine kB_true (decide_eq_true (by omega)) ?_; conv => lhs; whnf)
    | (refine kB_false (decide_eq_false (by omega)) ?_; conv => lhs; whnf)
    | ((with_reducible refine kN_go ?_ ?_); (first | assumption | with_reducible rfl | (refine decide_eq_true ?_; simp only [lenMax, List.length_cons, List.length_nil, List.length_append, List.length_map]; omega) | rotate_left); conv => lhs; whnf)
    | ((with_reducible refine kW_go ?_ ?_); rotate_left; conv => lhs; whnf)
    | (refine kB_dec (fun _ => ?_) (fun _ => ?_) <;> (conv => lhs; whnf))
    | (refine kB_elim (fun _ => ?_) (fun _ => ?_) <;> (conv => lhs; whnf)))
  simp

/-! ### Steps -/
@[reducible] def avs (q : List It) : List AV := q.map It.av
theorem queue_Step_1_s (x : It) (b : Bool) (g1 g2 : Gr) (ys zs : List AV) (h1 : mayApp 3 g1 ys = true) (h2 : mayApp 3 g2 zs = true) (hy : ys.length ≤ 1000) (hz : zs.length ≤ 1000) :
    LM.call n_queue_Step_1 [x.av, .bool b, .ptr 0 0, .ptr 1 0] [⟨true, [.lst g1 ys]⟩, ⟨true, [.lst g2 zs]⟩] =
      some (.tup [], if b then [⟨true, [.lst (.own 3) (ys ++ [x.av])]⟩, ⟨true, [.lst g2 zs]⟩] else [⟨true, [.lst g1 ys]⟩, ⟨true, [.lst (.own 3) (zs ++ [x.av])]⟩]) := by
  cases b
  · refine ev M noExt rfl rfl ?_
    conv => lhs; whnf
    repeat' (first
      | with_reducible rfl
      | (refine kB_true (decide_eq_true (by omega)) ?_; conv => lhs; whnf)
      | (refine kB_false (decide_eq_false (by omega)) ?_; conv => lhs; whnf)
      | ((with_reducible refine kN_go ?_ ?_); (first | assumption | with_reducible rfl | (refine decide_eq_true ?_; simp only [lenMax, List.length_cons, List.length_nil, List.length_append, List.length_map]; omega) | rotate_left); conv => lhs; whnf)
      | ((with_reducible refine kW_go ?_ ?_); rotate_left; conv => lhs; whnf)
      | (refine kB_dec (fun _ => ?_) (fun _ => ?_) <;> (conv => lhs; whnf))
      | (refine kB_elim (fun _ => ?_) (fun _ => ?_) <;> (conv => lhs; whnf)))
    all_goals (first | rfl | assumption | omega | (simp [*]; done) | (simp [*]; omega) | (simp only []; repeat' split; all_goals first | omega | (simp [*]; done) | (simp [*]; omega)))
  · refine ev M noExt rfl rfl ?_
    conv => lhs; whnf
    repeat' (first
      | with_reducible rfl
      | (refine kB_true (decide_eq_true (by omega)) ?_; conv => lhs; whnf)
      | (refine kB_false (decide_eq_false (by omega)) ?_; conv => lhs; whnf)
      | ((with_reducible refine kN_go ?_ ?_); (first | assumption | with_reducible rfl | (refine decide_eq_true ?_; simp only [lenMax, List.length_cons, List.length_nil, List.length_append, List.length_map]; omega) | rotate_left); conv => lhs; whnf)
      | ((with_reducible refine kW_go ?_ ?_); rotate_left; conv => lhs; whnf)
      | (refine kB_dec (fun _ => ?_) (fun _ => ?_) <;> (conv => lhs; whnf))
      | (refine kB_elim (fun _ => ?_) (fun _ => ?_) <;> (conv => lhs; whnf)))
    all_goals (first | rfl | assumption | omega | (simp [*]; done) | (simp [*]; omega) | (simp only []; repeat' split; all_goals first | omega | (simp [*]; done) | (simp [*]; omega)))
theorem l08_known_s : LM.call n_l08_known [] [] = some (.bool true, []) := (lim_call M noExt).2 ⟨60, by kernel_rfl⟩
def comes : List It → List It
  | [] => []
  | x :: r => if x.wait ≤ 1 then older x :: comes r else comes r
def rests : List It → List It
  | [] => []
  | x :: r => if x.wait ≤ 1 then rests r else older x :: rests r
theorem comes_rests (q : List It) : (comes q).length + (rests q).length = q.length := by
  induction q with
  | nil => rfl
  | cons x r ih => simp only [comes, rests]; split <;> simp <;> omega
theorem queue_older_t (x : It) (h : x.Ok) (hw : x.wait ≤ 1) : LM.call n_queue_older [x.av] [] = some (.tup [(older x).av, .bool true], []) := by rw [queue_older_s x h]; simp [hw]
theorem queue_older_f (x : It) (h : x.Ok) (hw : ¬ x.wait ≤ 1) : LM.call n_queue_older [x.av] [] = some (.tup [(older x).av, .bool false], []) := by rw [queue_older_s x h]; simp [hw]
theorem queue_Step_l (q : List It) (hq : q.length ≤ 1000) (hok : ∀ x ∈ q, x.Ok) : ∀ (post pre : List It) (s : St) (g1 g2 : Gr) (ys zs : List AV) (i m : Int),
    keep [2, 3, 4, 8, 9, 10] [102, 103] s = some ⟨[(2, .ptr 102 0), (3, .ptr 103 0), (4, .fn n_queue_Step_1 [.ptr 102 0, .ptr 103 0]), (8, .lst .no (q.map It.av)), (9, .int .i64 m), (10, .int .i64 i)], [(103, ⟨true, [.lst g2 zs]⟩), (102, ⟨true, [.lst g1 ys]⟩)]⟩ →
    m = q.length → q = pre ++ post → i = pre.length → mayApp 3 g1 ys = true → mayApp 3 g2 zs = true → ys.length ≤ pre.length → zs.length ≤ pre.length →
    LM.loop ([2, 3, 4, 8, 9, 10], [102, 103], [2, 3], B_queue_Step_0) s = some (.exit 0, ⟨[(2, .ptr 102 0), (3, .ptr 103 0)], [(103, ⟨true, [.lst (apg g2 3 (rests post)) (zs ++ (rests post).map It.av)]⟩), (102, ⟨true, [.lst (apg g1 3 (comes post)) (ys ++ (comes post).map It.av)]⟩)]⟩) := by
  intro post
  induction post with
  | nil =>
    intro pre s g1 g2 ys zs i m hk hm hpre hi h1 h2 h3 h4
    have hl : q.length = pre.length := by rw [hpre]; simp
    refine evL M noExt hk ?_
    conv => lhs; whnf
    repeat' (first
      | with_reducible rfl
      | (refine kB_true (decide_eq_true (by omega)) ?_; conv => lhs; whnf)
      | (refine kB_false (decide_eq_false (by omega)) ?_; conv => lhs; whnf)
      | ((with_reducible refine kN_go ?_ ?_); (first | assumption | with_reducible rfl | (refine decide_eq_true ?_; simp only [lenMax, List.length_cons, List.length_nil, List.length_append, List.length_map]; omega) | rotate_left); conv => lhs; whnf)
      | ((with_reducible refine kW_go ?_ ?_); rotate_left; conv => lhs; whnf)
      | (refine kB_dec (fun _ => ?_) (fun _ => ?_) <;> (conv => lhs; whnf))
      | (refine kB_elim (fun _ => ?_) (fun _ => ?_) <;> (conv => lhs; whnf)))
    simp [comes, rests]
  | cons x post ih =>
    intro pre s g1 g2 ys zs i m hk hm hpre hi h1 h2 h3 h4
    have hl : q.length = pre.length + post.length + 1 := by rw [hpre]; simp; omega
    have hl2 : (q.map It.av).length = q.length := by simp
    have hg : (q.map It.av)[i.toNat]? = some (It.av x) := by rw [hpre, hi]; simp
    have hx := hok x (by rw [hpre]; simp)
    by_cases hw : x.wait ≤ 1
    · refine evL M noExt hk ?_
      conv => lhs; whnf
      repeat' (first
        | with_reducible rfl
        | (refine kO_go (hg) ?_; conv => lhs; whnf)
        | (refine kO_go (queue_older_t x hx hw) ?_; conv => lhs; whnf)
        | (refine kO_go (queue_Step_1_s (older x) true g1 g2 ys zs h1 h2 (by omega) (by omega)) ?_; conv => lhs; whnf)
        | (refine kB_true (decide_eq_true (by omega)) ?_; conv => lhs; whnf)
        | (refine kB_false (decide_eq_false (by omega)) ?_; conv => lhs; whnf)
        | ((with_reducible refine kN_go ?_ ?_); (first | assumption | with_reducible rfl | (refine decide_eq_true ?_; simp only [lenMax, List.length_cons, List.length_nil, List.length_append, List.length_map]; omega) | rotate_left); conv => lhs; whnf)
        | ((with_reducible refine kW_go ?_ ?_); rotate_left; conv => lhs; whnf)
        | (refine kB_dec (fun _ => ?_) (fun _ => ?_) <;> (conv => lhs; whnf))
        | (refine kB_elim (fun _ => ?_) (fun _ => ?_) <;> (conv => lhs; whnf)))
      refine (ih (pre ++ [x]) _ _ _ _ _ _ _ rfl hm (by simp [hpre]) (by simp [hi]) rfl h2 (by simp; omega) (by simp; omega)).trans ?_
      simp [comes, rests, hw]
    · refine evL M noExt hk ?_
      conv => lhs; whnf
      repeat' (first
        | with_reducible rfl
        | (refine kO_go (hg) ?_; conv => lhs; whnf)
        | (refine kO_go (queue_older_f x hx hw) ?_; conv => lhs; whnf)
        | (refine kO_go (queue_Step_1_s (older x) false g1 g2 ys zs h1 h2 (by omega) (by omega)) ?_; conv => lhs; whnf)
        | (refine kB_true (decide_eq_true (by omega)) ?_; conv => lhs; whnf)
        | (refine kB_false (decide_eq_false (by omega)) ?_; conv => lhs; whnf)
        | ((with_reducible refine kN_go ?_ ?_); (first | assumption | with_reducible rfl | (refine decide_eq_true ?_; simp only [lenMax, List.length_cons, List.length_nil, List.length_append, List.length_map]; omega) | rotate_left); conv => lhs; whnf)
        | ((with_reducible refine kW_go ?_ ?_); rotate_left; conv => lhs; whnf)
        | (refine kB_dec (fun _ => ?_) (fun _ => ?_) <;> (conv => lhs; whnf))
        | (refine kB_elim (fun _ => ?_) (fun _ => ?_) <;> (conv => lhs; whnf)))
      refine (ih (pre ++ [x]) _ _ _ _ _ _ _ rfl hm (by simp [hpre]) (by simp [hi]) h1 rfl (by simp; omega) (by simp; omega)).trans ?_
      simp [comes, rests, hw]
theorem queue_Step_s (q : List It) (hq : q.length ≤ 1000) (hok : ∀ x ∈ q, x.Ok) : LM.call n_queue_Step [.lst .no (q.map It.av)] [] = some (.tup [.lst .no ((comes q).map It.av), .lst .no ((rests q).map It.av)], []) := by
  refine ev M noExt rfl rfl ?_
  conv => lhs; whnf
  repeat' (first
    | with_reducible rfl
    | (refine kO_go (queue_Step_l q hq hok q [] _ _ _ _ _ _ _ rfl (by simp) rfl rfl rfl rfl (by simp) (by simp)) ?_; conv => lhs; whnf)
    | (refine kB_true (decide_eq_true (by omega)) ?_; conv => lhs; whnf)
    | (refine kB_false (decide_eq_false (by omega)) ?_; conv => lhs; whnf)
    | ((with_reducible refine kN_go ?_ ?_); (first | assumption | with_reducible rfl | (refine decide_eq_true ?_; simp only [lenMax, List.length_cons, List.length_nil, List.length_append, List.length_map]; omega) | rotate_left); conv => lhs; whnf)
    | ((with_reducible refine kW_go ?_ ?_); rotate_left; conv => lhs; whnf)
    | (refine kB_dec (fun _ => ?_) (fun _ => ?_) <;> (conv => lhs; whnf))
    | (refine kB_elim (fun _ => ?_) (fun _ => ?_) <;> (conv => lhs; whnf)))
  simp
theorem r08_Step_l (q : List It) (hq : q.length ≤ 1000) (hok : ∀ x ∈ q, x.Ok) : ∀ (post pre : List It) (s : St) (g1 g2 : Gr) (ys zs : List AV) (i : Int),
    keep [0, 4, 5, 6] [] s = some ⟨[(0, .lst .no (q.map It.av)), (4, .lst g1 ys), (5, .lst g2 zs), (6, .int .i64 i)], []⟩ →
    q = pre ++ post → i = pre.length → mayApp 3 g1 ys = true → mayApp 3 g2 zs = true → ys.length ≤ pre.length → zs.length ≤ pre.length →
    LM.loop ([0, 4, 5, 6], [], [4, 5], B_r08_Step_0) s = some (.exit 0, ⟨[(4, .lst (apg g1 3 (comes post)) (ys ++ (comes post).map It.av)), (5, .lst (apg g2 3 (rests post)) (zs ++ (rests post).map It.av))], []⟩) := by
  intro post
  induction post with
  | nil =>
    intro pre s g1 g2 ys zs i hk hpre hi h1 h2 h3 h4
    have hl : q.length = pre.length := by rw [hpre]; simp
    have hl2 : (q.map It.av).length = q.length := by simp
    refine evL M noExt hk ?_
    conv => lhs; whnf
    repeat' (first
      | with_reducible rfl
      | (refine kB_true (decide_eq_true (by omega)) ?_; conv => lhs; whnf)
      | (refine kB_false (decide_eq_false (by omega)) ?_; conv => lhs; whnf)
      | ((with_reducible refine kN_go ?_ ?_); (first | assumption | with_reducible rfl | (refine decide_eq_true ?_; simp only [lenMax, List.length_cons, List.length_nil, List.length_append, List.length_map]; omega) | rotate_left); conv => lhs; whnf)
      | ((with_reducible refine kW_go ?_ ?_); rotate_left; conv => lhs; whnf)
      | (refine kB_dec (fun _ => ?_) (fun _ => ?_) <;> (conv => lhs; whnf))
      | (refine kB_elim (fun _ => ?_) (fun _ => ?_) <;> (conv => lhs; whnf)))
    simp [comes, rests]
  | cons x post ih =>
    intro pre s g1 g2 ys zs i hk hpre hi h1 h2 h3 h4
    have hl : q.length = pre.length + post.length + 1 := by rw [hpre]; simp; omega
    have hl2 : (q.map It.av).length = q.length := by simp
    have hg : (q.map It.av)[i.toNat]? = some (It.av x) := by rw [hpre, hi]; simp
    have hx := hok x (by rw [hpre]; simp)
    obtain ⟨hx1, hx2⟩ := hx
    refine evL M noExt hk ?_
    conv => lhs; whnf
    repeat' (first
      | with_reducible rfl
      | (refine kO_go (hg) ?_; conv => lhs; whnf)
      | (refine kO_go (r01_Sat_s _ _ (by omega) (by omega)) ?_; conv => lhs; whnf)
      | (refine kB_true (decide_eq_true (by omega)) ?_; conv => lhs; whnf)
      | (refine kB_false (decide_eq_false (by omega)) ?_; conv => lhs; whnf)
      | ((with_reducible refine kN_go ?_ ?_); (first | assumption | with_reducible rfl | (refine decide_eq_true ?_; simp only [lenMax, List.length_cons, List.length_nil, List.length_append, List.length_map]; omega) | rotate_left); conv => lhs; whnf)
      | ((with_reducible refine kW_go ?_ ?_); rotate_left; conv => lhs; whnf)
      | (refine kB_dec (fun _ => ?_) (fun _ => ?_) <;> (conv => lhs; whnf))
      | (refine kB_elim (fun _ => ?_) (fun _ => ?_) <;> (conv => lhs; whnf)))
    · refine (ih (pre ++ [x]) _ _ _ _ _ _ rfl (by simp [hpre]) (by simp [hi]) rfl h2 (by simp; omega) (by simp; omega)).trans ?_
      simp [comes, rests, older, *]
    · refine (ih (pre ++ [x]) _ _ _ _ _ _ rfl (by simp [hpre]) (by simp [hi]) h1 rfl (by simp; omega) (by simp; omega)).trans ?_
      simp [comes, rests, older, *]
theorem r08_Step_s (q : List It) (hq : q.length ≤ 1000) (hok : ∀ x ∈ q, x.Ok) : LM.call n_r08_Step [.lst .no (q.map It.av)] [] = some (.tup [.lst .no ((comes q).map It.av), .lst .no ((rests q).map It.av)], []) := by
  refine ev M noExt rfl rfl ?_
  conv => lhs; whnf
  repeat' (first
    | with_reducible rfl
    | (refine kO_go (r08_Step_l q hq hok q [] _ _ _ _ _ _ rfl rfl rfl rfl rfl (by simp) (by simp)) ?_; conv => lhs; whnf)
    | (refine kB_true (decide_eq_true (by omega)) ?_; conv => lhs; whnf)
    | (refine kB_false (decide_eq_false (by omega)) ?_; conv => lhs; whnf)
    | ((with_reducible refine kN_go ?_ ?_); (first | assumption | with_reducible rfl | (refine decide_eq_true ?_; simp only [lenMax, List.length_cons, List.length_nil, List.length_append, List.length_map]; omega) | rotate_left); conv => lhs; whnf)
    | ((with_reducible refine kW_go ?_ ?_); rotate_left; conv => lhs; whnf)
    | (refine kB_dec (fun _ => ?_) (fun _ => ?_) <;> (conv => lhs; whnf))
    | (refine kB_elim (fun _ => ?_) (fun _ => ?_) <;> (conv => lhs; whnf)))
  simp

/-! ### Alike -/
theorem It.eqb (x y : It) : (decide (x.age = y.age) && (decide (x.wait = y.wait) && (decide (x.bytes = y.bytes) && true))) = decide (x = y) := by
  obtain ⟨a, b, c⟩ := x
  obtain ⟨d, e, f⟩ := y
  by_cases h1 : a = d <;> by_cases h2 : b = e <;> by_cases h3 : c = f <;> simp [h1, h2, h3]
theorem It.len (q : List It) : (q.map It.av).length = q.length := by simp
theorem r08_Same_l (a b : List It) (hq : a.length ≤ 1000) (hab : a.length = b.length) : ∀ (pa pb qa qb : List It) (s : St) (i : Int),
    keep [0, 1, 5] [] s = some ⟨[(0, .lst .no (a.map It.av)), (1, .lst .no (b.map It.av)), (5, .int .i64 i)], []⟩ →
    a = qa ++ pa → b = qb ++ pb → qa.length = qb.length → i = qa.length →
    LM.loop ([0, 1, 5], [], [4], B_r08_Same_0) s = some (if pa = pb then (.exit 0, ⟨[(4, .undef)], []⟩) else (.ret, ⟨[(4, .bool false)], []⟩)) := by
  intro pa
  have la := It.len a
  have lb := It.len b
  induction pa with
  | nil =>
    intro pb qa qb s i hk ha hb hl hi
    have h1 : a.length = qa.length := by rw [ha]; simp
    have h2 : b.length = qb.length + pb.length := by rw [hb]; simp
    have : pb = [] := List.eq_nil_of_length_eq_zero (by omega)
    subst this
    refine evL M noExt hk ?_
    conv => lhs; whnf
    repeat' (first
      | with_reducible rfl
      | (refine kB_true (decide_eq_true (by omega)) ?_; conv => lhs; whnf)
      | (refine kB_false (decide_eq_false (by omega)) ?_; conv => lhs; whnf)
      | ((with_reducible refine kN_go ?_ ?_); (first | assumption | with_reducible rfl | (refine decide_eq_true ?_; simp only [lenMax, List.length_cons, List.length_nil, List.length_append, List.length_map]; omega) | rotate_left); conv => lhs; whnf)
      | ((with_reducible refine kW_go ?_ ?_); rotate_left; conv => lhs; whnf)
      | (refine kB_dec (fun _ => ?_) (fun _ => ?_) <;> (conv => lhs; whnf))
      | (refine kB_elim (fun _ => ?_) (fun _ => ?_) <;> (conv => lhs; whnf)))
    rfl
  | cons x pa ih =>
    intro pb qa qb s i hk ha hb hl hi
    have h1 : a.length = qa.length + pa.length + 1 := by rw [ha]; simp; omega
    have h2 : b.length = qb.length + pb.length := by rw [hb]; simp
    cases pb with
    | nil => simp at h2; omega
    | cons y pb =>
      have hga : (a.map It.av)[i.toNat]? = some (It.av x) := by rw [ha, hi]; simp
      have hgb : (b.map It.av)[i.toNat]? = some (It.av y) := by rw [hb, hi, hl]; simp
      by_cases hxy : x = y
      · subst hxy
        refine evL M noExt hk ?_
        conv => lhs; whnf
        repeat' (first
          | with_reducible rfl
          | (refine kO_go (hga) ?_; conv => lhs; whnf)
          | (refine kO_go (hgb) ?_; conv => lhs; whnf)
          | ((refine kB_false ?_ ?_); (focus (rw [It.eqb]; simp; done)); conv => lhs; whnf)
          | (refine kB_true (decide_eq_true (by omega)) ?_; conv => lhs; whnf)
          | (refine kB_false (decide_eq_false (by omega)) ?_; conv => lhs; whnf)
          | ((with_reducible refine kN_go ?_ ?_); (first | assumption | with_reducible rfl | (refine decide_eq_true ?_; simp only [lenMax, List.length_cons, List.length_nil, List.length_append, List.length_map]; omega) | rotate_left); conv => lhs; whnf)
          | ((with_reducible refine kW_go ?_ ?_); rotate_left; conv => lhs; whnf)
          | (refine kB_dec (fun _ => ?_) (fun _ => ?_) <;> (conv => lhs; whnf))
          | (refine kB_elim (fun _ => ?_) (fun _ => ?_) <;> (conv => lhs; whnf)))
        refine (ih pb (qa ++ [x]) (qb ++ [x]) _ _ rfl (by simp [ha]) (by simp [hb]) (by simp [hl]) (by simp [hi])).trans ?_
        simp
      · refine evL M noExt hk ?_
        conv => lhs; whnf
        repeat' (first
          | with_reducible rfl
          | (refine kO_go (hga) ?_; conv => lhs; whnf)
          | (refine kO_go (hgb) ?_; conv => lhs; whnf)
          | ((refine kB_true ?_ ?_); (focus (rw [It.eqb]; simp [hxy]; done)); conv => lhs; whnf)
          | (refine kB_true (decide_eq_true (by omega)) ?_; conv => lhs; whnf)
          | (refine kB_false (decide_eq_false (by omega)) ?_; conv => lhs; whnf)
          | ((with_reducible refine kN_go ?_ ?_); (first | assumption | with_reducible rfl | (refine decide_eq_true ?_; simp only [lenMax, List.length_cons, List.length_nil, List.length_append, List.length_map]; omega) | rotate_left); conv => lhs; whnf)
          | ((with_reducible refine kW_go ?_ ?_); rotate_left; conv => lhs; whnf)
          | (refine kB_dec (fun _ => ?_) (fun _ => ?_) <;> (conv => lhs; whnf))
          | (refine kB_elim (fun _ => ?_) (fun _ => ?_) <;> (conv => lhs; whnf)))
        simp [hxy]
theorem r08_Same_s (a b : List It) (ha : a.length ≤ 1000) : LM.call n_r08_Same [.lst .no (a.map It.av), .lst .no (b.map It.av)] [] = some (.bool (decide (a = b)), []) := by
  have la := It.len a
  have lb := It.len b
  by_cases hl : a.length = b.length
  · by_cases hab : a = b
    · refine ev M noExt rfl rfl ?_
      conv => lhs; whnf
      repeat' (first
        | with_reducible rfl
        | (refine kO_go ((r08_Same_l a b ha hl a b [] [] _ _ rfl rfl rfl rfl rfl).trans (by rw [if_pos hab])) ?_; conv => lhs; whnf)
        | (refine kB_true (decide_eq_true (by omega)) ?_; conv => lhs; whnf)
        | (refine kB_false (decide_eq_false (by omega)) ?_; conv => lhs; whnf)
        | ((with_reducible refine kN_go ?_ ?_); (first | assumption | with_reducible rfl | (refine decide_eq_true ?_; simp only [lenMax, List.length_cons, List.length_nil, List.length_append, List.length_map]; omega) | rotate_left); conv => lhs; whnf)
        | ((with_reducible refine kW_go ?_ ?_); rotate_left; conv => lhs; whnf)
        | (refine kB_dec (fun _ => ?_) (fun _ => ?_) <;> (conv => lhs; whnf))
        | (refine kB_elim (fun _ => ?_) (fun _ => ?_) <;> (conv => lhs; whnf)))
      simp [hab]
    · refine ev M noExt rfl rfl ?_
      conv => lhs; whnf
      repeat' (first
        | with_reducible rfl
        | (refine kO_go ((r08_Same_l a b ha hl a b [] [] _ _ rfl rfl rfl rfl rfl).trans (by rw [if_neg hab])) ?_; conv => lhs; whnf)
        | (refine kB_true (decide_eq_true (by omega)) ?_; conv => lhs; whnf)
        | (refine kB_false (decide_eq_false (by omega)) ?_; conv => lhs; whnf)
        | ((with_reducible refine kN_go ?_ ?_); (first | assumption | with_reducible rfl | (refine decide_eq_true ?_; simp only [lenMax, List.length_cons, List.length_nil, List.length_append, List.length_map]; omega) | rotate_left); conv => lhs; whnf)
        | ((with_reducible refine kW_go ?_ ?_); rotate_left; conv => lhs; whnf)
        | (refine kB_dec (fun _ => ?_) (fun _ => ?_) <;> (conv => lhs; whnf))
        | (refine kB_elim (fun _ => ?_) (fun _ => ?_) <;> (conv => lhs; whnf)))
      simp [hab]
  · have hab : a ≠ b := fun e => hl (by rw [e])
    refine ev M noExt rfl rfl ?_
    conv => lhs; whnf
    repeat' (first
      | with_reducible rfl
      | (refine kB_true (decide_eq_true (by omega)) ?_; conv => lhs; whnf)
      | (refine kB_false (decide_eq_false (by omega)) ?_; conv => lhs; whnf)
      | ((with_reducible refine kN_go ?_ ?_); (first | assumption | with_reducible rfl | (refine decide_eq_true ?_; simp only [lenMax, List.length_cons, List.length_nil, List.length_append, List.length_map]; omega) | rotate_left); conv => lhs; whnf)
      | ((with_reducible refine kW_go ?_ ?_); rotate_left; conv => lhs; whnf)
      | (refine kB_dec (fun _ => ?_) (fun _ => ?_) <;> (conv => lhs; whnf))
      | (refine kB_elim (fun _ => ?_) (fun _ => ?_) <;> (conv => lhs; whnf)))
    simp [hab]

/-! ### Pushed -/
theorem It.oks (q : List It) : okElems 3 true (q.map It.av) = true := by
  simp only [okElems, List.all_eq_true, List.mem_map]
  rintro _ ⟨x, -, rfl⟩
  rfl
theorem It.head (q : List It) : headE 3 (q.map It.av) = true := by cases q <;> rfl
def push (q v : List It) : List It := (q ++ v).drop (q.length + v.length - 8)
theorem queue_Push_s (q v : List It) (hq : q.length ≤ 1000) (hv : v.length ≤ 1000) : LM.call n_queue_Push [.lst .no (q.map It.av), .lst .no (v.map It.av)] [] =
    some (.tup [.lst .no ((push q v).map It.av), .int .i64 (q.length + v.length - 8 : Nat)], []) := by
  have lq := It.len q
  have lv := It.len v
  have oq := It.oks q
  have ov := It.oks v
  have lqv : (([] ++ q.map It.av) ++ v.map It.av).length = q.length + v.length := by simp
  have hh : headE 3 (([] ++ q.map It.av) ++ v.map It.av) = true := by rw [List.nil_append, ← List.map_append]; exact It.head _
  refine ev M noExt rfl rfl ?_
  conv => lhs; whnf
  repeat' (first
    | with_reducible rfl
    | (refine kB_true (decide_eq_true (by omega)) ?_; conv => lhs; whnf)
    | (refine kB_false (decide_eq_false (by omega)) ?_; conv => lhs; whnf)
    | ((with_reducible refine kN_go ?_ ?_); (first | assumption | with_reducible rfl | (refine decide_eq_true ?_; simp only [lenMax, List.length_cons, List.length_nil, List.length_append, List.length_map]; omega) | rotate_left); conv => lhs; whnf)
    | ((with_reducible refine kW_go ?_ ?_); rotate_left; conv => lhs; whnf)
    | (refine kB_dec (fun _ => ?_) (fun _ => ?_) <;> (conv => lhs; whnf))
    | (refine kB_elim (fun _ => ?_) (fun _ => ?_) <;> (conv => lhs; whnf)))
  rw [lqv]
  have e1 : (max 0 (((q.length + v.length : Nat) : Int) - 8)).toNat = q.length + v.length - 8 := by omega
  have e2 : max 0 (((q.length + v.length : Nat) : Int) - 8) = ((q.length + v.length - 8 : Nat) : Int) := by omega
  rw [e1, e2]
  simp [push]

def gcp (g : Gr) (n : Nat) : Gr := if n = 0 then g else g.cp
theorem gcp_cp (g : Gr) (n : Nat) : gcp g.cp n = g.cp := by unfold gcp; split <;> cases g <;> rfl
theorem r08_Push_l : ∀ (k : Nat) (l : List It) (ys : List AV) (s : St) (g : Gr) (n : Int), keep [6, 7] [] s = some ⟨[(6, .lst g ys), (7, .int .i64 n)], []⟩ → ys = l.map It.av → l.length - 8 = k → l.length ≤ 10000 → 0 ≤ n → n ≤ 10000 - l.length →
    LM.loop ([6, 7], [], [6, 7], B_r08_Push_0) s = some (.exit 0, ⟨[(6, .lst (gcp g k) ((l.drop k).map It.av)), (7, .int .i64 (n + k))], []⟩) := by
  intro k
  induction k with
  | zero =>
    intro l ys s g n hk hy hl h0 h1 h2
    have lq : ys.length = l.length := by rw [hy]; simp
    refine evL M noExt hk ?_
    conv => lhs; whnf
    repeat' (first
      | with_reducible rfl
      | (refine kB_true (decide_eq_true (by omega)) ?_; conv => lhs; whnf)
      | (refine kB_false (decide_eq_false (by omega)) ?_; conv => lhs; whnf)
      | ((with_reducible refine kN_go ?_ ?_); (first | assumption | with_reducible rfl | (refine decide_eq_true ?_; simp only [lenMax, List.length_cons, List.length_nil, List.length_append, List.length_map]; omega) | rotate_left); conv => lhs; whnf)
      | ((with_reducible refine kW_go ?_ ?_); rotate_left; conv => lhs; whnf)
      | (refine kB_dec (fun _ => ?_) (fun _ => ?_) <;> (conv => lhs; whnf))
      | (refine kB_elim (fun _ => ?_) (fun _ => ?_) <;> (conv => lhs; whnf)))
    simp [gcp, hy]
  | succ k ih =>
    intro l ys s g n hk hy hl h0 h1 h2
    have lq : ys.length = l.length := by rw [hy]; simp
    have hh : headE 3 ys = true := by rw [hy]; exact It.head _
    refine evL M noExt hk ?_
    conv => lhs; whnf
    repeat' (first
      | with_reducible rfl
      | (refine kB_true (decide_eq_true (by omega)) ?_; conv => lhs; whnf)
      | (refine kB_false (decide_eq_false (by omega)) ?_; conv => lhs; whnf)
      | ((with_reducible refine kN_go ?_ ?_); (first | assumption | with_reducible rfl | (refine decide_eq_true ?_; simp only [lenMax, List.length_cons, List.length_nil, List.length_append, List.length_map]; omega) | rotate_left); conv => lhs; whnf)
      | ((with_reducible refine kW_go ?_ ?_); rotate_left; conv => lhs; whnf)
      | (refine kB_dec (fun _ => ?_) (fun _ => ?_) <;> (conv => lhs; whnf))
      | (refine kB_elim (fun _ => ?_) (fun _ => ?_) <;> (conv => lhs; whnf)))
    refine (ih (l.drop 1) _ _ _ _ rfl ?_ (by simp; omega) (by simp; omega) (by omega) (by simp; omega)).trans ?_
    · simp [hy]
    · simp only [cutG, Gr.cp_cp, gcp_cp]
      simp [gcp, Nat.add_comm 1 k]
      omega
theorem r08_Push_s (q v : List It) (hq : q.length ≤ 1000) (hv : v.length ≤ 1000) : LM.call n_r08_Push [.lst .no (q.map It.av), .lst .no (v.map It.av)] [] =
    some (.tup [.lst .no ((push q v).map It.av), .int .i64 (q.length + v.length - 8 : Nat)], []) := by
  have lq := It.len q
  have lv := It.len v
  have oq := It.oks q
  have ov := It.oks v
  have lqv : ([] ++ q.map It.av).length = q.length := by simp
  refine ev M noExt rfl rfl ?_
  conv => lhs; whnf
  repeat' (first
    | with_reducible rfl
    | (refine kO_go (r08_Push_l (q.length + v.length - 8) (q ++ v) _ _ _ _ rfl (by simp) (by simp) (by simp; omega) (by omega) (by simp; omega)) ?_; conv => lhs; whnf)
    | (refine kB_true (decide_eq_true (by omega)) ?_; conv => lhs; whnf)
    | (refine kB_false (decide_eq_false (by omega)) ?_; conv => lhs; whnf)
    | ((with_reducible refine kN_go ?_ ?_); (first | assumption | with_reducible rfl | (refine decide_eq_true ?_; simp only [lenMax, List.length_cons, List.length_nil, List.length_append, List.length_map]; omega) | rotate_left); conv => lhs; whnf)
    | ((with_reducible refine kW_go ?_ ?_); rotate_left; conv => lhs; whnf)
    | (refine kB_dec (fun _ => ?_) (fun _ => ?_) <;> (conv => lhs; whnf))
    | (refine kB_elim (fun _ => ?_) (fun _ => ?_) <;> (conv => lhs; whnf)))
  simp [push]

/-! ### The laws -/
theorem l08_ends_s (q : List It) (a w : Int) (b : List UInt8) (hq : q.length ≤ 1000) : LM.call n_l08_ends [.lst .no (q.map It.av), .int .i64 a, .int .i64 w, .str b] [] = some (.bool (decide (q.getLast? = some ⟨a, w, b⟩)), []) := by
  have lq := It.len q
  cases hq2 : q.getLast? with
  | none =>
    have : q = [] := by simpa using hq2
    subst this
    refine ev M noExt rfl rfl ?_
    conv => lhs; whnf
    repeat' (first
      | with_reducible rfl
      | (refine kB_true (decide_eq_true (by omega)) ?_; conv => lhs; whnf)
      | (refine kB_false (decide_eq_false (by omega)) ?_; conv => lhs; whnf)
      | ((with_reducible refine kN_go ?_ ?_); (first | assumption | with_reducible rfl | (refine decide_eq_true ?_; simp only [lenMax, List.length_cons, List.length_nil, List.length_append, List.length_map]; omega) | rotate_left); conv => lhs; whnf)
      | ((with_reducible refine kW_go ?_ ?_); rotate_left; conv => lhs; whnf)
      | (refine kB_dec (fun _ => ?_) (fun _ => ?_) <;> (conv => lhs; whnf))
      | (refine kB_elim (fun _ => ?_) (fun _ => ?_) <;> (conv => lhs; whnf)))
    simp
  | some x =>
    have hne : q ≠ [] := by intro e; subst e; cases hq2
    have hpos : 0 < q.length := List.length_pos_iff.2 hne
    have hg : (q.map It.av)[((q.map It.av).length - 1 : Int).toNat]? = some (It.av x) := by
      rw [lq, List.getElem?_map, show ((q.length : Int) - 1).toNat = q.length - 1 from by omega, ← List.getLast?_eq_getElem?, hq2]; rfl
    refine ev M noExt rfl rfl ?_
    conv => lhs; whnf
    repeat' (first
      | with_reducible rfl
      | (refine kO_go (hg) ?_; conv => lhs; whnf)
      | (refine kB_true (decide_eq_true (by omega)) ?_; conv => lhs; whnf)
      | (refine kB_false (decide_eq_false (by omega)) ?_; conv => lhs; whnf)
      | ((with_reducible refine kN_go ?_ ?_); (first | assumption | with_reducible rfl | (refine decide_eq_true ?_; simp only [lenMax, List.length_cons, List.length_nil, List.length_append, List.length_map]; omega) | rotate_left); conv => lhs; whnf)
      | ((with_reducible refine kW_go ?_ ?_); rotate_left; conv => lhs; whnf))
    have := It.eqb x ⟨a, w, b⟩
    simpa using this

theorem step_oks {q : List It} (h : ∀ x ∈ q, x.Ok) : (∀ x ∈ comes q, x.Ok) ∧ ∀ x ∈ rests q, x.Ok := by
  have old : ∀ x : It, x.Ok → (older x).Ok := by
    rintro x ⟨h1, h2⟩
    refine ⟨?_, ?_⟩
    · simp only [older, sat]; split <;> (try split) <;> constructor <;> omega
    · simp only [older]; split <;> constructor <;> omega
  induction q with
  | nil => exact ⟨by simp [comes], by simp [rests]⟩
  | cons x q ih =>
    obtain ⟨i1, i2⟩ := ih fun y hy => h y (List.mem_cons_of_mem _ hy)
    have hx := old x (h x (by simp))
    simp only [comes, rests]
    split
    · exact ⟨fun y hy => (List.mem_cons.1 hy).elim (fun e => e ▸ hx) (i1 y), i2⟩
    · exact ⟨i1, fun y hy => (List.mem_cons.1 hy).elim (fun e => e ▸ hx) (i2 y)⟩

theorem QueueMoves_s (q v : List It) (t : Int) (hq : ∀ x ∈ q, x.Ok) (hv : ∀ x ∈ v, x.Ok) (lq : q.length ≤ 9223372036854775807) (lv : v.length ≤ 9223372036854775807) :
    LM.call n_l08_QueueMoves [.lst .no (q.map It.av), .lst .no (v.map It.av), .int .i64 t] [] = some (.bool true, []) := by
  have lq2 := It.len q
  have lv2 := It.len v
  by_cases hc : q.length > 30 ∨ v.length > 30
  · refine ev M noExt rfl rfl ?_
    conv => lhs; whnf
    repeat' (first
      | with_reducible rfl
      | (refine kO_go (l08_known_s) ?_; conv => lhs; whnf)
      | (refine kB_true (decide_eq_true (by omega)) ?_; conv => lhs; whnf)
      | (refine kB_false (decide_eq_false (by omega)) ?_; conv => lhs; whnf)
      | ((with_reducible refine kN_go ?_ ?_); (first | assumption | with_reducible rfl | (refine decide_eq_true ?_; simp only [lenMax, List.length_cons, List.length_nil, List.length_append, List.length_map]; omega) | rotate_left); conv => lhs; whnf)
      | ((with_reducible refine kW_go ?_ ?_); rotate_left; conv => lhs; whnf)
      | (refine kB_dec (fun _ => ?_) (fun _ => ?_) <;> (conv => lhs; whnf))
      | (refine kB_elim (fun _ => ?_) (fun _ => ?_) <;> (conv => lhs; whnf)))
    all_goals (first | rfl | assumption | omega | (simp [*]; done) | (simp [*]; omega) | (simp only []; repeat' split; all_goals first | omega | (simp [*]; done) | (simp [*]; omega)))
  · have hq1 : q.length ≤ 1000 := by omega
    have hv1 : v.length ≤ 1000 := by omega
    have hp : (push q v).length ≤ 1000 := by simp [push]; omega
    have hcr := comes_rests q
    refine ev M noExt rfl rfl ?_
    conv => lhs; whnf
    repeat' (first
      | with_reducible rfl
      | (refine kO_go (queue_Push_s q v hq1 hv1) ?_; conv => lhs; whnf)
      | (refine kO_go (r08_Push_s q v hq1 hv1) ?_; conv => lhs; whnf)
      | (refine kO_go (queue_Step_s q hq1 hq) ?_; conv => lhs; whnf)
      | (refine kO_go (r08_Step_s q hq1 hq) ?_; conv => lhs; whnf)
      | (refine kO_go (r08_Same_s _ _ hp) ?_; conv => lhs; whnf)
      | (refine kO_go (r08_Same_s (comes q) (comes q) (by omega)) ?_; conv => lhs; whnf)
      | (refine kO_go (r08_Same_s (rests q) (rests q) (by omega)) ?_; conv => lhs; whnf)
      | (refine kO_go (queue_Due_s q t hq1) ?_; conv => lhs; whnf)
      | (refine kO_go (r08_Due_s q t hq1) ?_; conv => lhs; whnf)
      | (refine kO_go (l08_known_s) ?_; conv => lhs; whnf)
      | ((refine kB_true ?_ ?_); (focus (simp; done)); conv => lhs; whnf)
      | (refine kB_true (decide_eq_true (by omega)) ?_; conv => lhs; whnf)
      | (refine kB_false (decide_eq_false (by omega)) ?_; conv => lhs; whnf)
      | ((with_reducible refine kN_go ?_ ?_); (first | assumption | with_reducible rfl | (refine decide_eq_true ?_; simp only [lenMax, List.length_cons, List.length_nil, List.length_append, List.length_map]; omega) | rotate_left); conv => lhs; whnf)
      | ((with_reducible refine kW_go ?_ ?_); rotate_left; conv => lhs; whnf)
      | (refine kB_dec (fun _ => ?_) (fun _ => ?_) <;> (conv => lhs; whnf))
      | (refine kB_elim (fun _ => ?_) (fun _ => ?_) <;> (conv => lhs; whnf)))
    all_goals (first | rfl | assumption | omega | (simp [*]; done) | (simp [*]; omega) | (simp only []; repeat' split; all_goals first | omega | (simp [*]; done) | (simp [*]; omega)))
theorem It.dec {cs : List AV} (h : wfcs [.i .i64, .i .i64, .s] cs) : ∃ x : It, mkE true cs = x.av ∧ x.Ok := by
  obtain ⟨_, _, rfl, h1, h⟩ := wfcs_cons h
  obtain ⟨_, _, rfl, h2, h⟩ := wfcs_cons h
  obtain ⟨_, _, rfl, h3, h⟩ := wfcs_cons h
  obtain rfl := wfcs_nil h
  obtain ⟨a, rfl, a1⟩ := wfc_i64 h1
  obtain ⟨b, rfl, b1⟩ := wfc_i64 h2
  obtain ⟨s, rfl, s1⟩ := wfc_s h3
  exact ⟨⟨a, b, s⟩, rfl, a1, b1⟩
theorem Its.dec {a : AV} (h : wfc (.l [.i .i64, .i .i64, .s] true) a) : ∃ q : List It, a = .lst .no (q.map It.av) ∧ (∀ x ∈ q, x.Ok) ∧ q.length ≤ 9223372036854775807 := wfc_list It.av It.Ok (fun cs => It.dec) h
theorem QueueMoves_law (l : List AV) (h : ArgsOf [([.l [.i .i64, .i .i64, .s] true], false), ([.l [.i .i64, .i .i64, .s] true], false), ([.i .i64], false)] l) : LM.call n_l08_QueueMoves l [] = some (.bool true, []) := by
  obtain ⟨_, _, rfl, h1, h⟩ := args_cons h
  obtain ⟨_, _, rfl, h2, h⟩ := args_cons h
  obtain ⟨_, _, rfl, h3, h⟩ := args_cons h
  obtain rfl := args_nil h
  obtain ⟨q, e1, q1, q2⟩ := Its.dec (wfcs_one h1)
  obtain ⟨v, e2, v1, v2⟩ := Its.dec (wfcs_one h2)
  obtain ⟨t, e3, t1⟩ := wfc_i64 (wfcs_one h3)
  rw [e1, e2, e3]
  exact QueueMoves_s q v t q1 v1 q2 v2

/-! ### Never too many -/
theorem push_len (q v : List It) : (push q v).length = min (q.length + v.length) 8 := by simp [push]; omega
theorem push_at (q v : List It) (i : Nat) (h1 : 1 ≤ i) (h2 : i ≤ v.length) (h3 : i ≤ (push q v).length) : (push q v)[(push q v).length - i]? = v[v.length - i]? := by
  have hl := push_len q v
  rw [hl] at h3
  unfold push at *
  rw [hl, List.getElem?_drop, List.getElem?_append_right (by omega)]
  congr 1
  omega
theorem QueueCaps_l (q v : List It) (hq : q.length ≤ 1000) (hv : v.length ≤ 1000) : ∀ (k : Nat) (s : St) (i : Int),
    keep [1, 5, 7] [] s = some ⟨[(1, .lst .no (v.map It.av)), (5, .lst .no ((push q v).map It.av)), (7, .int .i64 i)], []⟩ → 1 ≤ i → i ≤ 1000 → k = (min v.length (push q v).length : Nat) + 1 - i.toNat →
    LM.loop ([1, 5, 7], [], [4], B_l08_QueueCaps_0) s = some (.exit 0, ⟨[(4, .undef)], []⟩) := by
  intro k
  have lv := It.len v
  have la := It.len (push q v)
  have hpl := push_len q v
  induction k with
  | zero =>
    intro s i hk h1 h2 hi
    refine evL M noExt hk ?_
    conv => lhs; whnf
    repeat' (first
      | with_reducible rfl
      | (refine kB_true (decide_eq_true (by omega)) ?_; conv => lhs; whnf)
      | (refine kB_false (decide_eq_false (by omega)) ?_; conv => lhs; whnf)
      | ((with_reducible refine kN_go ?_ ?_); (first | assumption | with_reducible rfl | (refine decide_eq_true ?_; simp only [lenMax, List.length_cons, List.length_nil, List.length_append, List.length_map]; omega) | rotate_left); conv => lhs; whnf)
      | ((with_reducible refine kW_go ?_ ?_); rotate_left; conv => lhs; whnf)
      | (refine kB_dec (fun _ => ?_) (fun _ => ?_) <;> (conv => lhs; whnf))
      | (refine kB_elim (fun _ => ?_) (fun _ => ?_) <;> (conv => lhs; whnf)))
    all_goals rfl
  | succ k ih =>
    intro s i hk h1 h2 hi
    have hvi : v.length - i.toNat < v.length := by omega
    have hgv : (v.map It.av)[((v.map It.av).length - i : Int).toNat]? = some (It.av v[v.length - i.toNat]) := by
      rw [lv, show ((v.length : Int) - i).toNat = v.length - i.toNat from by omega, List.getElem?_map, List.getElem?_eq_getElem hvi]; rfl
    have hga : ((push q v).map It.av)[(((push q v).map It.av).length - i : Int).toNat]? = some (It.av v[v.length - i.toNat]) := by
      rw [la, show (((push q v).length : Int) - i).toNat = (push q v).length - i.toNat from by omega, List.getElem?_map, push_at q v i.toNat (by omega) (by omega) (by omega), List.getElem?_eq_getElem hvi]; rfl
    refine evL M noExt hk ?_
    conv => lhs; whnf
    repeat' (first
      | with_reducible rfl
      | (refine kO_go (hgv) ?_; conv => lhs; whnf)
      | (refine kO_go (hga) ?_; conv => lhs; whnf)
      | ((refine kB_false ?_ ?_); (focus (rw [It.eqb]; simp; done)); conv => lhs; whnf)
      | (refine kB_true (decide_eq_true (by omega)) ?_; conv => lhs; whnf)
      | (refine kB_false (decide_eq_false (by omega)) ?_; conv => lhs; whnf)
      | ((with_reducible refine kN_go ?_ ?_); (first | assumption | with_reducible rfl | (refine decide_eq_true ?_; simp only [lenMax, List.length_cons, List.length_nil, List.length_append, List.length_map]; omega) | rotate_left); conv => lhs; whnf)
      | ((with_reducible refine kW_go ?_ ?_); rotate_left; conv => lhs; whnf)
      | (refine kB_dec (fun _ => ?_) (fun _ => ?_) <;> (conv => lhs; whnf))
      | (refine kB_elim (fun _ => ?_) (fun _ => ?_) <;> (conv => lhs; whnf)))
    exact ih _ _ rfl (by omega) (by omega) (by omega)
theorem QueueCaps_s (q v : List It) (lq : q.length ≤ 9223372036854775807) (lv : v.length ≤ 9223372036854775807) :
    LM.call n_l08_QueueCaps [.lst .no (q.map It.av), .lst .no (v.map It.av)] [] = some (.bool true, []) := by
  have lq2 := It.len q
  have lv2 := It.len v
  by_cases hc : q.length > 30 ∨ v.length > 30
  · refine ev M noExt rfl rfl ?_
    conv => lhs; whnf
    repeat' (first
      | with_reducible rfl
      | (refine kO_go (l08_known_s) ?_; conv => lhs; whnf)
      | (refine kB_true (decide_eq_true (by omega)) ?_; conv => lhs; whnf)
      | (refine kB_false (decide_eq_false (by omega)) ?_; conv => lhs; whnf)
      | ((with_reducible refine kN_go ?_ ?_); (first | assumption | with_reducible rfl | (refine decide_eq_true ?_; simp only [lenMax, List.length_cons, List.length_nil, List.length_append, List.length_map]; omega) | rotate_left); conv => lhs; whnf)
      | ((with_reducible refine kW_go ?_ ?_); rotate_left; conv => lhs; whnf)
      | (refine kB_dec (fun _ => ?_) (fun _ => ?_) <;> (conv => lhs; whnf))
      | (refine kB_elim (fun _ => ?_) (fun _ => ?_) <;> (conv => lhs; whnf)))
    all_goals (first | rfl | assumption | omega | (simp [*]; done) | (simp [*]; omega) | (simp only []; repeat' split; all_goals first | omega | (simp [*]; done) | (simp [*]; omega)))
  · have hq1 : q.length ≤ 1000 := by omega
    have hv1 : v.length ≤ 1000 := by omega
    have hp := push_len q v
    have la := It.len (push q v)
    refine ev M noExt rfl rfl ?_
    conv => lhs; whnf
    repeat' (first
      | with_reducible rfl
      | (refine kO_go (queue_Push_s q v hq1 hv1) ?_; conv => lhs; whnf)
      | (refine kO_go (QueueCaps_l q v hq1 hv1 _ _ _ rfl (by omega) (by omega) rfl) ?_; conv => lhs; whnf)
      | (refine kO_go (l08_known_s) ?_; conv => lhs; whnf)
      | (refine kB_true (decide_eq_true (by omega)) ?_; conv => lhs; whnf)
      | (refine kB_false (decide_eq_false (by omega)) ?_; conv => lhs; whnf)
      | ((with_reducible refine kN_go ?_ ?_); (first | assumption | with_reducible rfl | (refine decide_eq_true ?_; simp only [lenMax, List.length_cons, List.length_nil, List.length_append, List.length_map]; omega) | rotate_left); conv => lhs; whnf)
      | ((with_reducible refine kW_go ?_ ?_); rotate_left; conv => lhs; whnf)
      | (refine kB_dec (fun _ => ?_) (fun _ => ?_) <;> (conv => lhs; whnf))
      | (refine kB_elim (fun _ => ?_) (fun _ => ?_) <;> (conv => lhs; whnf)))
    all_goals (first | rfl | assumption | omega | (simp [*]; done) | (simp [*]; omega) | (simp only []; repeat' split; all_goals first | omega | (simp [*]; done) | (simp [*]; omega)))
theorem QueueCaps_law (l : List AV) (h : ArgsOf [([.l [.i .i64, .i .i64, .s] true], false), ([.l [.i .i64, .i .i64, .s] true], false)] l) : LM.call n_l08_QueueCaps l [] = some (.bool true, []) := by
  obtain ⟨_, _, rfl, h1, h⟩ := args_cons h
  obtain ⟨_, _, rfl, h2, h⟩ := args_cons h
  obtain rfl := args_nil h
  obtain ⟨q, e1, q1, q2⟩ := Its.dec (wfcs_one h1)
  obtain ⟨v, e2, v1, v2⟩ := Its.dec (wfcs_one h2)
  rw [e1, e2]
  exact QueueCaps_s q v q2 v2

/-! ### It comes -/
theorem comes_app (q r : List It) : comes (q ++ r) = comes q ++ comes r := by
  induction q with
  | nil => rfl
  | cons x q ih => simp only [List.cons_append, comes, ih]; split <;> rfl
theorem rests_app (q r : List It) : rests (q ++ r) = rests q ++ rests r := by
  induction q with
  | nil => rfl
  | cons x q ih => simp only [List.cons_append, rests, ih]; split <;> rfl
theorem QueueComes_l (w : Int) (b : List UInt8) (hw : 1 ≤ w) (hw2 : w ≤ 20) : ∀ (k : Nat) (q : List It) (s : St) (i : Int),
    keep [1, 2, 7, 9] [] s = some ⟨[(1, .int .i64 w), (2, .str b), (7, .lst .no (q.map It.av)), (9, .int .i64 i)], []⟩ → 1 ≤ i → k = w.toNat + 1 - i.toNat → i ≤ w + 1 → (∀ x ∈ q, x.Ok) → q.length ≤ 1000 →
    (i ≤ w → ∃ q0, q = q0 ++ [⟨i - 1, w - i + 1, b⟩]) →
    LM.loop ([1, 2, 7, 9], [], [6], B_l08_QueueComes_0) s = some (.exit 0, ⟨[(6, .undef)], []⟩) := by
  intro k
  induction k with
  | zero =>
    intro q s i hk h1 hi hi2 hok hq hl
    refine evL M noExt hk ?_
    conv => lhs; whnf
    repeat' (first
      | with_reducible rfl
      | (refine kB_true (decide_eq_true (by omega)) ?_; conv => lhs; whnf)
      | (refine kB_false (decide_eq_false (by omega)) ?_; conv => lhs; whnf)
      | ((with_reducible refine kN_go ?_ ?_); (first | assumption | with_reducible rfl | (refine decide_eq_true ?_; simp only [lenMax, List.length_cons, List.length_nil, List.length_append, List.length_map]; omega) | rotate_left); conv => lhs; whnf)
      | ((with_reducible refine kW_go ?_ ?_); rotate_left; conv => lhs; whnf)
      | (refine kB_dec (fun _ => ?_) (fun _ => ?_) <;> (conv => lhs; whnf))
      | (refine kB_elim (fun _ => ?_) (fun _ => ?_) <;> (conv => lhs; whnf)))
    all_goals rfl
  | succ k ih =>
    intro q s i hk h1 hi hi2 hok hq hl
    obtain ⟨q0, hq0⟩ := hl (by omega)
    have hcr := comes_rests q
    have hst := step_oks hok
    have e0 : sat (i - 1) 65535 = i := by unfold sat; rw [if_neg (by omega), if_neg (by omega)]; omega
    by_cases hiw : i < w
    · have er : rests q = rests q0 ++ [⟨i, w - i, b⟩] := by
        rw [hq0, rests_app]
        simp [rests, older, e0, show ¬ w - i + 1 ≤ 1 from by omega]
      have hlast : (rests q).getLast? = some ⟨i, w - i, b⟩ := by rw [er]; simp
      have he := l08_ends_s (rests q) i (w - i) b (by omega)
      rw [hlast] at he
      simp only [decide_true] at he
      refine evL M noExt hk ?_
      conv => lhs; whnf
      repeat' (first
        | with_reducible rfl
        | (refine kO_go (queue_Step_s q hq hok) ?_; conv => lhs; whnf)
        | (refine kO_go (he) ?_; conv => lhs; whnf)
        | ((refine kB_false ?_ ?_); (focus (rfl; done)); conv => lhs; whnf)
        | (refine kB_true (decide_eq_true (by omega)) ?_; conv => lhs; whnf)
        | (refine kB_false (decide_eq_false (by omega)) ?_; conv => lhs; whnf)
        | ((with_reducible refine kN_go ?_ ?_); (first | assumption | with_reducible rfl | (refine decide_eq_true ?_; simp only [lenMax, List.length_cons, List.length_nil, List.length_append, List.length_map]; omega) | rotate_left); conv => lhs; whnf)
        | ((with_reducible refine kW_go ?_ ?_); rotate_left; conv => lhs; whnf)
        | (refine kB_dec (fun _ => ?_) (fun _ => ?_) <;> (conv => lhs; whnf))
        | (refine kB_elim (fun _ => ?_) (fun _ => ?_) <;> (conv => lhs; whnf)))
      refine ih (rests q) _ _ rfl (by omega) (by omega) (by omega) hst.2 (by omega) fun _ => ⟨rests q0, ?_⟩
      rw [er]
      congr 3
      · omega
      · omega
    · have hiw' : i = w := by omega
      have er : comes q = comes q0 ++ [⟨i, 0, b⟩] := by
        rw [hq0, comes_app]
        simp [comes, older, e0, show w - i + 1 ≤ 1 from by omega]
      have hlast : (comes q).getLast? = some ⟨i, 0, b⟩ := by rw [er]; simp
      have he := l08_ends_s (comes q) i 0 b (by omega)
      rw [hlast] at he
      simp only [decide_true] at he
      refine evL M noExt hk ?_
      conv => lhs; whnf
      repeat' (first
        | with_reducible rfl
        | (refine kO_go (queue_Step_s q hq hok) ?_; conv => lhs; whnf)
        | (refine kO_go (he) ?_; conv => lhs; whnf)
        | ((refine kB_false ?_ ?_); (focus (rfl; done)); conv => lhs; whnf)
        | (refine kB_true (decide_eq_true (by omega)) ?_; conv => lhs; whnf)
        | (refine kB_false (decide_eq_false (by omega)) ?_; conv => lhs; whnf)
        | ((with_reducible refine kN_go ?_ ?_); (first | assumption | with_reducible rfl | (refine decide_eq_true ?_; simp only [lenMax, List.length_cons, List.length_nil, List.length_append, List.length_map]; omega) | rotate_left); conv => lhs; whnf)
        | ((with_reducible refine kW_go ?_ ?_); rotate_left; conv => lhs; whnf)
        | (refine kB_dec (fun _ => ?_) (fun _ => ?_) <;> (conv => lhs; whnf))
        | (refine kB_elim (fun _ => ?_) (fun _ => ?_) <;> (conv => lhs; whnf)))
      exact ih (rests q) _ _ rfl (by omega) (by omega) (by omega) hst.2 (by omega) fun _ => by omega
theorem QueueComes_s (q : List It) (w : Int) (b : List UInt8) (lq : q.length ≤ 9223372036854775807) (hq : ∀ x ∈ q, x.Ok) (hw : IN w) :
    LM.call n_l08_QueueComes [.lst .no (q.map It.av), .int .i64 w, .str b] [] = some (.bool true, []) := by
  have lq2 := It.len q
  by_cases hc : q.length > 30 ∨ w < 1 ∨ w > 20
  · refine ev M noExt rfl rfl ?_
    conv => lhs; whnf
    repeat' (first
      | with_reducible rfl
      | (refine kO_go (l08_known_s) ?_; conv => lhs; whnf)
      | (refine kB_true (decide_eq_true (by omega)) ?_; conv => lhs; whnf)
      | (refine kB_false (decide_eq_false (by omega)) ?_; conv => lhs; whnf)
      | ((with_reducible refine kN_go ?_ ?_); (first | assumption | with_reducible rfl | (refine decide_eq_true ?_; simp only [lenMax, List.length_cons, List.length_nil, List.length_append, List.length_map]; omega) | rotate_left); conv => lhs; whnf)
      | ((with_reducible refine kW_go ?_ ?_); rotate_left; conv => lhs; whnf)
      | (refine kB_dec (fun _ => ?_) (fun _ => ?_) <;> (conv => lhs; whnf))
      | (refine kB_elim (fun _ => ?_) (fun _ => ?_) <;> (conv => lhs; whnf)))
    all_goals (first | rfl | assumption | omega | (simp [*]; done) | (simp [*]; omega) | (simp only []; repeat' split; all_goals first | omega | (simp [*]; done) | (simp [*]; omega)))
  · have hq1 : q.length ≤ 1000 := by omega
    have hok : ∀ x ∈ push q [⟨0, w, b⟩], x.Ok := by
      intro x hx
      have := List.mem_of_mem_drop hx
      rcases List.mem_append.1 this with h | h
      · exact hq x h
      · simp at h; subst h; exact ⟨by constructor <;> simp, hw⟩
    have hpl := push_len q [⟨0, w, b⟩]
    have hpe : ∃ q0, push q [⟨0, w, b⟩] = q0 ++ [⟨1 - 1, w - 1 + 1, b⟩] := by
      refine ⟨q.drop (q.length + 1 - 8), ?_⟩
      simp only [push, List.length_cons, List.length_nil]
      rw [List.drop_append_of_le_length (by omega)]
      congr 3
      omega
    refine ev M noExt rfl rfl ?_
    conv => lhs; whnf
    repeat' (first
      | with_reducible rfl
      | (refine kO_go (queue_Push_s q [⟨0, w, b⟩] hq1 (by simp)) ?_; conv => lhs; whnf)
      | (refine kO_go (QueueComes_l w b (by omega) (by omega) _ (push q [⟨0, w, b⟩]) _ _ rfl (by omega) rfl (by omega) hok (by omega) (fun _ => hpe)) ?_; conv => lhs; whnf)
      | (refine kO_go (l08_known_s) ?_; conv => lhs; whnf)
      | (refine kB_true (decide_eq_true (by omega)) ?_; conv => lhs; whnf)
      | (refine kB_false (decide_eq_false (by omega)) ?_; conv => lhs; whnf)
      | ((with_reducible refine kN_go ?_ ?_); (first | assumption | with_reducible rfl | (refine decide_eq_true ?_; simp only [lenMax, List.length_cons, List.length_nil, List.length_append, List.length_map]; omega) | rotate_left); conv => lhs; whnf)
      | ((with_reducible refine kW_go ?_ ?_); rotate_left; conv => lhs; whnf)
      | (refine kB_dec (fun _ => ?_) (fun _ => ?_) <;> (conv => lhs; whnf))
      | (refine kB_elim (fun _ => ?_) (fun _ => ?_) <;> (conv => lhs; whnf)))
    all_goals (first | rfl | assumption | omega | (simp [*]; done) | (simp [*]; omega) | (simp only []; repeat' split; all_goals first | omega | (simp [*]; done) | (simp [*]; omega)))
theorem QueueComes_law (l : List AV) (h : ArgsOf [([.l [.i .i64, .i .i64, .s] true], false), ([.i .i64], false), ([.s], false)] l) : LM.call n_l08_QueueComes l [] = some (.bool true, []) := by
  obtain ⟨_, _, rfl, h1, h⟩ := args_cons h
  obtain ⟨_, _, rfl, h2, h⟩ := args_cons h
  obtain ⟨_, _, rfl, h3, h⟩ := args_cons h
  obtain rfl := args_nil h
  obtain ⟨q, e1, q1, q2⟩ := Its.dec (wfcs_one h1)
  obtain ⟨w, e2, w1⟩ := wfc_i64 (wfcs_one h2)
  obtain ⟨b, e3, b1⟩ := wfc_s (wfcs_one h3)
  rw [e1, e2, e3]
  exact QueueComes_s q w b q2 q1 w1

/-! ### None is lost -/
theorem due_zero (q : List It) : due 0 q = 0 := by
  induction q with
  | nil => rfl
  | cons x q ih => simp only [due, ih]; rw [if_neg (by omega)]
theorem due_succ (j : Int) (hj : 0 ≤ j) (q : List It) : due (1 + j) q = (comes q).length + due j (rests q) := by
  induction q with
  | nil => rfl
  | cons x q ih =>
    simp only [due, comes, rests, ih]
    by_cases h : x.wait ≤ 1
    · rw [if_pos (by omega), if_pos h, if_pos h]; simp; omega
    · rw [if_neg h, if_neg h]
      simp only [due, older, if_neg h]
      have : (if max x.wait 1 ≤ 1 + j then 1 else 0) = if max (x.wait - 1) 1 ≤ j then 1 else 0 := by
        by_cases h2 : x.wait ≤ 1 + j
        · rw [if_pos (by omega), if_pos (by omega)]
        · rw [if_neg (by omega), if_neg (by omega)]
      rw [this]; omega
theorem QueueAll_l (q : List It) (t : Int) (ht : t ≤ 20) (hq : q.length ≤ 1000) : ∀ (k : Nat) (a : List It) (s : St) (n i : Int),
    keep [0, 1, 5, 6, 7] [] s = some ⟨[(0, .lst .no (q.map It.av)), (1, .int .i64 t), (5, .int .i64 n), (6, .lst .no (a.map It.av)), (7, .int .i64 i)], []⟩ → 1 ≤ i → k = t.toNat + 1 - i.toNat → i ≤ t + 1 → (∀ x ∈ a, x.Ok) → n + a.length = q.length → 0 ≤ n →
    (∀ j, 0 ≤ j → (due (i - 1 + j) q : Int) = n + due j a) →
    LM.loop ([0, 1, 5, 6, 7], [], [0, 4], B_l08_QueueAll_0) s = some (.exit 0, ⟨[(0, .lst .no (q.map It.av)), (4, .undef)], []⟩) := by
  intro k
  have lq := It.len q
  induction k with
  | zero =>
    intro a s n i hk h1 hi hi2 hok hn h0 hd
    refine evL M noExt hk ?_
    conv => lhs; whnf
    repeat' (first
      | with_reducible rfl
      | (refine kB_true (decide_eq_true (by omega)) ?_; conv => lhs; whnf)
      | (refine kB_false (decide_eq_false (by omega)) ?_; conv => lhs; whnf)
      | ((with_reducible refine kN_go ?_ ?_); (first | assumption | with_reducible rfl | (refine decide_eq_true ?_; simp only [lenMax, List.length_cons, List.length_nil, List.length_append, List.length_map]; omega) | rotate_left); conv => lhs; whnf)
      | ((with_reducible refine kW_go ?_ ?_); rotate_left; conv => lhs; whnf)
      | (refine kB_dec (fun _ => ?_) (fun _ => ?_) <;> (conv => lhs; whnf))
      | (refine kB_elim (fun _ => ?_) (fun _ => ?_) <;> (conv => lhs; whnf)))
    all_goals rfl
  | succ k ih =>
    intro a s n i hk h1 hi hi2 hok hn h0 hd
    have hcr := comes_rests a
    have hst := step_oks hok
    have lc := It.len (comes a)
    have lr := It.len (rests a)
    have hd2 : ∀ j, 0 ≤ j → (due (i + 1 - 1 + j) q : Int) = n + (comes a).length + due j (rests a) := by
      intro j hj
      have := hd (1 + j) (by omega)
      rw [due_succ j hj, show i - 1 + (1 + j) = i + 1 - 1 + j from by omega] at this
      omega
    have hdi := hd2 0 (by omega)
    rw [due_zero, show i + 1 - 1 + 0 = i from by omega] at hdi
    refine evL M noExt hk ?_
    conv => lhs; whnf
    repeat' (first
      | with_reducible rfl
      | (refine kO_go (queue_Step_s a (by omega) hok) ?_; conv => lhs; whnf)
      | (refine kO_go (queue_Due_s q i hq) ?_; conv => lhs; whnf)
      | (refine kB_true (decide_eq_true (by omega)) ?_; conv => lhs; whnf)
      | (refine kB_false (decide_eq_false (by omega)) ?_; conv => lhs; whnf)
      | ((with_reducible refine kN_go ?_ ?_); (first | assumption | with_reducible rfl | (refine decide_eq_true ?_; simp only [lenMax, List.length_cons, List.length_nil, List.length_append, List.length_map]; omega) | rotate_left); conv => lhs; whnf)
      | ((with_reducible refine kW_go ?_ ?_); rotate_left; conv => lhs; whnf)
      | (refine kB_dec (fun _ => ?_) (fun _ => ?_) <;> (conv => lhs; whnf))
      | (refine kB_elim (fun _ => ?_) (fun _ => ?_) <;> (conv => lhs; whnf)))
    exact ih (rests a) _ _ _ rfl (by omega) (by omega) (by omega) hst.2 (by omega) (by omega) fun j hj => by rw [lc]; exact hd2 j hj
theorem QueueAll_s (q : List It) (t : Int) (lq : q.length ≤ 9223372036854775807) (hq : ∀ x ∈ q, x.Ok) :
    LM.call n_l08_QueueAll [.lst .no (q.map It.av), .int .i64 t] [] = some (.bool true, []) := by
  have lq2 := It.len q
  by_cases hc : q.length > 30 ∨ t < 0 ∨ t > 20
  · refine ev M noExt rfl rfl ?_
    conv => lhs; whnf
    repeat' (first
      | with_reducible rfl
      | (refine kO_go (l08_known_s) ?_; conv => lhs; whnf)
      | (refine kB_true (decide_eq_true (by omega)) ?_; conv => lhs; whnf)
      | (refine kB_false (decide_eq_false (by omega)) ?_; conv => lhs; whnf)
      | ((with_reducible refine kN_go ?_ ?_); (first | assumption | with_reducible rfl | (refine decide_eq_true ?_; simp only [lenMax, List.length_cons, List.length_nil, List.length_append, List.length_map]; omega) | rotate_left); conv => lhs; whnf)
      | ((with_reducible refine kW_go ?_ ?_); rotate_left; conv => lhs; whnf)
      | (refine kB_dec (fun _ => ?_) (fun _ => ?_) <;> (conv => lhs; whnf))
      | (refine kB_elim (fun _ => ?_) (fun _ => ?_) <;> (conv => lhs; whnf)))
    all_goals (first | rfl | assumption | omega | (simp [*]; done) | (simp [*]; omega) | (simp only []; repeat' split; all_goals first | omega | (simp [*]; done) | (simp [*]; omega)))
  · have hq1 : q.length ≤ 1000 := by omega
    have hz := due_zero q
    refine ev M noExt rfl rfl ?_
    conv => lhs; whnf
    repeat' (first
      | with_reducible rfl
      | (refine kO_go (QueueAll_l q t (by omega) hq1 _ q _ _ _ rfl (by omega) rfl (by omega) hq (by omega) (by omega) (fun j hj => by simp)) ?_; conv => lhs; whnf)
      | (refine kO_go ((queue_Due_s q 0 hq1).trans (by rw [hz])) ?_; conv => lhs; whnf)
      | (refine kO_go (l08_known_s) ?_; conv => lhs; whnf)
      | (refine kB_true (decide_eq_true (by omega)) ?_; conv => lhs; whnf)
      | (refine kB_false (decide_eq_false (by omega)) ?_; conv => lhs; whnf)
      | ((with_reducible refine kN_go ?_ ?_); (first | assumption | with_reducible rfl | (refine decide_eq_true ?_; simp only [lenMax, List.length_cons, List.length_nil, List.length_append, List.length_map]; omega) | rotate_left); conv => lhs; whnf)
      | ((with_reducible refine kW_go ?_ ?_); rotate_left; conv => lhs; whnf)
      | (refine kB_dec (fun _ => ?_) (fun _ => ?_) <;> (conv => lhs; whnf))
      | (refine kB_elim (fun _ => ?_) (fun _ => ?_) <;> (conv => lhs; whnf)))
    all_goals (first | rfl | assumption | omega | (simp [*]; done) | (simp [*]; omega) | (simp only []; repeat' split; all_goals first | omega | (simp [*]; done) | (simp [*]; omega)))
theorem QueueAll_law (l : List AV) (h : ArgsOf [([.l [.i .i64, .i .i64, .s] true], false), ([.i .i64], false)] l) : LM.call n_l08_QueueAll l [] = some (.bool true, []) := by
  obtain ⟨_, _, rfl, h1, h⟩ := args_cons h
  obtain ⟨_, _, rfl, h2, h⟩ := args_cons h
  obtain rfl := args_nil h
  obtain ⟨q, e1, q1, q2⟩ := Its.dec (wfcs_one h1)
  obtain ⟨w, e2, w1⟩ := wfc_i64 (wfcs_one h2)
  rw [e1, e2]
  exact QueueAll_s q w q2 q1
end Go.Proofs.Ytmnnichijcfjaaa
