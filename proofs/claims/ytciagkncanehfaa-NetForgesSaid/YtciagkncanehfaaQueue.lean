/-
  Functions of the program, evaluated: queue.
-/
import Derived.Test.YtciagkncanehfaaNum
set_option linter.unusedVariables false
set_option linter.unusedSimpArgs false
set_option maxRecDepth 100000
namespace Go.Proofs.Ytciagkncanehfaa
open Go.Proofs.PF

/-! ### Items -/
structure It where
  age : Int
  wait : Int
  bytes : List UInt8
  deriving DecidableEq
@[reducible] def It.av (x : It) : AV := .agg [.int .i64 x.age, .int .i64 x.wait, .str x.bytes]
structure It.Ok (x : It) : Prop where
  age : IN x.age
  wait : IN x.wait
def older (x : It) : It := { age := sat x.age 65535, wait := if x.wait ≤ 1 then 0 else x.wait - 1, bytes := x.bytes }
theorem queue_older_s (x : It) (h : x.Ok) : LM.call n_queue_older [x.av] [] = some (.tup [(older x).av, .bool (decide (x.wait ≤ 1))], []) := by
  obtain ⟨h1, h2⟩ := h
  refine ev M XE rfl rfl ?_
  conv => lhs; whnf
  repeat' (first
    | with_reducible rfl
    | (refine kO_go (num_Sat_s _ _ (by omega) (by omega)) ?_; conv => lhs; whnf)
    | (refine kW_go (by omega) ?_; conv => lhs; whnf)
    | (refine kB_true (decide_eq_true (by omega)) ?_; conv => lhs; whnf)
    | (refine kB_false (decide_eq_false (by omega)) ?_; conv => lhs; whnf)
    | ((with_reducible refine kN_go ?_ ?_); (first | assumption | with_reducible rfl | (refine decide_eq_true ?_; simp only [lenMax, List.length_cons, List.length_nil, List.length_append, List.length_map]; omega) | rotate_left); conv => lhs; whnf)
    | ((with_reducible refine kW_go ?_ ?_); rotate_left; conv => lhs; whnf)
    | (refine kB_dec (fun _ => ?_) (fun _ => ?_) <;> (conv => lhs; whnf))
    | (refine kB_elim (fun _ => ?_) (fun _ => ?_) <;> (conv => lhs; whnf)))
  all_goals (first | rfl | assumption | omega | (simp [*, older]; done) | (simp [*, older]; omega) | (simp_all [older]; done) | (simp only [older]; repeat' split; all_goals first | omega | (simp [*]; done) | (simp [*]; omega)))

def due (t : Int) : List It → Nat
  | [] => 0
  | x :: r => (if max x.wait 1 ≤ t then 1 else 0) + due t r
theorem due_le (t : Int) (q : List It) : due t q ≤ q.length := by
  induction q with
  | nil => simp [due]
  | cons x r ih => simp only [due, List.length_cons]; split <;> omega

/-! ### Steps -/
@[reducible] def avs (q : List It) : List AV := q.map It.av
theorem queue_Step_1_s (x : It) (b : Bool) (g1 g2 : Gr) (ys zs : List AV) (h1 : mayApp 3 g1 ys = true) (h2 : mayApp 3 g2 zs = true) (hy : ys.length ≤ 4000) (hz : zs.length ≤ 4000) :
    LM.call n_queue_Step_1 [x.av, .bool b, .ptr 0 0, .ptr 1 0] [⟨true, [.lst g1 ys]⟩, ⟨true, [.lst g2 zs]⟩] =
      some (.tup [], if b then [⟨true, [.lst (.own 3) (ys ++ [x.av])]⟩, ⟨true, [.lst g2 zs]⟩] else [⟨true, [.lst g1 ys]⟩, ⟨true, [.lst (.own 3) (zs ++ [x.av])]⟩]) := by
  cases b
  · refine ev M XE rfl rfl ?_
    conv => lhs; whnf
    repeat' (first
      | with_reducible rfl
      | (refine kW_go (by omega) ?_; conv => lhs; whnf)
      | (refine kB_true (decide_eq_true (by omega)) ?_; conv => lhs; whnf)
      | (refine kB_false (decide_eq_false (by omega)) ?_; conv => lhs; whnf)
      | ((with_reducible refine kN_go ?_ ?_); (first | assumption | with_reducible rfl | (refine decide_eq_true ?_; simp only [lenMax, List.length_cons, List.length_nil, List.length_append, List.length_map]; omega) | rotate_left); conv => lhs; whnf)
      | ((with_reducible refine kW_go ?_ ?_); rotate_left; conv => lhs; whnf)
      | (refine kB_dec (fun _ => ?_) (fun _ => ?_) <;> (conv => lhs; whnf))
      | (refine kB_elim (fun _ => ?_) (fun _ => ?_) <;> (conv => lhs; whnf)))
    all_goals (first | rfl | assumption | omega | (simp [*]; done) | (simp [*]; omega) | (simp_all []; done) | (simp only []; repeat' split; all_goals first | omega | (simp [*]; done) | (simp [*]; omega)))
  · refine ev M XE rfl rfl ?_
    conv => lhs; whnf
    repeat' (first
      | with_reducible rfl
      | (refine kW_go (by omega) ?_; conv => lhs; whnf)
      | (refine kB_true (decide_eq_true (by omega)) ?_; conv => lhs; whnf)
      | (refine kB_false (decide_eq_false (by omega)) ?_; conv => lhs; whnf)
      | ((with_reducible refine kN_go ?_ ?_); (first | assumption | with_reducible rfl | (refine decide_eq_true ?_; simp only [lenMax, List.length_cons, List.length_nil, List.length_append, List.length_map]; omega) | rotate_left); conv => lhs; whnf)
      | ((with_reducible refine kW_go ?_ ?_); rotate_left; conv => lhs; whnf)
      | (refine kB_dec (fun _ => ?_) (fun _ => ?_) <;> (conv => lhs; whnf))
      | (refine kB_elim (fun _ => ?_) (fun _ => ?_) <;> (conv => lhs; whnf)))
    all_goals (first | rfl | assumption | omega | (simp [*]; done) | (simp [*]; omega) | (simp_all []; done) | (simp only []; repeat' split; all_goals first | omega | (simp [*]; done) | (simp [*]; omega)))
def comes : List It → List It
  | [] => []
  | x :: r => if x.wait ≤ 1 then older x :: comes r else comes r
def rests : List It → List It
  | [] => []
  | x :: r => if x.wait ≤ 1 then rests r else older x :: rests r
theorem comes_rests (q : List It) : (comes q).length + (rests q).length = q.length := by
  induction q with
  | nil => rfl
  | cons x r ih => simp only [comes, rests]; split <;> simp <;> omega
theorem queue_older_t (x : It) (h : x.Ok) (hw : x.wait ≤ 1) : LM.call n_queue_older [x.av] [] = some (.tup [(older x).av, .bool true], []) := by rw [queue_older_s x h]; simp [hw]
theorem queue_older_f (x : It) (h : x.Ok) (hw : ¬ x.wait ≤ 1) : LM.call n_queue_older [x.av] [] = some (.tup [(older x).av, .bool false], []) := by rw [queue_older_s x h]; simp [hw]
theorem queue_Step_l (q : List It) (hq : q.length ≤ 4000) (hok : ∀ x ∈ q, x.Ok) : ∀ (post pre : List It) (s : St) (g1 g2 : Gr) (ys zs : List AV) (i m : Int),
    keep [2, 3, 4, 8, 9, 10] [102, 103] s = some ⟨[(2, .ptr 102 0), (3, .ptr 103 0), (4, .fn n_queue_Step_1 [.ptr 102 0, .ptr 103 0]), (8, .lst .no (q.map It.av)), (9, .int .i64 m), (10, .int .i64 i)], [(103, ⟨true, [.lst g2 zs]⟩), (102, ⟨true, [.lst g1 ys]⟩)]⟩ →
    m = q.length → q = pre ++ post → i = pre.length → mayApp 3 g1 ys = true → mayApp 3 g2 zs = true → ys.length ≤ pre.length → zs.length ≤ pre.length →
    LM.loop ([2, 3, 4, 8, 9, 10], [102, 103], [2, 3], B_queue_Step_0) s = some (.exit 0, ⟨[(2, .ptr 102 0), (3, .ptr 103 0)], [(103, ⟨true, [.lst (apg g2 3 (rests post)) (zs ++ (rests post).map It.av)]⟩), (102, ⟨true, [.lst (apg g1 3 (comes post)) (ys ++ (comes post).map It.av)]⟩)]⟩) := by
  intro post
  induction post with
  | nil =>
    intro pre s g1 g2 ys zs i m hk hm hpre hi h1 h2 h3 h4
    have hl : q.length = pre.length := by rw [hpre]; simp
    refine evL M XE hk ?_
    conv => lhs; whnf
    repeat' (first
      | with_reducible rfl
      | (refine kW_go (by omega) ?_; conv => lhs; whnf)
      | (refine kB_true (decide_eq_true (by omega)) ?_; conv => lhs; whnf)
      | (refine kB_false (decide_eq_false (by omega)) ?_; conv => lhs; whnf)
      | ((with_reducible refine kN_go ?_ ?_); (first | assumption | with_reducible rfl | (refine decide_eq_true ?_; simp only [lenMax, List.length_cons, List.length_nil, List.length_append, List.length_map]; omega) | rotate_left); conv => lhs; whnf)
      | ((with_reducible refine kW_go ?_ ?_); rotate_left; conv => lhs; whnf)
      | (refine kB_dec (fun _ => ?_) (fun _ => ?_) <;> (conv => lhs; whnf))
      | (refine kB_elim (fun _ => ?_) (fun _ => ?_) <;> (conv => lhs; whnf)))
    simp [comes, rests]
  | cons x post ih =>
    intro pre s g1 g2 ys zs i m hk hm hpre hi h1 h2 h3 h4
    have hl : q.length = pre.length + post.length + 1 := by rw [hpre]; simp; omega
    have hl2 : (q.map It.av).length = q.length := by simp
    have hg : (q.map It.av)[i.toNat]? = some (It.av x) := by rw [hpre, hi]; simp
    have hx := hok x (by rw [hpre]; simp)
    by_cases hw : x.wait ≤ 1
    · refine evL M XE hk ?_
      conv => lhs; whnf
      repeat' (first
        | with_reducible rfl
        | (refine kO_go (hg) ?_; conv => lhs; whnf)
        | (refine kO_go (queue_older_t x hx hw) ?_; conv => lhs; whnf)
        | (refine kO_go (queue_Step_1_s (older x) true g1 g2 ys zs h1 h2 (by omega) (by omega)) ?_; conv => lhs; whnf)
        | (refine kW_go (by omega) ?_; conv => lhs; whnf)
        | (refine kB_true (decide_eq_true (by omega)) ?_; conv => lhs; whnf)
        | (refine kB_false (decide_eq_false (by omega)) ?_; conv => lhs; whnf)
        | ((with_reducible refine kN_go ?_ ?_); (first | assumption | with_reducible rfl | (refine decide_eq_true ?_; simp only [lenMax, List.length_cons, List.length_nil, List.length_append, List.length_map]; omega) | rotate_left); conv => lhs; whnf)
        | ((with_reducible refine kW_go ?_ ?_); rotate_left; conv => lhs; whnf)
        | (refine kB_dec (fun _ => ?_) (fun _ => ?_) <;> (conv => lhs; whnf))
        | (refine kB_elim (fun _ => ?_) (fun _ => ?_) <;> (conv => lhs; whnf)))
      refine (ih (pre ++ [x]) _ _ _ _ _ _ _ rfl hm (by simp [hpre]) (by simp [hi]) rfl h2 (by simp; omega) (by simp; omega)).trans ?_
      simp [comes, rests, hw]
    · refine evL M XE hk ?_
      conv => lhs; whnf
      repeat' (first
        | with_reducible rfl
        | (refine kO_go (hg) ?_; conv => lhs; whnf)
        | (refine kO_go (queue_older_f x hx hw) ?_; conv => lhs; whnf)
        | (refine kO_go (queue_Step_1_s (older x) false g1 g2 ys zs h1 h2 (by omega) (by omega)) ?_; conv => lhs; whnf)
        | (refine kW_go (by omega) ?_; conv => lhs; whnf)
        | (refine kB_true (decide_eq_true (by omega)) ?_; conv => lhs; whnf)
        | (refine kB_false (decide_eq_false (by omega)) ?_; conv => lhs; whnf)
        | ((with_reducible refine kN_go ?_ ?_); (first | assumption | with_reducible rfl | (refine decide_eq_true ?_; simp only [lenMax, List.length_cons, List.length_nil, List.length_append, List.length_map]; omega) | rotate_left); conv => lhs; whnf)
        | ((with_reducible refine kW_go ?_ ?_); rotate_left; conv => lhs; whnf)
        | (refine kB_dec (fun _ => ?_) (fun _ => ?_) <;> (conv => lhs; whnf))
        | (refine kB_elim (fun _ => ?_) (fun _ => ?_) <;> (conv => lhs; whnf)))
      refine (ih (pre ++ [x]) _ _ _ _ _ _ _ rfl hm (by simp [hpre]) (by simp [hi]) h1 rfl (by simp; omega) (by simp; omega)).trans ?_
      simp [comes, rests, hw]
theorem queue_Step_s (q : List It) (hq : q.length ≤ 4000) (hok : ∀ x ∈ q, x.Ok) : LM.call n_queue_Step [.lst .no (q.map It.av)] [] = some (.tup [.lst .no ((comes q).map It.av), .lst .no ((rests q).map It.av)], []) := by
  refine ev M XE rfl rfl ?_
  conv => lhs; whnf
  repeat' (first
    | with_reducible rfl
    | (refine kO_go (queue_Step_l q hq hok q [] _ _ _ _ _ _ _ rfl (by simp) rfl rfl rfl rfl (by simp) (by simp)) ?_; conv => lhs; whnf)
    | (refine kW_go (by omega) ?_; conv => lhs; whnf)
    | (refine kB_true (decide_eq_true (by omega)) ?_; conv => lhs; whnf)
    | (refine kB_false (decide_eq_false (by omega)) ?_; conv => lhs; whnf)
    | ((with_reducible refine kN_go ?_ ?_); (first | assumption | with_reducible rfl | (refine decide_eq_true ?_; simp only [lenMax, List.length_cons, List.length_nil, List.length_append, List.length_map]; omega) | rotate_left); conv => lhs; whnf)
    | ((with_reducible refine kW_go ?_ ?_); rotate_left; conv => lhs; whnf)
    | (refine kB_dec (fun _ => ?_) (fun _ => ?_) <;> (conv => lhs; whnf))
    | (refine kB_elim (fun _ => ?_) (fun _ => ?_) <;> (conv => lhs; whnf)))
  simp
theorem r08_Step_l (q : List It) (hq : q.length ≤ 4000) (hok : ∀ x ∈ q, x.Ok) : ∀ (post pre : List It) (s : St) (g1 g2 : Gr) (ys zs : List AV) (i : Int),
    keep [0, 4, 5, 6] [] s = some ⟨[(0, .lst .no (q.map It.av)), (4, .lst g1 ys), (5, .lst g2 zs), (6, .int .i64 i)], []⟩ →
    q = pre ++ post → i = pre.length → mayApp 3 g1 ys = true → mayApp 3 g2 zs = true → ys.length ≤ pre.length → zs.length ≤ pre.length →
    LM.loop ([0, 4, 5, 6], [], [4, 5], B_r08_Step_0) s = some (.exit 0, ⟨[(4, .lst (apg g1 3 (comes post)) (ys ++ (comes post).map It.av)), (5, .lst (apg g2 3 (rests post)) (zs ++ (rests post).map It.av))], []⟩) := by
  intro post
  induction post with
  | nil =>
    intro pre s g1 g2 ys zs i hk hpre hi h1 h2 h3 h4
    have hl : q.length = pre.length := by rw [hpre]; simp
    have hl2 : (q.map It.av).length = q.length := by simp
    refine evL M XE hk ?_
    conv => lhs; whnf
    repeat' (first
      | with_reducible rfl
      | (refine kW_go (by omega) ?_; conv => lhs; whnf)
      | (refine kB_true (decide_eq_true (by omega)) ?_; conv => lhs; whnf)
      | (refine kB_false (decide_eq_false (by omega)) ?_; conv => lhs; whnf)
      | ((with_reducible refine kN_go ?_ ?_); (first | assumption | with_reducible rfl | (refine decide_eq_true ?_; simp only [lenMax, List.length_cons, List.length_nil, List.length_append, List.length_map]; omega) | rotate_left); conv => lhs; whnf)
      | ((with_reducible refine kW_go ?_ ?_); rotate_left; conv => lhs; whnf)
      | (refine kB_dec (fun _ => ?_) (fun _ => ?_) <;> (conv => lhs; whnf))
      | (refine kB_elim (fun _ => ?_) (fun _ => ?_) <;> (conv => lhs; whnf)))
    simp [comes, rests]
  | cons x post ih =>
    intro pre s g1 g2 ys zs i hk hpre hi h1 h2 h3 h4
    have hl : q.length = pre.length + post.length + 1 := by rw [hpre]; simp; omega
    have hl2 : (q.map It.av).length = q.length := by simp
    have hg : (q.map It.av)[i.toNat]? = some (It.av x) := by rw [hpre, hi]; simp
    have hx := hok x (by rw [hpre]; simp)
    obtain ⟨hx1, hx2⟩ := hx
    refine evL M XE hk ?_
    conv => lhs; whnf
    repeat' (first
      | with_reducible rfl
      | (refine kO_go (hg) ?_; conv => lhs; whnf)
      | (refine kO_go (r01_Sat_s _ _ (by omega) (by omega)) ?_; conv => lhs; whnf)
      | (refine kW_go (by omega) ?_; conv => lhs; whnf)
      | (refine kB_true (decide_eq_true (by omega)) ?_; conv => lhs; whnf)
      | (refine kB_false (decide_eq_false (by omega)) ?_; conv => lhs; whnf)
      | ((with_reducible refine kN_go ?_ ?_); (first | assumption | with_reducible rfl | (refine decide_eq_true ?_; simp only [lenMax, List.length_cons, List.length_nil, List.length_append, List.length_map]; omega) | rotate_left); conv => lhs; whnf)
      | ((with_reducible refine kW_go ?_ ?_); rotate_left; conv => lhs; whnf)
      | (refine kB_dec (fun _ => ?_) (fun _ => ?_) <;> (conv => lhs; whnf))
      | (refine kB_elim (fun _ => ?_) (fun _ => ?_) <;> (conv => lhs; whnf)))
    · refine (ih (pre ++ [x]) _ _ _ _ _ _ rfl (by simp [hpre]) (by simp [hi]) rfl h2 (by simp; omega) (by simp; omega)).trans ?_
      simp [comes, rests, older, *]
    · refine (ih (pre ++ [x]) _ _ _ _ _ _ rfl (by simp [hpre]) (by simp [hi]) h1 rfl (by simp; omega) (by simp; omega)).trans ?_
      simp [comes, rests, older, *]
theorem r08_Step_s (q : List It) (hq : q.length ≤ 4000) (hok : ∀ x ∈ q, x.Ok) : LM.call n_r08_Step [.lst .no (q.map It.av)] [] = some (.tup [.lst .no ((comes q).map It.av), .lst .no ((rests q).map It.av)], []) := by
  refine ev M XE rfl rfl ?_
  conv => lhs; whnf
  repeat' (first
    | with_reducible rfl
    | (refine kO_go (r08_Step_l q hq hok q [] _ _ _ _ _ _ rfl rfl rfl rfl rfl (by simp) (by simp)) ?_; conv => lhs; whnf)
    | (refine kW_go (by omega) ?_; conv => lhs; whnf)
    | (refine kB_true (decide_eq_true (by omega)) ?_; conv => lhs; whnf)
    | (refine kB_false (decide_eq_false (by omega)) ?_; conv => lhs; whnf)
    | ((with_reducible refine kN_go ?_ ?_); (first | assumption | with_reducible rfl | (refine decide_eq_true ?_; simp only [lenMax, List.length_cons, List.length_nil, List.length_append, List.length_map]; omega) | rotate_left); conv => lhs; whnf)
    | ((with_reducible refine kW_go ?_ ?_); rotate_left; conv => lhs; whnf)
    | (refine kB_dec (fun _ => ?_) (fun _ => ?_) <;> (conv => lhs; whnf))
    | (refine kB_elim (fun _ => ?_) (fun _ => ?_) <;> (conv => lhs; whnf)))
  simp

/-! ### Alike -/
theorem It.eqb (x y : It) : (decide (x.age = y.age) && (decide (x.wait = y.wait) && (decide (x.bytes = y.bytes) && true))) = decide (x = y) := by
  obtain ⟨a, b, c⟩ := x
  obtain ⟨d, e, f⟩ := y
  by_cases h1 : a = d <;> by_cases h2 : b = e <;> by_cases h3 : c = f <;> simp [h1, h2, h3]
theorem It.len (q : List It) : (q.map It.av).length = q.length := by simp
theorem r08_Same_l (a b : List It) (hq : a.length ≤ 4000) (hab : a.length = b.length) : ∀ (pa pb qa qb : List It) (s : St) (i : Int),
    keep [0, 1, 5] [] s = some ⟨[(0, .lst .no (a.map It.av)), (1, .lst .no (b.map It.av)), (5, .int .i64 i)], []⟩ →
    a = qa ++ pa → b = qb ++ pb → qa.length = qb.length → i = qa.length →
    LM.loop ([0, 1, 5], [], [4], B_r08_Same_0) s = some (if pa = pb then (.exit 0, ⟨[(4, .undef)], []⟩) else (.ret, ⟨[(4, .bool false)], []⟩)) := by
  intro pa
  have la := It.len a
  have lb := It.len b
  induction pa with
  | nil =>
    intro pb qa qb s i hk ha hb hl hi
    have h1 : a.length = qa.length := by rw [ha]; simp
    have h2 : b.length = qb.length + pb.length := by rw [hb]; simp
    have : pb = [] := List.eq_nil_of_length_eq_zero (by omega)
    subst this
    refine evL M XE hk ?_
    conv => lhs; whnf
    repeat' (first
      | with_reducible rfl
      | (refine kW_go (by omega) ?_; conv => lhs; whnf)
      | (refine kB_true (decide_eq_true (by omega)) ?_; conv => lhs; whnf)
      | (refine kB_false (decide_eq_false (by omega)) ?_; conv => lhs; whnf)
      | ((with_reducible refine kN_go ?_ ?_); (first | assumption | with_reducible rfl | (refine decide_eq_true ?_; simp only [lenMax, List.length_cons, List.length_nil, List.length_append, List.length_map]; omega) | rotate_left); conv => lhs; whnf)
      | ((with_reducible refine kW_go ?_ ?_); rotate_left; conv => lhs; whnf)
      | (refine kB_dec (fun _ => ?_) (fun _ => ?_) <;> (conv => lhs; whnf))
      | (refine kB_elim (fun _ => ?_) (fun _ => ?_) <;> (conv => lhs; whnf)))
    rfl
  | cons x pa ih =>
    intro pb qa qb s i hk ha hb hl hi
    have h1 : a.length = qa.length + pa.length + 1 := by rw [ha]; simp; omega
    have h2 : b.length = qb.length + pb.length := by rw [hb]; simp
    cases pb with
    | nil => simp at h2; omega
    | cons y pb =>
      have hga : (a.map It.av)[i.toNat]? = some (It.av x) := by rw [ha, hi]; simp
      have hgb : (b.map It.av)[i.toNat]? = some (It.av y) := by rw [hb, hi, hl]; simp
      by_cases hxy : x = y
      · subst hxy
        refine evL M XE hk ?_
        conv => lhs; whnf
        repeat' (first
          | with_reducible rfl
          | (refine kO_go (hga) ?_; conv => lhs; whnf)
          | (refine kO_go (hgb) ?_; conv => lhs; whnf)
          | ((refine kB_false ?_ ?_); (focus (rw [It.eqb]; simp; done)); conv => lhs; whnf)
          | (refine kW_go (by omega) ?_; conv => lhs; whnf)
          | (refine kB_true (decide_eq_true (by omega)) ?_; conv => lhs; whnf)
          | (refine kB_false (decide_eq_false (by omega)) ?_; conv => lhs; whnf)
          | ((with_reducible refine kN_go ?_ ?_); (first | assumption | with_reducible rfl | (refine decide_eq_true ?_; simp only [lenMax, List.length_cons, List.length_nil, List.length_append, List.length_map]; omega) | rotate_left); conv => lhs; whnf)
          | ((with_reducible refine kW_go ?_ ?_); rotate_left; conv => lhs; whnf)
          | (refine kB_dec (fun _ => ?_) (fun _ => ?_) <;> (conv => lhs; whnf))
          | (refine kB_elim (fun _ => ?_) (fun _ => ?_) <;> (conv => lhs; whnf)))
        refine (ih pb (qa ++ [x]) (qb ++ [x]) _ _ rfl (by simp [ha]) (by simp [hb]) (by simp [hl]) (by simp [hi])).trans ?_
        simp
      · refine evL M XE hk ?_
        conv => lhs; whnf
        repeat' (first
          | with_reducible rfl
          | (refine kO_go (hga) ?_; conv => lhs; whnf)
          | (refine kO_go (hgb) ?_; conv => lhs; whnf)
          | ((refine kB_true ?_ ?_); (focus (rw [It.eqb]; simp [hxy]; done)); conv => lhs; whnf)
          | (refine kW_go (by omega) ?_; conv => lhs; whnf)
          | (refine kB_true (decide_eq_true (by omega)) ?_; conv => lhs; whnf)
          | (refine kB_false (decide_eq_false (by omega)) ?_; conv => lhs; whnf)
          | ((with_reducible refine kN_go ?_ ?_); (first | assumption | with_reducible rfl | (refine decide_eq_true ?_; simp only [lenMax, List.length_cons, List.length_nil, List.length_append, List.length_map]; omega) | rotate_left); conv => lhs; whnf)
          | ((with_reducible refine kW_go ?_ ?_); rotate_left; conv => lhs; whnf)
          | (refine kB_dec (fun _ => ?_) (fun _ => ?_) <;> (conv => lhs; whnf))
          | (refine kB_elim (fun _ => ?_) (fun _ => ?_) <;> (conv => lhs; whnf)))
        simp [hxy]
theorem r08_Same_s (a b : List It) (ha : a.length ≤ 4000) : LM.call n_r08_Same [.lst .no (a.map It.av), .lst .no (b.map It.av)] [] = some (.bool (decide (a = b)), []) := by
  have la := It.len a
  have lb := It.len b
  by_cases hl : a.length = b.length
  · by_cases hab : a = b
    · refine ev M XE rfl rfl ?_
      conv => lhs; whnf
      repeat' (first
        | with_reducible rfl
        | (refine kO_go ((r08_Same_l a b ha hl a b [] [] _ _ rfl rfl rfl rfl rfl).trans (by rw [if_pos hab])) ?_; conv => lhs; whnf)
        | (refine kW_go (by omega) ?_; conv => lhs; whnf)
        | (refine kB_true (decide_eq_true (by omega)) ?_; conv => lhs; whnf)
        | (refine kB_false (decide_eq_false (by omega)) ?_; conv => lhs; whnf)
        | ((with_reducible refine kN_go ?_ ?_); (first | assumption | with_reducible rfl | (refine decide_eq_true ?_; simp only [lenMax, List.length_cons, List.length_nil, List.length_append, List.length_map]; omega) | rotate_left); conv => lhs; whnf)
        | ((with_reducible refine kW_go ?_ ?_); rotate_left; conv => lhs; whnf)
        | (refine kB_dec (fun _ => ?_) (fun _ => ?_) <;> (conv => lhs; whnf))
        | (refine kB_elim (fun _ => ?_) (fun _ => ?_) <;> (conv => lhs; whnf)))
      simp [hab]
    · refine ev M XE rfl rfl ?_
      conv => lhs; whnf
      repeat' (first
        | with_reducible rfl
        | (refine kO_go ((r08_Same_l a b ha hl a b [] [] _ _ rfl rfl rfl rfl rfl).trans (by rw [if_neg hab])) ?_; conv => lhs; whnf)
        | (refine kW_go (by omega) ?_; conv => lhs; whnf)
        | (refine kB_true (decide_eq_true (by omega)) ?_; conv => lhs; whnf)
        | (refine kB_false (decide_eq_false (by omega)) ?_; conv => lhs; whnf)
        | ((with_reducible refine kN_go ?_ ?_); (first | assumption | with_reducible rfl | (refine decide_eq_true ?_; simp only [lenMax, List.length_cons, List.length_nil, List.length_append, List.length_map]; omega) | rotate_left); conv => lhs; whnf)
        | ((with_reducible refine kW_go ?_ ?_); rotate_left; conv => lhs; whnf)
        | (refine kB_dec (fun _ => ?_) (fun _ => ?_) <;> (conv => lhs; whnf))
        | (refine kB_elim (fun _ => ?_) (fun _ => ?_) <;> (conv => lhs; whnf)))
      simp [hab]
  · have hab : a ≠ b := fun e => hl (by rw [e])
    refine ev M XE rfl rfl ?_
    conv => lhs; whnf
    repeat' (first
      | with_reducible rfl
      | (refine kW_go (by omega) ?_; conv => lhs; whnf)
      | (refine kB_true (decide_eq_true (by omega)) ?_; conv => lhs; whnf)
      | (refine kB_false (decide_eq_false (by omega)) ?_; conv => lhs; whnf)
      | ((with_reducible refine kN_go ?_ ?_); (first | assumption | with_reducible rfl | (refine decide_eq_true ?_; simp only [lenMax, List.length_cons, List.length_nil, List.length_append, List.length_map]; omega) | rotate_left); conv => lhs; whnf)
      | ((with_reducible refine kW_go ?_ ?_); rotate_left; conv => lhs; whnf)
      | (refine kB_dec (fun _ => ?_) (fun _ => ?_) <;> (conv => lhs; whnf))
      | (refine kB_elim (fun _ => ?_) (fun _ => ?_) <;> (conv => lhs; whnf)))
    simp [hab]

/-! ### Pushed -/
theorem It.oks (q : List It) : okElems 3 true (q.map It.av) = true := by
  simp only [okElems, List.all_eq_true, List.mem_map]
  rintro _ ⟨x, -, rfl⟩
  rfl
theorem It.head (q : List It) : headE 3 (q.map It.av) = true := by cases q <;> rfl
def push (q v : List It) : List It := (q ++ v).drop (q.length + v.length - 8)
theorem queue_Push_s (q v : List It) (hq : q.length ≤ 4000) (hv : v.length ≤ 4000) : LM.call n_queue_Push [.lst .no (q.map It.av), .lst .no (v.map It.av)] [] =
    some (.tup [.lst .no ((push q v).map It.av), .int .i64 (q.length + v.length - 8 : Nat)], []) := by
  have lq := It.len q
  have lv := It.len v
  have oq := It.oks q
  have ov := It.oks v
  have lqv : (([] ++ q.map It.av) ++ v.map It.av).length = q.length + v.length := by simp
  have hh : headE 3 (([] ++ q.map It.av) ++ v.map It.av) = true := by rw [List.nil_append, ← List.map_append]; exact It.head _
  refine ev M XE rfl rfl ?_
  conv => lhs; whnf
  repeat' (first
    | with_reducible rfl
    | (refine kW_go (by omega) ?_; conv => lhs; whnf)
    | (refine kB_true (decide_eq_true (by omega)) ?_; conv => lhs; whnf)
    | (refine kB_false (decide_eq_false (by omega)) ?_; conv => lhs; whnf)
    | ((with_reducible refine kN_go ?_ ?_); (first | assumption | with_reducible rfl | (refine decide_eq_true ?_; simp only [lenMax, List.length_cons, List.length_nil, List.length_append, List.length_map]; omega) | rotate_left); conv => lhs; whnf)
    | ((with_reducible refine kW_go ?_ ?_); rotate_left; conv => lhs; whnf)
    | (refine kB_dec (fun _ => ?_) (fun _ => ?_) <;> (conv => lhs; whnf))
    | (refine kB_elim (fun _ => ?_) (fun _ => ?_) <;> (conv => lhs; whnf)))
  rw [lqv]
  have e1 : (max 0 (((q.length + v.length : Nat) : Int) - 8)).toNat = q.length + v.length - 8 := by omega
  have e2 : max 0 (((q.length + v.length : Nat) : Int) - 8) = ((q.length + v.length - 8 : Nat) : Int) := by omega
  rw [e1, e2]
  simp [push]

def gcp (g : Gr) (n : Nat) : Gr := if n = 0 then g else g.cp
theorem gcp_cp (g : Gr) (n : Nat) : gcp g.cp n = g.cp := by unfold gcp; split <;> cases g <;> rfl
theorem r08_Push_l : ∀ (k : Nat) (l : List It) (ys : List AV) (s : St) (g : Gr) (n : Int), keep [6, 7] [] s = some ⟨[(6, .lst g ys), (7, .int .i64 n)], []⟩ → ys = l.map It.av → l.length - 8 = k → l.length ≤ 10000 → 0 ≤ n → n ≤ 10000 - l.length →
    LM.loop ([6, 7], [], [6, 7], B_r08_Push_0) s = some (.exit 0, ⟨[(6, .lst (gcp g k) ((l.drop k).map It.av)), (7, .int .i64 (n + k))], []⟩) := by
  intro k
  induction k with
  | zero =>
    intro l ys s g n hk hy hl h0 h1 h2
    have lq : ys.length = l.length := by rw [hy]; simp
    refine evL M XE hk ?_
    conv => lhs; whnf
    repeat' (first
      | with_reducible rfl
      | (refine kW_go (by omega) ?_; conv => lhs; whnf)
      | (refine kB_true (decide_eq_true (by omega)) ?_; conv => lhs; whnf)
      | (refine kB_false (decide_eq_false (by omega)) ?_; conv => lhs; whnf)
      | ((with_reducible refine kN_go ?_ ?_); (first | assumption | with_reducible rfl | (refine decide_eq_true ?_; simp only [lenMax, List.length_cons, List.length_nil, List.length_append, List.length_map]; omega) | rotate_left); conv => lhs; whnf)
      | ((with_reducible refine kW_go ?_ ?_); rotate_left; conv => lhs; whnf)
      | (refine kB_dec (fun _ => ?_) (fun _ => ?_) <;> (conv => lhs; whnf))
      | (refine kB_elim (fun _ => ?_) (fun _ => ?_) <;> (conv => lhs; whnf)))
    simp [gcp, hy]
  | succ k ih =>
    intro l ys s g n hk hy hl h0 h1 h2
    have lq : ys.length = l.length := by rw [hy]; simp
    have hh : headE 3 ys = true := by rw [hy]; exact It.head _
    refine evL M XE hk ?_
    conv => lhs; whnf
    repeat' (first
      | with_reducible rfl
      | (refine kW_go (by omega) ?_; conv => lhs; whnf)
      | (refine kB_true (decide_eq_true (by omega)) ?_; conv => lhs; whnf)
      | (refine kB_false (decide_eq_false (by omega)) ?_; conv => lhs; whnf)
      | ((with_reducible refine kN_go ?_ ?_); (first | assumption | with_reducible rfl | (refine decide_eq_true ?_; simp only [lenMax, List.length_cons, List.length_nil, List.length_append, List.length_map]; omega) | rotate_left); conv => lhs; whnf)
      | ((with_reducible refine kW_go ?_ ?_); rotate_left; conv => lhs; whnf)
      | (refine kB_dec (fun _ => ?_) (fun _ => ?_) <;> (conv => lhs; whnf))
      | (refine kB_elim (fun _ => ?_) (fun _ => ?_) <;> (conv => lhs; whnf)))
    refine (ih (l.drop 1) _ _ _ _ rfl ?_ (by simp; omega) (by simp; omega) (by omega) (by simp; omega)).trans ?_
    · simp [hy]
    · simp only [cutG, Gr.cp_cp, gcp_cp]
      simp [gcp, Nat.add_comm 1 k]
      omega
theorem r08_Push_s (q v : List It) (hq : q.length ≤ 4000) (hv : v.length ≤ 4000) : LM.call n_r08_Push [.lst .no (q.map It.av), .lst .no (v.map It.av)] [] =
    some (.tup [.lst .no ((push q v).map It.av), .int .i64 (q.length + v.length - 8 : Nat)], []) := by
  have lq := It.len q
  have lv := It.len v
  have oq := It.oks q
  have ov := It.oks v
  have lqv : ([] ++ q.map It.av).length = q.length := by simp
  refine ev M XE rfl rfl ?_
  conv => lhs; whnf
  repeat' (first
    | with_reducible rfl
    | (refine kO_go (r08_Push_l (q.length + v.length - 8) (q ++ v) _ _ _ _ rfl (by simp) (by simp) (by simp; omega) (by omega) (by simp; omega)) ?_; conv => lhs; whnf)
    | (refine kW_go (by omega) ?_; conv => lhs; whnf)
    | (refine kB_true (decide_eq_true (by omega)) ?_; conv => lhs; whnf)
    | (refine kB_false (decide_eq_false (by omega)) ?_; conv => lhs; whnf)
    | ((with_reducible refine kN_go ?_ ?_); (first | assumption | with_reducible rfl | (refine decide_eq_true ?_; simp only [lenMax, List.length_cons, List.length_nil, List.length_append, List.length_map]; omega) | rotate_left); conv => lhs; whnf)
    | ((with_reducible refine kW_go ?_ ?_); rotate_left; conv => lhs; whnf)
    | (refine kB_dec (fun _ => ?_) (fun _ => ?_) <;> (conv => lhs; whnf))
    | (refine kB_elim (fun _ => ?_) (fun _ => ?_) <;> (conv => lhs; whnf)))
  simp [push]

/-! ### The laws -/
theorem step_oks {q : List It} (h : ∀ x ∈ q, x.Ok) : (∀ x ∈ comes q, x.Ok) ∧ ∀ x ∈ rests q, x.Ok := by
  have old : ∀ x : It, x.Ok → (older x).Ok := by
    rintro x ⟨h1, h2⟩
    refine ⟨?_, ?_⟩
    · simp only [older, sat]; split <;> (try split) <;> constructor <;> omega
    · simp only [older]; split <;> constructor <;> omega
  induction q with
  | nil => exact ⟨by simp [comes], by simp [rests]⟩
  | cons x q ih =>
    obtain ⟨i1, i2⟩ := ih fun y hy => h y (List.mem_cons_of_mem _ hy)
    have hx := old x (h x (by simp))
    simp only [comes, rests]
    split
    · exact ⟨fun y hy => (List.mem_cons.1 hy).elim (fun e => e ▸ hx) (i1 y), i2⟩
    · exact ⟨i1, fun y hy => (List.mem_cons.1 hy).elim (fun e => e ▸ hx) (i2 y)⟩

theorem It.dec {cs : List AV} (h : wfcs [.i .i64, .i .i64, .s] cs) : ∃ x : It, mkE true cs = x.av ∧ x.Ok := by
  obtain ⟨_, _, rfl, h1, h⟩ := wfcs_cons h
  obtain ⟨_, _, rfl, h2, h⟩ := wfcs_cons h
  obtain ⟨_, _, rfl, h3, h⟩ := wfcs_cons h
  obtain rfl := wfcs_nil h
  obtain ⟨a, rfl, a1⟩ := wfc_i64 h1
  obtain ⟨b, rfl, b1⟩ := wfc_i64 h2
  obtain ⟨s, rfl, s1⟩ := wfc_s h3
  exact ⟨⟨a, b, s⟩, rfl, a1, b1⟩
theorem Its.dec {a : AV} (h : wfc (.l [.i .i64, .i .i64, .s] true) a) : ∃ q : List It, a = .lst .no (q.map It.av) ∧ (∀ x ∈ q, x.Ok) ∧ q.length ≤ 9223372036854775807 := wfc_list It.av It.Ok (fun cs => It.dec) h
/-! ### Never too many -/
theorem push_len (q v : List It) : (push q v).length = min (q.length + v.length) 8 := by simp [push]; omega
theorem push_at (q v : List It) (i : Nat) (h1 : 1 ≤ i) (h2 : i ≤ v.length) (h3 : i ≤ (push q v).length) : (push q v)[(push q v).length - i]? = v[v.length - i]? := by
  have hl := push_len q v
  rw [hl] at h3
  unfold push at *
  rw [hl, List.getElem?_drop, List.getElem?_append_right (by omega)]
  congr 1
  omega
/-! ### It comes -/
theorem comes_app (q r : List It) : comes (q ++ r) = comes q ++ comes r := by
  induction q with
  | nil => rfl
  | cons x q ih => simp only [List.cons_append, comes, ih]; split <;> rfl
theorem rests_app (q r : List It) : rests (q ++ r) = rests q ++ rests r := by
  induction q with
  | nil => rfl
  | cons x q ih => simp only [List.cons_append, rests, ih]; split <;> rfl
/-! ### None is lost -/
theorem due_zero (q : List It) : due 0 q = 0 := by
  induction q with
  | nil => rfl
  | cons x q ih => simp only [due, ih]; rw [if_neg (by omega)]
theorem due_succ (j : Int) (hj : 0 ≤ j) (q : List It) : due (1 + j) q = (comes q).length + due j (rests q) := by
  induction q with
  | nil => rfl
  | cons x q ih =>
    simp only [due, comes, rests, ih]
    by_cases h : x.wait ≤ 1
    · rw [if_pos (by omega), if_pos h, if_pos h]; simp; omega
    · rw [if_neg h, if_neg h]
      simp only [due, older, if_neg h]
      have : (if max x.wait 1 ≤ 1 + j then 1 else 0) = if max (x.wait - 1) 1 ≤ j then 1 else 0 := by
        by_cases h2 : x.wait ≤ 1 + j
        · rw [if_pos (by omega), if_pos (by omega)]
        · rw [if_neg (by omega), if_neg (by omega)]
      rw [this]; omega
end Go.Proofs.Ytciagkncanehfaa
