/-
  Functions of the program, evaluated: netlaws.
-/
import Derived.Test.YtciagkncanehfaaNetstep
set_option linter.unusedVariables false
set_option linter.unusedSimpArgs false
set_option maxRecDepth 100000
namespace Go.Proofs.Ytciagkncanehfaa
open Go.Proofs.PF

theorem l32_known_s : LM.call n_l32_known [] [] = some (.bool true, []) := (lim_call M XE).2 ⟨300, by kernel_rfl⟩
/-- A net as it was handed in. -/
structure Raw where
  n : Int
  ls : List Lk
@[reducible] def Raw.av (t : Raw) : AV := .agg [.int .i64 t.n, .lst .no (t.ls.map Lk.av)]
def few : List Lk → Int → Int
  | [], a => a
  | l :: ls, a => if a < 3000 then few ls (a + min (l.q.length : Int) 3000) else a
theorem few_le : ∀ (ls : List Lk) (a : Int), 0 ≤ a → a ≤ few ls a := by
  intro ls
  induction ls with
  | nil => intro a _; exact Int.le_refl _
  | cons l ls ih =>
    intro a ha
    simp only [few]
    split
    · exact Int.le_trans (by omega) (ih _ (by omega))
    · exact Int.le_refl _
theorem few_mem : ∀ (ls : List Lk) (a : Int), 0 ≤ a → few ls a < 3000 → ∀ l ∈ ls, l.q.length ≤ 3000 := by
  intro ls
  induction ls with
  | nil => intro a _ _ l hl; cases hl
  | cons l ls ih =>
    intro a ha h x hx
    simp only [few] at h
    split at h
    · rcases List.mem_cons.1 hx with rfl | hx
      · have := few_le ls (a + min (x.q.length : Int) 3000) (by omega)
        omega
      · exact ih _ (by omega) h x hx
    · omega
theorem r32_Few_l (t : Raw) (hl : t.ls.length ≤ 200) (hq : ∀ l ∈ t.ls, l.q.length ≤ 9223372036854775807) : ∀ (post pre : List Lk) (s : St) (a i : Int),
    keep [1, 3, 4] [101] s = some ⟨[(1, .ptr 101 0), (3, .int .i64 a), (4, .int .i64 i)], [(101, ⟨true, [.int .i64 t.n, .lst .no (t.ls.map Lk.av)]⟩)]⟩ →
    t.ls = pre ++ post → i = pre.length → 0 ≤ a → a ≤ 6000 →
    LM.loop ([1, 3, 4], [101], [3], B_r32_Few_0) s = some (.exit 0, ⟨[(3, .int .i64 (few post a))], [(101, ⟨true, [.int .i64 t.n, .lst .no (t.ls.map Lk.av)]⟩)]⟩) := by
  have h1 := Lks.len t.ls
  intro post
  induction post with
  | nil =>
    intro pre s a i hk hpre hi h0 h6
    have hl : t.ls.length = pre.length := by rw [hpre]; simp
    refine evL M XE hk ?_
    conv => lhs; whnf
    repeat' (first
      | with_reducible rfl
      | (refine kW_go (by omega) ?_; conv => lhs; whnf)
      | (refine kB_true (decide_eq_true (by omega)) ?_; conv => lhs; whnf)
      | (refine kB_false (decide_eq_false (by omega)) ?_; conv => lhs; whnf)
      | ((with_reducible refine kN_go ?_ ?_); (first | assumption | with_reducible rfl | (refine decide_eq_true ?_; simp only [lenMax, List.length_cons, List.length_nil, List.length_append, List.length_map]; omega) | rotate_left); conv => lhs; whnf)
      | ((with_reducible refine kW_go ?_ ?_); rotate_left; conv => lhs; whnf)
      | (refine kB_dec (fun _ => ?_) (fun _ => ?_) <;> (conv => lhs; whnf))
      | (refine kB_elim (fun _ => ?_) (fun _ => ?_) <;> (conv => lhs; whnf)))
    rfl
  | cons l post ih =>
    intro pre s a i hk hpre hi h0 h6
    have hl : t.ls.length = pre.length + post.length + 1 := by rw [hpre]; simp; omega
    have hg : (t.ls.map Lk.av)[i.toNat]? = some l.av := by rw [hpre, hi]; simp
    have hlq := It.len l.q
    have hq1 := hq l (by rw [hpre]; simp)
    by_cases hc : a < 3000
    · refine evL M XE hk ?_
      conv => lhs; whnf
      repeat' (first
        | with_reducible rfl
        | (refine kO_go (hg) ?_; conv => lhs; whnf)
        | (refine kW_go (by omega) ?_; conv => lhs; whnf)
        | (refine kB_true (decide_eq_true (by omega)) ?_; conv => lhs; whnf)
        | (refine kB_false (decide_eq_false (by omega)) ?_; conv => lhs; whnf)
        | ((with_reducible refine kN_go ?_ ?_); (first | assumption | with_reducible rfl | (refine decide_eq_true ?_; simp only [lenMax, List.length_cons, List.length_nil, List.length_append, List.length_map]; omega) | rotate_left); conv => lhs; whnf)
        | ((with_reducible refine kW_go ?_ ?_); rotate_left; conv => lhs; whnf)
        | (refine kB_dec (fun _ => ?_) (fun _ => ?_) <;> (conv => lhs; whnf))
        | (refine kB_elim (fun _ => ?_) (fun _ => ?_) <;> (conv => lhs; whnf)))
      refine (ih (pre ++ [l]) _ _ _ rfl (by simp [hpre]) (by simp [hi]) (by omega) (by omega)).trans ?_
      show some (Ex.exit 0, (⟨[(3, .int .i64 (few post (a + min ((l.q.map It.av).length : Int) 3000)))], _⟩ : St)) = _
      rw [hlq]; simp only [few, if_pos hc]
    · have e : few (l :: post) a = a := by simp only [few, if_neg hc]
      rw [e]
      refine evL M XE hk ?_
      conv => lhs; whnf
      repeat' (first
        | with_reducible rfl
        | (refine kO_go (hg) ?_; conv => lhs; whnf)
        | (refine kW_go (by omega) ?_; conv => lhs; whnf)
        | (refine kB_true (decide_eq_true (by omega)) ?_; conv => lhs; whnf)
        | (refine kB_false (decide_eq_false (by omega)) ?_; conv => lhs; whnf)
        | ((with_reducible refine kN_go ?_ ?_); (first | assumption | with_reducible rfl | (refine decide_eq_true ?_; simp only [lenMax, List.length_cons, List.length_nil, List.length_append, List.length_map]; omega) | rotate_left); conv => lhs; whnf)
        | ((with_reducible refine kW_go ?_ ?_); rotate_left; conv => lhs; whnf)
        | (refine kB_dec (fun _ => ?_) (fun _ => ?_) <;> (conv => lhs; whnf))
        | (refine kB_elim (fun _ => ?_) (fun _ => ?_) <;> (conv => lhs; whnf)))
      rfl
theorem r32_Few_s (t : Raw) (hq : ∀ l ∈ t.ls, l.q.length ≤ 9223372036854775807) (hl : t.ls.length ≤ 9223372036854775807) : LM.call n_r32_Few [t.av] [] = some (.bool (decide (t.ls.length ≤ 200 ∧ few t.ls 0 < 3000)), []) := by
  have h1 := Lks.len t.ls
  by_cases hc : t.ls.length > 200
  · refine ev M XE rfl rfl ?_
    conv => lhs; whnf
    repeat' (first
      | with_reducible rfl
      | (refine kW_go (by omega) ?_; conv => lhs; whnf)
      | (refine kB_true (decide_eq_true (by omega)) ?_; conv => lhs; whnf)
      | (refine kB_false (decide_eq_false (by omega)) ?_; conv => lhs; whnf)
      | ((with_reducible refine kN_go ?_ ?_); (first | assumption | with_reducible rfl | (refine decide_eq_true ?_; simp only [lenMax, List.length_cons, List.length_nil, List.length_append, List.length_map]; omega) | rotate_left); conv => lhs; whnf)
      | ((with_reducible refine kW_go ?_ ?_); rotate_left; conv => lhs; whnf)
      | (refine kB_dec (fun _ => ?_) (fun _ => ?_) <;> (conv => lhs; whnf))
      | (refine kB_elim (fun _ => ?_) (fun _ => ?_) <;> (conv => lhs; whnf)))
    simp; omega
  · refine ev M XE rfl rfl ?_
    conv => lhs; whnf
    repeat' (first
      | with_reducible rfl
      | (refine kO_go (r32_Few_l t (by omega) hq t.ls [] _ 0 0 rfl rfl rfl (by omega) (by omega)) ?_; conv => lhs; whnf)
      | (refine kW_go (by omega) ?_; conv => lhs; whnf)
      | (refine kB_true (decide_eq_true (by omega)) ?_; conv => lhs; whnf)
      | (refine kB_false (decide_eq_false (by omega)) ?_; conv => lhs; whnf)
      | ((with_reducible refine kN_go ?_ ?_); (first | assumption | with_reducible rfl | (refine decide_eq_true ?_; simp only [lenMax, List.length_cons, List.length_nil, List.length_append, List.length_map]; omega) | rotate_left); conv => lhs; whnf)
      | ((with_reducible refine kW_go ?_ ?_); rotate_left; conv => lhs; whnf)
      | (refine kB_dec (fun _ => ?_) (fun _ => ?_) <;> (conv => lhs; whnf))
      | (refine kB_elim (fun _ => ?_) (fun _ => ?_) <;> (conv => lhs; whnf)))
    simp; omega
theorem r32_Frames_l (a : List Fr) (ha : a.length ≤ 9223372036854775807) : ∀ (post pre : List Fr) (s : St) (i : Int),
    keep [0, 1, 5] [] s = some ⟨[(0, .lst .no (a.map Fr.av)), (1, .lst .no (a.map Fr.av)), (5, .int .i64 i)], []⟩ →
    a = pre ++ post → i = pre.length →
    LM.loop ([0, 1, 5], [], [4], B_r32_Frames_0) s = some (.exit 0, ⟨[(4, .undef)], []⟩) := by
  have h1 := Frs.len a
  intro post
  induction post with
  | nil =>
    intro pre s i hk hpre hi
    have hl : a.length = pre.length := by rw [hpre]; simp
    refine evL M XE hk ?_
    conv => lhs; whnf
    repeat' (first
      | with_reducible rfl
      | (refine kW_go (by omega) ?_; conv => lhs; whnf)
      | (refine kB_true (decide_eq_true (by omega)) ?_; conv => lhs; whnf)
      | (refine kB_false (decide_eq_false (by omega)) ?_; conv => lhs; whnf)
      | ((with_reducible refine kN_go ?_ ?_); (first | assumption | with_reducible rfl | (refine decide_eq_true ?_; simp only [lenMax, List.length_cons, List.length_nil, List.length_append, List.length_map]; omega) | rotate_left); conv => lhs; whnf)
      | ((with_reducible refine kW_go ?_ ?_); rotate_left; conv => lhs; whnf)
      | (refine kB_dec (fun _ => ?_) (fun _ => ?_) <;> (conv => lhs; whnf))
      | (refine kB_elim (fun _ => ?_) (fun _ => ?_) <;> (conv => lhs; whnf)))
    rfl
  | cons x post ih =>
    intro pre s i hk hpre hi
    have hl : a.length = pre.length + post.length + 1 := by rw [hpre]; simp; omega
    have hg : (a.map Fr.av)[i.toNat]? = some x.av := by rw [hpre, hi]; simp
    refine evL M XE hk ?_
    conv => lhs; whnf
    repeat' (first
      | with_reducible rfl
      | (refine kO_go (hg) ?_; conv => lhs; whnf)
      | ((refine kB_false ?_ ?_); (focus (simp; done)); conv => lhs; whnf)
      | (refine kW_go (by omega) ?_; conv => lhs; whnf)
      | (refine kB_true (decide_eq_true (by omega)) ?_; conv => lhs; whnf)
      | (refine kB_false (decide_eq_false (by omega)) ?_; conv => lhs; whnf)
      | ((with_reducible refine kN_go ?_ ?_); (first | assumption | with_reducible rfl | (refine decide_eq_true ?_; simp only [lenMax, List.length_cons, List.length_nil, List.length_append, List.length_map]; omega) | rotate_left); conv => lhs; whnf)
      | ((with_reducible refine kW_go ?_ ?_); rotate_left; conv => lhs; whnf)
      | (refine kB_dec (fun _ => ?_) (fun _ => ?_) <;> (conv => lhs; whnf))
      | (refine kB_elim (fun _ => ?_) (fun _ => ?_) <;> (conv => lhs; whnf)))
    exact ih (pre ++ [x]) _ _ rfl (by simp [hpre]) (by simp [hi])
theorem r32_Frames_s (a : List Fr) (ha : a.length ≤ 9223372036854775807) : LM.call n_r32_Frames [.lst .no (a.map Fr.av), .lst .no (a.map Fr.av)] [] = some (.bool true, []) := by
  have h1 := Frs.len a
  refine ev M XE rfl rfl ?_
  conv => lhs; whnf
  repeat' (first
    | with_reducible rfl
    | (refine kO_go (r32_Frames_l a ha a [] _ 0 rfl rfl rfl) ?_; conv => lhs; whnf)
    | (refine kW_go (by omega) ?_; conv => lhs; whnf)
    | (refine kB_true (decide_eq_true (by omega)) ?_; conv => lhs; whnf)
    | (refine kB_false (decide_eq_false (by omega)) ?_; conv => lhs; whnf)
    | ((with_reducible refine kN_go ?_ ?_); (first | assumption | with_reducible rfl | (refine decide_eq_true ?_; simp only [lenMax, List.length_cons, List.length_nil, List.length_append, List.length_map]; omega) | rotate_left); conv => lhs; whnf)
    | ((with_reducible refine kW_go ?_ ?_); rotate_left; conv => lhs; whnf)
    | (refine kB_dec (fun _ => ?_) (fun _ => ?_) <;> (conv => lhs; whnf))
    | (refine kB_elim (fun _ => ?_) (fun _ => ?_) <;> (conv => lhs; whnf)))
  rfl
def oth (f : Int) (l : List Fr) : List Fr := l.filter fun x => !decide (x.frm = f)
theorem l32_others_l (f : Int) (a : List Fr) (ha : a.length ≤ 4000000) : ∀ (post pre : List Fr) (s : St) (i : Int) (g : Gr) (ys : List AV),
    keep [0, 1, 5, 6] [] s = some ⟨[(0, .lst .no (a.map Fr.av)), (1, .int .i64 f), (5, .lst g ys), (6, .int .i64 i)], []⟩ →
    a = pre ++ post → i = pre.length → mayApp 3 g ys = true → ys.length ≤ pre.length →
    LM.loop ([0, 1, 5, 6], [], [5], B_l32_others_0) s = some (.exit 0, ⟨[(5, .lst (apg g 3 (oth f post)) (ys ++ (oth f post).map Fr.av))], []⟩) := by
  have h1 := Frs.len a
  intro post
  induction post with
  | nil =>
    intro pre s i g ys hk hpre hi hg hy
    have hl : a.length = pre.length := by rw [hpre]; simp
    refine evL M XE hk ?_
    conv => lhs; whnf
    repeat' (first
      | with_reducible rfl
      | (refine kW_go (by omega) ?_; conv => lhs; whnf)
      | (refine kB_true (decide_eq_true (by omega)) ?_; conv => lhs; whnf)
      | (refine kB_false (decide_eq_false (by omega)) ?_; conv => lhs; whnf)
      | ((with_reducible refine kN_go ?_ ?_); (first | assumption | with_reducible rfl | (refine decide_eq_true ?_; simp only [lenMax, List.length_cons, List.length_nil, List.length_append, List.length_map]; omega) | rotate_left); conv => lhs; whnf)
      | ((with_reducible refine kW_go ?_ ?_); rotate_left; conv => lhs; whnf)
      | (refine kB_dec (fun _ => ?_) (fun _ => ?_) <;> (conv => lhs; whnf))
      | (refine kB_elim (fun _ => ?_) (fun _ => ?_) <;> (conv => lhs; whnf)))
    simp [oth]
  | cons x post ih =>
    intro pre s i g ys hk hpre hi hmay hy
    have hl : a.length = pre.length + post.length + 1 := by rw [hpre]; simp; omega
    have hg : (a.map Fr.av)[i.toNat]? = some x.av := by rw [hpre, hi]; simp
    by_cases hf : x.frm = f
    · refine evL M XE hk ?_
      conv => lhs; whnf
      repeat' (first
        | with_reducible rfl
        | (refine kO_go (hg) ?_; conv => lhs; whnf)
        | (refine kW_go (by omega) ?_; conv => lhs; whnf)
        | (refine kB_true (decide_eq_true (by omega)) ?_; conv => lhs; whnf)
        | (refine kB_false (decide_eq_false (by omega)) ?_; conv => lhs; whnf)
        | ((with_reducible refine kN_go ?_ ?_); (first | assumption | with_reducible rfl | (refine decide_eq_true ?_; simp only [lenMax, List.length_cons, List.length_nil, List.length_append, List.length_map]; omega) | rotate_left); conv => lhs; whnf)
        | ((with_reducible refine kW_go ?_ ?_); rotate_left; conv => lhs; whnf)
        | (refine kB_dec (fun _ => ?_) (fun _ => ?_) <;> (conv => lhs; whnf))
        | (refine kB_elim (fun _ => ?_) (fun _ => ?_) <;> (conv => lhs; whnf)))
      refine (ih (pre ++ [x]) _ _ _ _ rfl (by simp [hpre]) (by simp [hi]) hmay (by simp; omega)).trans ?_
      simp [oth, hf]
    · refine evL M XE hk ?_
      conv => lhs; whnf
      repeat' (first
        | with_reducible rfl
        | (refine kO_go (hg) ?_; conv => lhs; whnf)
        | (refine kW_go (by omega) ?_; conv => lhs; whnf)
        | (refine kB_true (decide_eq_true (by omega)) ?_; conv => lhs; whnf)
        | (refine kB_false (decide_eq_false (by omega)) ?_; conv => lhs; whnf)
        | ((with_reducible refine kN_go ?_ ?_); (first | assumption | with_reducible rfl | (refine decide_eq_true ?_; simp only [lenMax, List.length_cons, List.length_nil, List.length_append, List.length_map]; omega) | rotate_left); conv => lhs; whnf)
        | ((with_reducible refine kW_go ?_ ?_); rotate_left; conv => lhs; whnf)
        | (refine kB_dec (fun _ => ?_) (fun _ => ?_) <;> (conv => lhs; whnf))
        | (refine kB_elim (fun _ => ?_) (fun _ => ?_) <;> (conv => lhs; whnf)))
      refine (ih (pre ++ [x]) _ _ _ _ rfl (by simp [hpre]) (by simp [hi]) rfl (by simp; omega)).trans ?_
      simp [oth, hf]
theorem l32_others_s (f : Int) (a : List Fr) (ha : a.length ≤ 4000000) : LM.call n_l32_others [.lst .no (a.map Fr.av), .int .i64 f] [] = some (.lst .no ((oth f a).map Fr.av), []) := by
  have h1 := Frs.len a
  refine ev M XE rfl rfl ?_
  conv => lhs; whnf
  repeat' (first
    | with_reducible rfl
    | (refine kO_go (l32_others_l f a ha a [] _ 0 _ _ rfl rfl rfl rfl (by simp)) ?_; conv => lhs; whnf)
    | (refine kW_go (by omega) ?_; conv => lhs; whnf)
    | (refine kB_true (decide_eq_true (by omega)) ?_; conv => lhs; whnf)
    | (refine kB_false (decide_eq_false (by omega)) ?_; conv => lhs; whnf)
    | ((with_reducible refine kN_go ?_ ?_); (first | assumption | with_reducible rfl | (refine decide_eq_true ?_; simp only [lenMax, List.length_cons, List.length_nil, List.length_append, List.length_map]; omega) | rotate_left); conv => lhs; whnf)
    | ((with_reducible refine kW_go ?_ ?_); rotate_left; conv => lhs; whnf)
    | (refine kB_dec (fun _ => ?_) (fun _ => ?_) <;> (conv => lhs; whnf))
    | (refine kB_elim (fun _ => ?_) (fun _ => ?_) <;> (conv => lhs; whnf)))
  all_goals (first | rfl | assumption | omega | (simp [*]; done) | (simp [*]; omega) | (simp_all []; done) | (simp only []; repeat' split; all_goals first | omega | (simp [*]; done) | (simp [*]; omega)))
end Go.Proofs.Ytciagkncanehfaa
