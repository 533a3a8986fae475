/-
  Functions of the program, evaluated: forges2.
-/
import Derived.Test.YtciagkncanehfaaNetplain
set_option linter.unusedVariables false
set_option linter.unusedSimpArgs false
set_option maxRecDepth 100000
namespace Go.Proofs.Ytciagkncanehfaa
open Go.Proofs.PF

theorem forges_same {n : Nat} {f g : Int} {p : Option Nat} (hp : ∀ q, p = some q → g = ((q % n : Nat) : Int) ∧ f = ((q / n : Nat) : Int)) {x y : List (List Fr)} (h : Rf n p x y) :
    ∀ j (h1 : j < x.length) (h2 : j < y.length), (if (j : Int) = g then oth f x[j] = oth f y[j] else x[j] = y[j]) := by
  intro j h1 h2
  obtain ⟨q1, q2⟩ := h.2 j h1 h2
  cases hpp : p with
  | none =>
    have e := q1 (fun q hq => by rw [hpp] at hq; cases hq)
    split
    · rw [e]
    · exact e
  | some q =>
    obtain ⟨e1, e2⟩ := hp q hpp
    split
    · rename_i hj
      rw [e2]
      exact q2 q hpp (by rw [e1] at hj; exact (Int.ofNat.inj hj).symm)
    · rename_i hj
      refine q1 fun q' hq' => ?_
      rw [hpp] at hq'
      obtain rfl := Option.some.inj hq'
      intro e
      exact hj (by rw [e1, e])
theorem forges_out (n : Nat) (hn0 : 0 < n) (f g d : Int) (b : List UInt8) (r : Nt) (hr : r.n = n) (tk : Nat) (htk : tk ≤ 12) (p : Option Nat) (hp : ∀ q, p = some q → g = ((q % n : Nat) : Int) ∧ f = ((q / n : Nat) : Int)) : ∀ (m : Nat) (s : St) (k : Nat) (a1 b1 : Nt),
    keep [2, 3, 4, 7, 8, 9] [103, 104, 107, 108] s = some ⟨[(2, .int .i64 tk), (3, .ptr 103 0), (4, .ptr 104 0), (7, .ptr 107 0), (8, .ptr 108 0), (9, .int .i64 k)],
      [(108, ⟨true, [.int .i64 b1.n, .lst .no (b1.ls.map Lk.av)]⟩), (107, ⟨true, [.int .i64 a1.n, .lst .no (a1.ls.map Lk.av)]⟩), (104, ⟨true, [.int .i64 f, .int .i64 g, .int .i64 d, .str b]⟩), (103, ⟨true, [.int .i64 r.n, .lst .no (r.ls.map Lk.av)]⟩)]⟩ →
    k + m = tk → a1.Ok → b1.Ok → a1.n = n → b1.n = n → Rl p 0 a1.ls b1.ls →
    ∃ hp, LM.loop ([2, 3, 4, 7, 8, 9], [103, 104, 107, 108], [6], B_l32_NetForges_1) s = some (.exit 0, ⟨[(6, .undef)], hp⟩) := by
  intro m
  induction m with
  | zero =>
    intro s k a1 b1 hk hkm ha hb han hbn hl
    refine ⟨[(108, ⟨true, [.int .i64 b1.n, .lst .no (b1.ls.map Lk.av)]⟩), (107, ⟨true, [.int .i64 a1.n, .lst .no (a1.ls.map Lk.av)]⟩), (104, ⟨true, [.int .i64 f, .int .i64 g, .int .i64 d, .str b]⟩), (103, ⟨true, [.int .i64 r.n, .lst .no (r.ls.map Lk.av)]⟩)], ?_⟩
    refine evL M XE hk ?_
    conv => lhs; whnf
    repeat' (first
      | with_reducible rfl
      | (refine kW_go (by omega) ?_; conv => lhs; whnf)
      | (refine kB_true (decide_eq_true (by omega)) ?_; conv => lhs; whnf)
      | (refine kB_false (decide_eq_false (by omega)) ?_; conv => lhs; whnf)
      | ((with_reducible refine kN_go ?_ ?_); (first | assumption | with_reducible rfl | (refine decide_eq_true ?_; simp only [lenMax, List.length_cons, List.length_nil, List.length_append, List.length_map]; omega) | rotate_left); conv => lhs; whnf)
      | ((with_reducible refine kW_go ?_ ?_); rotate_left; conv => lhs; whnf)
      | (refine kB_dec (fun _ => ?_) (fun _ => ?_) <;> (conv => lhs; whnf))
      | (refine kB_elim (fun _ => ?_) (fun _ => ?_) <;> (conv => lhs; whnf)))
    rfl
  | succ m ih =>
    intro s k a1 b1 hk hkm ha hb han hbn hl
    obtain ⟨hpp, hloop⟩ := ih ⟨[(2, .int .i64 tk), (3, .ptr 103 0), (4, .ptr 104 0), (7, .ptr 107 0), (8, .ptr 108 0), (9, .int .i64 ((k : Int) + 1))],
      [(108, ⟨true, [.int .i64 b1.step.n, .lst .no (b1.step.ls.map Lk.av)]⟩), (107, ⟨true, [.int .i64 a1.step.n, .lst .no (a1.step.ls.map Lk.av)]⟩), (104, ⟨true, [.int .i64 f, .int .i64 g, .int .i64 d, .str b]⟩), (103, ⟨true, [.int .i64 r.n, .lst .no (r.ls.map Lk.av)]⟩)]⟩ (k + 1) a1.step b1.step rfl (by omega) (Nt.step_Ok ha) (Nt.step_Ok hb) han hbn (Rl_step hl)
    refine ⟨hpp, ?_⟩
    have hal := a1.come_len
    have hbl := b1.come_len
    have hn13 := ha.n
    have halike := come_alike (by rw [han, hbn]) (by omega) hl
    rw [han] at halike
    have hsame := forges_same hp halike
    have hin := forges_in n (by omega) f g d k tk b r a1 b1 a1.step b1.step hr a1.come b1.come (by omega) (by omega) (Nt.come_few ha) (Nt.come_few hb) hsame n
    have sa := net_Step_s a1 ha
    have sb := net_Step_s b1 hb
    unfold fav at sa sb
    have hxl : (a1.come.map fel).length = n := by simp [hal, han]
    have hyl : (b1.come.map fel).length = n := by simp [hbl, hbn]
    refine evL M XE hk ?_
    conv => lhs; whnf
    repeat' (first
      | with_reducible rfl
      | (refine kO_go (sa) ?_; conv => lhs; whnf)
      | (refine kO_go (sb) ?_; conv => lhs; whnf)
      | (refine kO_go (hin _ 0 (by rfl) (by omega)) ?_; conv => lhs; whnf)
      | (refine kW_go (by omega) ?_; conv => lhs; whnf)
      | (refine kB_true (decide_eq_true (by omega)) ?_; conv => lhs; whnf)
      | (refine kB_false (decide_eq_false (by omega)) ?_; conv => lhs; whnf)
      | ((with_reducible refine kN_go ?_ ?_); (first | assumption | with_reducible rfl | (refine decide_eq_true ?_; simp only [lenMax, List.length_cons, List.length_nil, List.length_append, List.length_map]; omega) | rotate_left); conv => lhs; whnf)
      | ((with_reducible refine kW_go ?_ ?_); rotate_left; conv => lhs; whnf)
      | (refine kB_dec (fun _ => ?_) (fun _ => ?_) <;> (conv => lhs; whnf))
      | (refine kB_elim (fun _ => ?_) (fun _ => ?_) <;> (conv => lhs; whnf)))
    refine Eq.trans ?_ hloop
    exact loop_keep M XE rfl rfl
/-- What was handed in is a net that one can work on. -/
theorem Raw.Ok {t : Raw} (hq : ∀ l ∈ t.ls, (∀ x ∈ l.q, x.Ok) ∧ IN l.lost ∧ l.q.length ≤ 9223372036854775807) (hf : few t.ls 0 < 3000) (h1 : 1 ≤ t.n) (h2 : t.n ≤ 13) (h3 : (t.ls.length : Int) = t.n * t.n) :
    ∃ u : Nt, u.av = t.av ∧ u.Ok ∧ (u.n : Int) = t.n ∧ u.ls = t.ls := by
  refine ⟨⟨t.n.toNat, t.ls⟩, ?_, ⟨by simp only; omega, ?_, fun l hl => ?_⟩, by simp only; omega, rfl⟩
  · simp only [Nt.av, Raw.av]; rw [Int.toNat_of_nonneg (by omega)]
  · simp only
    have : ((t.n.toNat * t.n.toNat : Nat) : Int) = t.n * t.n := by rw [Int.natCast_mul, Int.toNat_of_nonneg (by omega)]
    omega
  · obtain ⟨a1, a2, a3⟩ := hq l hl
    exact ⟨a1, a2, by have := few_mem t.ls 0 (by omega) hf l hl; omega⟩
/-- Something sent: two nets that differ at one link. -/
theorem put_alike (t : Nt) (h : t.Ok) (h0 : 0 < t.n) (f g d : Int) (b : List UInt8) : ∃ p : Option Nat, (∀ q, p = some q → g = ((q % t.n : Nat) : Int) ∧ f = ((q / t.n : Nat) : Int)) ∧ Rl p 0 t.ls (t.put f g d b).ls := by
  by_cases hh : t.has f g
  · obtain ⟨h1, h2, h3, h4⟩ := t.has_at h hh
    obtain ⟨k1, k2, k3, k4⟩ := id hh
    refine ⟨some (f * t.n + g).toNat, fun q hq => ?_, by rw [Nt.put, if_pos hh]; simp, fun k e1 e2 hp => ?_⟩
    · obtain rfl := Option.some.inj hq
      have e : (f * t.n + g).toNat = g.toNat + t.n * f.toNat := by
        have : ((t.n * f.toNat : Nat) : Int) = f * t.n := by rw [Int.natCast_mul, Int.toNat_of_nonneg k1, Int.mul_comm]
        omega
      rw [e, Nat.add_mul_mod_self_left, Nat.add_mul_div_left _ _ h0, Nat.mod_eq_of_lt (by omega), Nat.div_eq_of_lt (by omega)]
      omega
    · have : (t.put f g d b).ls = t.ls.set (f * t.n + g).toNat ((t.ls.getD (f * t.n + g).toNat ⟨[], 0⟩).send b d) := by rw [Nt.put, if_pos hh]
      simp only [this, List.getElem_set]
      rw [if_neg]
      intro e
      exact hp (by rw [e, Nat.zero_add])
  · refine ⟨none, (fun q hq => by cases hq), ?_⟩
    rw [Nt.put, if_neg hh]
    exact ⟨rfl, fun _ _ _ _ => rfl⟩
theorem NetForges_s (t : Raw) (hq : ∀ l ∈ t.ls, (∀ x ∈ l.q, x.Ok) ∧ IN l.lost ∧ l.q.length ≤ 9223372036854775807) (hn : IN t.n) (hl : t.ls.length ≤ 9223372036854775807) (f g d : Int) (b : List UInt8) (tk : Int) :
    LM.call n_l32_NetForges [t.av, .agg [.int .i64 f, .int .i64 g, .int .i64 d, .str b], .int .i64 tk] [] = some (.bool true, []) := by
  have h1 := Lks.len t.ls
  have hfew := r32_Few_s t (fun l hl => (hq l hl).2.2) hl
  have hmul : 1 ≤ t.n → t.n ≤ 13 → 0 ≤ t.n * t.n ∧ t.n * t.n ≤ 169 := fun h1 h2 => ⟨Int.mul_nonneg (by omega) (by omega), Int.mul_le_mul (c := 13) (d := 13) h2 h2 (by omega) (by omega)⟩
  by_cases hall : (t.ls.length ≤ 200 ∧ few t.ls 0 < 3000) ∧ 1 ≤ t.n ∧ t.n ≤ 13 ∧ (t.ls.length : Int) = t.n * t.n ∧ 0 ≤ tk ∧ tk ≤ 12
  · obtain ⟨c1, c2, c3, c4, c5, c6⟩ := hall
    rw [decide_eq_true c1] at hfew
    obtain ⟨u, e1, hu, e2, e3⟩ := Raw.Ok hq c1.2 c2 c3 c4
    obtain ⟨p, hp, hal⟩ := put_alike u hu (by omega) f g d b
    obtain ⟨p1, p2⟩ := u.put_len f g d b
    obtain ⟨hpp, hloop⟩ := forges_out u.n (by omega) f g d b u rfl tk.toNat (by omega) p hp tk.toNat ⟨[(2, .int .i64 tk.toNat), (3, .ptr 103 0), (4, .ptr 104 0), (7, .ptr 107 0), (8, .ptr 108 0), (9, .int .i64 (0 : Nat))],
      [(108, ⟨true, [.int .i64 (u.put f g d b).n, .lst .no ((u.put f g d b).ls.map Lk.av)]⟩), (107, ⟨true, [.int .i64 u.n, .lst .no (u.ls.map Lk.av)]⟩), (104, ⟨true, [.int .i64 f, .int .i64 g, .int .i64 d, .str b]⟩), (103, ⟨true, [.int .i64 u.n, .lst .no (u.ls.map Lk.av)]⟩)]⟩ 0 u (u.put f g d b) rfl (by omega) hu (Nt.put_Ok hu f g d b) rfl p1 hal
    have hsend := net_Send_s u hu f g d b
    rw [Int.toNat_of_nonneg c5] at hloop
    have c7 : (u.ls.length : Int) = u.n * u.n := by rw [e3, e2]; exact c4
    have h13 := hu.n
    have h2 := Lks.len u.ls
    rw [← e1] at hfew ⊢
    have hsq := sq_le h13
    refine ev M XE rfl rfl ?_
    conv => lhs; whnf
    repeat' (first
      | with_reducible rfl
      | (refine kO_go (hfew) ?_; conv => lhs; whnf)
      | (refine kO_go (hsend) ?_; conv => lhs; whnf)
      | (refine kO_go ((loop_keep M XE (by rfl) rfl).trans hloop) ?_; conv => lhs; whnf)
      | (refine kO_go (l32_known_s) ?_; conv => lhs; whnf)
      | (refine kW_go (by omega) ?_; conv => lhs; whnf)
      | (refine kB_true (decide_eq_true (by omega)) ?_; conv => lhs; whnf)
      | (refine kB_false (decide_eq_false (by omega)) ?_; conv => lhs; whnf)
      | ((with_reducible refine kN_go ?_ ?_); (first | assumption | with_reducible rfl | (refine decide_eq_true ?_; simp only [lenMax, List.length_cons, List.length_nil, List.length_append, List.length_map]; omega) | rotate_left); conv => lhs; whnf)
      | ((with_reducible refine kW_go ?_ ?_); rotate_left; conv => lhs; whnf)
      | (refine kB_dec (fun _ => ?_) (fun _ => ?_) <;> (conv => lhs; whnf))
      | (refine kB_elim (fun _ => ?_) (fun _ => ?_) <;> (conv => lhs; whnf)))
    all_goals rfl
  · by_cases c1 : t.ls.length ≤ 200 ∧ few t.ls 0 < 3000
    · rw [decide_eq_true c1] at hfew
      refine ev M XE rfl rfl ?_
      conv => lhs; whnf
      repeat' (first
        | with_reducible rfl
        | (refine kO_go (hfew) ?_; conv => lhs; whnf)
        | (refine kO_go (l32_known_s) ?_; conv => lhs; whnf)
        | (refine kW_go (by omega) ?_; conv => lhs; whnf)
        | (refine kB_true (decide_eq_true (by omega)) ?_; conv => lhs; whnf)
        | (refine kB_false (decide_eq_false (by omega)) ?_; conv => lhs; whnf)
        | ((with_reducible refine kN_go ?_ ?_); (first | assumption | with_reducible rfl | (refine decide_eq_true ?_; simp only [lenMax, List.length_cons, List.length_nil, List.length_append, List.length_map]; omega) | rotate_left); conv => lhs; whnf)
        | ((with_reducible refine kW_go ?_ ?_); rotate_left; conv => lhs; whnf)
        | (refine kB_dec (fun _ => ?_) (fun _ => ?_) <;> (conv => lhs; whnf))
        | (refine kB_elim (fun _ => ?_) (fun _ => ?_) <;> (conv => lhs; whnf)))
      all_goals (first | rfl | (exfalso; apply hall; refine ⟨c1, ?_, ?_, ?_, ?_, ?_⟩ <;> omega))
    · rw [decide_eq_false c1] at hfew
      refine ev M XE rfl rfl ?_
      conv => lhs; whnf
      repeat' (first
        | with_reducible rfl
        | (refine kO_go (hfew) ?_; conv => lhs; whnf)
        | (refine kO_go (l32_known_s) ?_; conv => lhs; whnf)
        | (refine kW_go (by omega) ?_; conv => lhs; whnf)
        | (refine kB_true (decide_eq_true (by omega)) ?_; conv => lhs; whnf)
        | (refine kB_false (decide_eq_false (by omega)) ?_; conv => lhs; whnf)
        | ((with_reducible refine kN_go ?_ ?_); (first | assumption | with_reducible rfl | (refine decide_eq_true ?_; simp only [lenMax, List.length_cons, List.length_nil, List.length_append, List.length_map]; omega) | rotate_left); conv => lhs; whnf)
        | ((with_reducible refine kW_go ?_ ?_); rotate_left; conv => lhs; whnf)
        | (refine kB_dec (fun _ => ?_) (fun _ => ?_) <;> (conv => lhs; whnf))
        | (refine kB_elim (fun _ => ?_) (fun _ => ?_) <;> (conv => lhs; whnf)))
      all_goals rfl
theorem Lks.dec {a : AV} (h : wfc (.l [.l [.i .i64, .i .i64, .s] true, .i .i64] true) a) : ∃ q : List Lk, a = .lst .no (q.map Lk.av) ∧ (∀ x ∈ q, (∀ y ∈ x.q, y.Ok) ∧ IN x.lost ∧ x.q.length ≤ 9223372036854775807) ∧ q.length ≤ 9223372036854775807 :=
  wfc_list Lk.av _ (fun cs h => by
    obtain ⟨l, e, h1, h2, h3⟩ := Lk.dec h
    exact ⟨l, e, h1, h2, h3⟩) h
theorem NetForges_law (l : List AV) (h : ArgsOf [([.i .i64, .l [.l [.i .i64, .i .i64, .s] true, .i .i64] true], true), ([.i .i64, .i .i64, .i .i64, .s], true), ([.i .i64], false)] l) : LM.call n_l32_NetForges l [] = some (.bool true, []) := by
  obtain ⟨_, _, rfl, h1, h⟩ := args_cons h
  obtain ⟨_, _, rfl, h2, h⟩ := args_cons h
  obtain ⟨_, _, rfl, h3, h⟩ := args_cons h
  obtain rfl := args_nil h
  obtain ⟨_, _, rfl, a1, h1⟩ := wfcs_cons h1
  obtain ⟨_, _, rfl, a2, h1⟩ := wfcs_cons h1
  obtain rfl := wfcs_nil h1
  obtain ⟨n, rfl, hn⟩ := wfc_i64 a1
  obtain ⟨ls, rfl, hq, hl⟩ := Lks.dec a2
  obtain ⟨_, _, rfl, b1, h2⟩ := wfcs_cons h2
  obtain ⟨_, _, rfl, b2, h2⟩ := wfcs_cons h2
  obtain ⟨_, _, rfl, b3, h2⟩ := wfcs_cons h2
  obtain ⟨_, _, rfl, b4, h2⟩ := wfcs_cons h2
  obtain rfl := wfcs_nil h2
  obtain ⟨f, rfl, _⟩ := wfc_i64 b1
  obtain ⟨g, rfl, _⟩ := wfc_i64 b2
  obtain ⟨d, rfl, _⟩ := wfc_i64 b3
  obtain ⟨b, rfl, _⟩ := wfc_s b4
  obtain ⟨tk, e3, _⟩ := wfc_i64 (wfcs_one h3)
  rw [e3]
  exact NetForges_s ⟨n, ls⟩ hq hn hl f g d b tk
end Go.Proofs.Ytciagkncanehfaa
