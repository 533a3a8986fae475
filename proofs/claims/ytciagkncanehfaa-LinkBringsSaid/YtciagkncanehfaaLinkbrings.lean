/-
  Functions of the program, evaluated: linkbrings.
-/
import Derived.Test.YtciagkncanehfaaLinklaws
set_option linter.unusedVariables false
set_option linter.unusedSimpArgs false
set_option maxRecDepth 100000
namespace Go.Proofs.Ytciagkncanehfaa
open Go.Proofs.PF

/-! ### What is sent comes -/
abbrev iav (n : Int) : AV := .int .i64 n
theorem iav_len (q : List Int) : (q.map iav).length = q.length := by simp
theorem ints.dec {a : AV} (h : wfc (.l [.i .i64] false) a) : ∃ q : List Int, a = .lst .no (q.map iav) ∧ (∀ x ∈ q, IN x) ∧ q.length ≤ 9223372036854775807 := wfc_list iav IN (fun cs h => by
  obtain ⟨_, _, rfl, h1, h⟩ := wfcs_cons h
  obtain rfl := wfcs_nil h
  obtain ⟨n, rfl, h2⟩ := wfc_i64 h1
  exact ⟨n, rfl, h2⟩) h
def tg (k : Nat) : List UInt8 := [35, UInt8.ofNat k]
theorem tg_inj {j k : Nat} (hj : j < 256) (hk : k < 256) (h : tg j = tg k) : j = k := by
  simp only [tg, List.cons.injEq, and_true, true_and] at h
  have := congrArg UInt8.toNat h
  simpa [UInt8.toNat_ofNat', Nat.mod_eq_of_lt hj, Nat.mod_eq_of_lt hk] using this
theorem l31_tag_s (k : Nat) (h : k < 256) : LM.call n_l31_tag [.int .i64 k] [] = some (.str (tg k), []) := by
  refine ev M XE rfl rfl ?_
  conv => lhs; whnf
  repeat' (first
    | with_reducible rfl
    | (refine kW_go (by omega) ?_; conv => lhs; whnf)
    | (refine kB_true (decide_eq_true (by omega)) ?_; conv => lhs; whnf)
    | (refine kB_false (decide_eq_false (by omega)) ?_; conv => lhs; whnf)
    | ((with_reducible refine kN_go ?_ ?_); (first | assumption | with_reducible rfl | (refine decide_eq_true ?_; simp only [lenMax, List.length_cons, List.length_nil, List.length_append, List.length_map]; omega) | rotate_left); conv => lhs; whnf)
    | ((with_reducible refine kW_go ?_ ?_); rotate_left; conv => lhs; whnf)
    | (refine kB_dec (fun _ => ?_) (fun _ => ?_) <;> (conv => lhs; whnf))
    | (refine kB_elim (fun _ => ?_) (fun _ => ?_) <;> (conv => lhs; whnf)))
  all_goals simp [tg]
def xed (q : List It) : List It := q.map fun x => { x with bytes := [120] }
theorem l31_plain_l (l : Lk) (h : l.q.length ≤ 1000) : ∀ (post pre : List It) (s : St) (g : Gr) (ys : List AV) (i : Int),
    keep [1, 2, 3, 4] [101, 102] s = some ⟨[(1, .ptr 101 0), (2, .ptr 102 0), (3, .lst g ys), (4, .int .i64 i)], [(102, ⟨true, [.lst .full [], .int .i64 0]⟩), (101, ⟨true, [.lst .no (l.q.map It.av), .int .i64 l.lost]⟩)]⟩ →
    l.q = pre ++ post → i = pre.length → mayApp 3 g ys = true → ys.length ≤ pre.length →
    LM.loop ([1, 2, 3, 4], [101, 102], [1, 2, 3], B_l31_plain_0) s = some (.exit 0, ⟨[(1, .ptr 101 0), (2, .ptr 102 0), (3, .lst (apg g 3 post) (ys ++ (xed post).map It.av))], [(102, ⟨true, [.lst .full [], .int .i64 0]⟩), (101, ⟨true, [.lst .no (l.q.map It.av), .int .i64 l.lost]⟩)]⟩) := by
  have hl2 := It.len l.q
  intro post
  induction post with
  | nil =>
    intro pre s g ys i hk hpre hi hg hy
    have hl : l.q.length = pre.length := by rw [hpre]; simp
    refine evL M XE hk ?_
    conv => lhs; whnf
    repeat' (first
      | with_reducible rfl
      | (refine kW_go (by omega) ?_; conv => lhs; whnf)
      | (refine kB_true (decide_eq_true (by omega)) ?_; conv => lhs; whnf)
      | (refine kB_false (decide_eq_false (by omega)) ?_; conv => lhs; whnf)
      | ((with_reducible refine kN_go ?_ ?_); (first | assumption | with_reducible rfl | (refine decide_eq_true ?_; simp only [lenMax, List.length_cons, List.length_nil, List.length_append, List.length_map]; omega) | rotate_left); conv => lhs; whnf)
      | ((with_reducible refine kW_go ?_ ?_); rotate_left; conv => lhs; whnf)
      | (refine kB_dec (fun _ => ?_) (fun _ => ?_) <;> (conv => lhs; whnf))
      | (refine kB_elim (fun _ => ?_) (fun _ => ?_) <;> (conv => lhs; whnf)))
    simp [xed]
  | cons x post ih =>
    intro pre s g ys i hk hpre hi hg hy
    have hl : l.q.length = pre.length + post.length + 1 := by rw [hpre]; simp; omega
    have hgx : (l.q.map It.av)[i.toNat]? = some (It.av x) := by rw [hpre, hi]; simp
    refine evL M XE hk ?_
    conv => lhs; whnf
    repeat' (first
      | with_reducible rfl
      | (refine kO_go (hgx) ?_; conv => lhs; whnf)
      | (refine kW_go (by omega) ?_; conv => lhs; whnf)
      | (refine kB_true (decide_eq_true (by omega)) ?_; conv => lhs; whnf)
      | (refine kB_false (decide_eq_false (by omega)) ?_; conv => lhs; whnf)
      | ((with_reducible refine kN_go ?_ ?_); (first | assumption | with_reducible rfl | (refine decide_eq_true ?_; simp only [lenMax, List.length_cons, List.length_nil, List.length_append, List.length_map]; omega) | rotate_left); conv => lhs; whnf)
      | ((with_reducible refine kW_go ?_ ?_); rotate_left; conv => lhs; whnf)
      | (refine kB_dec (fun _ => ?_) (fun _ => ?_) <;> (conv => lhs; whnf))
      | (refine kB_elim (fun _ => ?_) (fun _ => ?_) <;> (conv => lhs; whnf)))
    refine (ih (pre ++ [x]) _ _ _ _ rfl (by simp [hpre]) (by simp [hi]) rfl (by simp; omega)).trans ?_
    simp [xed]
theorem l31_plain_s (l : Lk) (h : l.q.length ≤ 1000) : LM.call n_l31_plain [l.av] [] = some ((⟨xed l.q, l.lost⟩ : Lk).av, []) := by
  refine ev M XE rfl rfl ?_
  conv => lhs; whnf
  repeat' (first
    | with_reducible rfl
    | (refine kO_go (l31_plain_l l h l.q [] _ _ _ _ rfl rfl rfl rfl (by simp)) ?_; conv => lhs; whnf)
    | (refine kW_go (by omega) ?_; conv => lhs; whnf)
    | (refine kB_true (decide_eq_true (by omega)) ?_; conv => lhs; whnf)
    | (refine kB_false (decide_eq_false (by omega)) ?_; conv => lhs; whnf)
    | ((with_reducible refine kN_go ?_ ?_); (first | assumption | with_reducible rfl | (refine decide_eq_true ?_; simp only [lenMax, List.length_cons, List.length_nil, List.length_append, List.length_map]; omega) | rotate_left); conv => lhs; whnf)
    | ((with_reducible refine kW_go ?_ ?_); rotate_left; conv => lhs; whnf)
    | (refine kB_dec (fun _ => ?_) (fun _ => ?_) <;> (conv => lhs; whnf))
    | (refine kB_elim (fun _ => ?_) (fun _ => ?_) <;> (conv => lhs; whnf)))
  all_goals (first | rfl | assumption | omega | (simp [*]; done) | (simp [*]; omega) | (simp_all []; done) | (simp only []; repeat' split; all_goals first | omega | (simp [*]; done) | (simp [*]; omega)))

def wn (d : Int) : Nat := (max 1 (min d 4)).toNat
theorem wn_in (d : Int) : 1 ≤ wn d ∧ wn d ≤ 4 ∧ (wn d : Int) = max 1 (min d 4) := by simp only [wn]; omega
/-- What was sent at s, ahead of tick t. -/
def itm (ds : List Int) (t s : Nat) : It := ⟨(t : Int) - 1 - s, (wn (ds.getD s 0) : Int) - ((t : Int) - 1 - s), tg s⟩
/-- Sent, and not come yet. -/
structure Sent (ds : List Int) (t : Nat) (ss : List Nat) : Prop where
  lt : ∀ s ∈ ss, s < ds.length ∧ s < t ∧ t ≤ s + wn (ds.getD s 0)
  up : ss.Pairwise (· < ·)
theorem few {a k : Nat} : ∀ {l : List Nat}, l.Pairwise (· < ·) → (∀ s ∈ l, a ≤ s ∧ s < a + k) → l.length ≤ k := by
  induction k generalizing a with
  | zero =>
    intro l _ h
    cases l with
    | nil => simp
    | cons s l => have := h s (by simp); omega
  | succ k ih =>
    intro l hp h
    cases l with
    | nil => simp
    | cons s l =>
      obtain ⟨h1, h2⟩ := List.pairwise_cons.1 hp
      have := @ih (a + 1) l h2 fun x hx => by
        have := h1 x hx
        have := h x (by simp [hx])
        have := h s (by simp)
        omega
      simp; omega
theorem comes_T (ds : List Int) (t : Nat) (ht : t ≤ 70) : ∀ (ss : List Nat), (∀ s ∈ ss, s < t ∧ t ≤ s + wn (ds.getD s 0)) →
    comes (ss.map (itm ds t)) = (ss.filter (fun s => decide (t = s + wn (ds.getD s 0)))).map (fun s => ⟨(t : Int) - s, 0, tg s⟩) ∧
    rests (ss.map (itm ds t)) = (ss.filter (fun s => !decide (t = s + wn (ds.getD s 0)))).map (itm ds (t + 1)) := by
  intro ss
  induction ss with
  | nil => intro _; exact ⟨rfl, rfl⟩
  | cons s ss ih =>
    intro h
    obtain ⟨i1, i2⟩ := ih fun x hx => h x (List.mem_cons_of_mem _ hx)
    obtain ⟨h1, h2⟩ := h s (by simp)
    have hs : sat ((t : Int) - 1 - s) 65535 = (t : Int) - s := by simp only [sat]; rw [if_neg (by omega), if_neg (by omega)]; omega
    simp only [List.map_cons, comes, rests, i1, i2]
    by_cases e : t = s + wn (ds.getD s 0)
    · have hw : (itm ds t s).wait ≤ 1 := by simp only [itm]; omega
      rw [if_pos hw, if_pos hw, List.filter_cons_of_pos (by simpa using e), List.filter_cons_of_neg (by simpa using e)]
      refine ⟨?_, rfl⟩
      rw [List.map_cons]
      congr 1
      show (⟨sat ((t : Int) - 1 - s) 65535, if (itm ds t s).wait ≤ 1 then 0 else (itm ds t s).wait - 1, tg s⟩ : It) = _
      rw [if_pos hw, hs]
    · have hw : ¬ (itm ds t s).wait ≤ 1 := by simp only [itm]; omega
      rw [if_neg hw, if_neg hw, List.filter_cons_of_neg (by simpa using e), List.filter_cons_of_pos (by simpa using e)]
      refine ⟨rfl, ?_⟩
      rw [List.map_cons]
      congr 1
      show (⟨sat ((t : Int) - 1 - s) 65535, if (itm ds t s).wait ≤ 1 then 0 else (itm ds t s).wait - 1, tg s⟩ : It) = _
      rw [if_neg hw, hs]
      simp only [itm, It.mk.injEq, and_true]
      omega

/-- It came just when it had to, or was there at first. -/
def Came (ds : List Int) (t : Nat) (x : It) : Prop := x.bytes = [120] ∨ ∃ k, k < ds.length ∧ k < t ∧ x = ⟨(t : Int) - k, 0, tg k⟩ ∧ t = k + wn (ds.getD k 0)
theorem brings_in (ds : List Int) (hds : ds.length ≤ 60) (t : Nat) (ht : t ≤ 70) (C : List It) (hC : C.length ≤ 1000) (a b c : Lk) : ∀ (post pre : List It) (s : St) (came i : Int),
    keep [1, 5, 6, 7, 8, 10] [102, 105, 109] s = some ⟨[(1, .lst .no (ds.map iav)), (5, .ptr 105 0), (6, .int .i64 came), (7, .int .i64 t), (8, .lst .no (C.map It.av)), (10, .int .i64 i)],
      [(109, ⟨true, [.lst .no (a.q.map It.av), .int .i64 a.lost]⟩), (105, ⟨true, [.lst .no (b.q.map It.av), .int .i64 b.lost]⟩), (102, ⟨true, [.lst .no (c.q.map It.av), .int .i64 c.lost]⟩)]⟩ →
    C = pre ++ post → i = pre.length → 0 ≤ came → came ≤ 1000 + pre.length → (∀ x ∈ post, Came ds t x) →
    LM.loop ([1, 5, 6, 7, 8, 10], [102, 105, 109], [1, 4, 5, 6, 7], B_l31_LinkBrings_0) s = some (.exit 2, ⟨[(1, .lst .no (ds.map iav)), (4, .undef), (5, .ptr 105 0), (6, .int .i64 (came + (post.filter (fun x => !decide (x.bytes = [120]))).length)), (7, .int .i64 t)],
      [(109, ⟨true, [.lst .no (a.q.map It.av), .int .i64 a.lost]⟩), (105, ⟨true, [.lst .no (b.q.map It.av), .int .i64 b.lost]⟩), (102, ⟨true, [.lst .no (c.q.map It.av), .int .i64 c.lost]⟩)]⟩) := by
  have lC := It.len C
  have ld := iav_len ds
  intro post
  induction post with
  | nil =>
    intro pre s came i hk hpre hi h0 h1 hc
    have hl : C.length = pre.length := by rw [hpre]; simp
    refine evL M XE hk ?_
    conv => lhs; whnf
    repeat' (first
      | with_reducible rfl
      | (refine kW_go (by omega) ?_; conv => lhs; whnf)
      | (refine kB_true (decide_eq_true (by omega)) ?_; conv => lhs; whnf)
      | (refine kB_false (decide_eq_false (by omega)) ?_; conv => lhs; whnf)
      | ((with_reducible refine kN_go ?_ ?_); (first | assumption | with_reducible rfl | (refine decide_eq_true ?_; simp only [lenMax, List.length_cons, List.length_nil, List.length_append, List.length_map]; omega) | rotate_left); conv => lhs; whnf)
      | ((with_reducible refine kW_go ?_ ?_); rotate_left; conv => lhs; whnf)
      | (refine kB_dec (fun _ => ?_) (fun _ => ?_) <;> (conv => lhs; whnf))
      | (refine kB_elim (fun _ => ?_) (fun _ => ?_) <;> (conv => lhs; whnf)))
    simp
  | cons x post ih =>
    intro pre s came i hk hpre hi h0 h1 hc
    have hl : C.length = pre.length + post.length + 1 := by rw [hpre]; simp; omega
    have hg : (C.map It.av)[i.toNat]? = some (It.av x) := by rw [hpre, hi]; simp
    have hc' : ∀ y ∈ post, Came ds t y := fun y hy => hc y (List.mem_cons_of_mem _ hy)
    rcases hc x (by simp) with hx | ⟨k, k1, k2, k3, k4⟩
    · refine evL M XE hk ?_
      conv => lhs; whnf
      repeat' (first
        | with_reducible rfl
        | (refine kO_go (hg) ?_; conv => lhs; whnf)
        | ((refine kB_true ?_ ?_); (focus (simp [hx]; done)); conv => lhs; whnf)
        | (refine kW_go (by omega) ?_; conv => lhs; whnf)
        | (refine kB_true (decide_eq_true (by omega)) ?_; conv => lhs; whnf)
        | (refine kB_false (decide_eq_false (by omega)) ?_; conv => lhs; whnf)
        | ((with_reducible refine kN_go ?_ ?_); (first | assumption | with_reducible rfl | (refine decide_eq_true ?_; simp only [lenMax, List.length_cons, List.length_nil, List.length_append, List.length_map]; omega) | rotate_left); conv => lhs; whnf)
        | ((with_reducible refine kW_go ?_ ?_); rotate_left; conv => lhs; whnf)
        | (refine kB_dec (fun _ => ?_) (fun _ => ?_) <;> (conv => lhs; whnf))
        | (refine kB_elim (fun _ => ?_) (fun _ => ?_) <;> (conv => lhs; whnf)))
      refine (ih (pre ++ [x]) _ _ _ rfl (by simp [hpre]) (by simp [hi]) h0 (by simp; omega) hc').trans ?_
      simp [hx]
    · have hage : x.age = (t : Int) - k := by rw [k3]
      have hby : x.bytes = tg k := by rw [k3]
      have hne : tg k ≠ [120] := by simp [tg]
      have hkk : (t : Int) - x.age = k := by omega
      have hd : ds.getD k 0 = ds[k] := by rw [List.getD_eq_getElem?_getD, List.getElem?_eq_getElem k1]; rfl
      have hgd : (ds.map iav)[((t : Int) - x.age).toNat]? = some (iav ds[k]) := by
        rw [hkk, Int.toNat_natCast, List.getElem?_map, List.getElem?_eq_getElem k1]; rfl
      have htg : LM.call n_l31_tag [.int .i64 ((t : Int) - x.age)] [] = some (.str (tg k), []) := by rw [hkk]; exact l31_tag_s k (by omega)
      obtain ⟨w1, w2, w3⟩ := wn_in (ds.getD k 0)
      rw [hd] at w1 w2 w3 k4
      refine evL M XE hk ?_
      conv => lhs; whnf
      repeat' (first
        | with_reducible rfl
        | (refine kO_go (hg) ?_; conv => lhs; whnf)
        | (refine kO_go (htg) ?_; conv => lhs; whnf)
        | (refine kO_go (hgd) ?_; conv => lhs; whnf)
        | ((refine kB_false ?_ ?_); (focus (simp [hby, hne]; done)); conv => lhs; whnf)
        | (refine kW_go (by omega) ?_; conv => lhs; whnf)
        | (refine kB_true (decide_eq_true (by omega)) ?_; conv => lhs; whnf)
        | (refine kB_false (decide_eq_false (by omega)) ?_; conv => lhs; whnf)
        | ((with_reducible refine kN_go ?_ ?_); (first | assumption | with_reducible rfl | (refine decide_eq_true ?_; simp only [lenMax, List.length_cons, List.length_nil, List.length_append, List.length_map]; omega) | rotate_left); conv => lhs; whnf)
        | ((with_reducible refine kW_go ?_ ?_); rotate_left; conv => lhs; whnf)
        | (refine kB_dec (fun _ => ?_) (fun _ => ?_) <;> (conv => lhs; whnf))
        | (refine kB_elim (fun _ => ?_) (fun _ => ?_) <;> (conv => lhs; whnf)))
      refine (ih (pre ++ [x]) _ _ _ rfl (by simp [hpre]) (by simp [hi]) (by omega) (by simp; omega) hc').trans ?_
      simp [hby, hne]
      omega

theorem came_T (ds : List Int) (hds : ds.length ≤ 60) (t : Nat) (xs : List It) (hxs : ∀ x ∈ xs, x.bytes = [120]) (ss : List Nat) (hS : Sent ds t ss) :
    (∀ x ∈ comes xs ++ (ss.filter (fun s => decide (t = s + wn (ds.getD s 0)))).map (fun (s : Nat) => (⟨(t : Int) - (s : Int), 0, tg s⟩ : It)), Came ds t x) ∧
    ((comes xs ++ (ss.filter (fun s => decide (t = s + wn (ds.getD s 0)))).map (fun (s : Nat) => (⟨(t : Int) - (s : Int), 0, tg s⟩ : It))).filter (fun x => !decide (x.bytes = [120]))).length = (ss.filter (fun s => decide (t = s + wn (ds.getD s 0)))).length := by
  have hx : ∀ (l : List It), (∀ x ∈ l, x.bytes = [120]) → (∀ x ∈ comes l, x.bytes = [120]) ∧ ∀ x ∈ rests l, x.bytes = [120] := by
    intro l
    induction l with
    | nil => intro _; exact ⟨by simp [comes], by simp [rests]⟩
    | cons x l ih =>
      intro h
      obtain ⟨i1, i2⟩ := ih fun y hy => h y (List.mem_cons_of_mem _ hy)
      have h0 : (older x).bytes = [120] := h x (by simp)
      simp only [comes, rests]
      split
      · exact ⟨fun y hy => (List.mem_cons.1 hy).elim (fun e => e ▸ h0) (i1 y), i2⟩
      · exact ⟨i1, fun y hy => (List.mem_cons.1 hy).elim (fun e => e ▸ h0) (i2 y)⟩
  refine ⟨fun x h => ?_, ?_⟩
  · rcases List.mem_append.1 h with h | h
    · exact .inl ((hx xs hxs).1 x h)
    · obtain ⟨s, hs, rfl⟩ := List.mem_map.1 h
      obtain ⟨hs1, hs2⟩ := List.mem_filter.1 hs
      obtain ⟨q1, q2, q3⟩ := hS.lt s hs1
      exact .inr ⟨s, q1, q2, rfl, by simpa using hs2⟩
  · rw [List.filter_append, List.length_append]
    have e1 : (comes xs).filter (fun x => !decide (x.bytes = [120])) = [] := by
      rw [List.filter_eq_nil_iff]
      intro x hxm
      simp [(hx xs hxs).1 x hxm]
    have e2 : ∀ l : List Nat, ((l.map (fun (s : Nat) => (⟨(t : Int) - (s : Int), 0, tg s⟩ : It))).filter (fun x => !decide (x.bytes = [120]))).length = l.length := by
      intro l
      induction l with
      | nil => rfl
      | cons s l ih => rw [List.map_cons, List.filter_cons_of_pos (by simp [tg])]; simp [ih]
    rw [e1, e2]; simp
theorem rests_x (l : List It) (h : ∀ x ∈ l, x.bytes = [120]) : ∀ x ∈ rests l, x.bytes = [120] := by
  induction l with
  | nil => simp [rests]
  | cons x l ih =>
    have i2 := ih fun y hy => h y (List.mem_cons_of_mem _ hy)
    have h0 : (older x).bytes = [120] := h x (by simp)
    simp only [rests]
    split
    · exact i2
    · exact fun y hy => (List.mem_cons.1 hy).elim (fun e => e ▸ h0) (i2 y)
theorem filter_parts (p : Nat → Bool) (l : List Nat) : (l.filter p).length + (l.filter (fun x => !p x)).length = l.length := by
  induction l with
  | nil => rfl
  | cons x l ih =>
    cases h : p x
    · rw [List.filter_cons_of_neg (by simp [h]), List.filter_cons_of_pos (by simp [h])]; simp; omega
    · rw [List.filter_cons_of_pos h, List.filter_cons_of_neg (by simp [h])]; simp; omega
/-- A tick later. -/
theorem sent_step {ds : List Int} {t : Nat} {ss : List Nat} (hS : Sent ds t ss) : Sent ds (t + 1) (ss.filter (fun s => !decide (t = s + wn (ds.getD s 0)))) ∧ (ss.filter (fun s => !decide (t = s + wn (ds.getD s 0)))).length ≤ 3 := by
  have h1 : Sent ds (t + 1) (ss.filter (fun s => !decide (t = s + wn (ds.getD s 0)))) := by
    refine ⟨fun s hs => ?_, hS.up.filter _⟩
    obtain ⟨a, b⟩ := List.mem_filter.1 hs
    obtain ⟨q1, q2, q3⟩ := hS.lt s a
    simp only [Bool.not_eq_true', decide_eq_false_iff_not] at b
    refine ⟨q1, by omega, by omega⟩
  refine ⟨h1, few (a := t - 3) h1.up fun s hs => ?_⟩
  obtain ⟨q1, q2, q3⟩ := h1.lt s hs
  obtain ⟨a, b⟩ := List.mem_filter.1 hs
  obtain ⟨p1, p2, p3⟩ := hS.lt s a
  have := (wn_in (ds.getD s 0)).2.1
  omega
theorem sent_more {ds : List Int} {t : Nat} {ss : List Nat} (hS : Sent ds (t + 1) ss) (hlt : ∀ s ∈ ss, s < t) (ht : t < ds.length) : Sent ds (t + 1) (ss ++ [t]) := by
  refine ⟨fun s hs => ?_, ?_⟩
  · rcases List.mem_append.1 hs with h | h
    · exact hS.lt s h
    · simp at h; subst h
      have := (wn_in (ds.getD s 0)).1
      exact ⟨ht, by omega, by omega⟩
  · rw [List.pairwise_append]
    exact ⟨hS.up, by simp, fun a ha b hb => by simp at hb; subst hb; exact hlt a ha⟩

theorem brings_out (ds : List Int) (hds : ds.length ≤ 60) (r : Lk) : ∀ (n : Nat) (l : Lk) (s : St) (t : Nat) (came : Int) (xs : List It) (ss : List Nat),
    keep [1, 5, 6, 7] [102, 105] s = some ⟨[(1, .lst .no (ds.map iav)), (5, .ptr 105 0), (6, .int .i64 came), (7, .int .i64 t)],
      [(105, ⟨true, [.lst .no (l.q.map It.av), .int .i64 l.lost]⟩), (102, ⟨true, [.lst .no (r.q.map It.av), .int .i64 r.lost]⟩)]⟩ →
    n = ds.length + 4 - t → t ≤ ds.length + 4 → l.q = xs ++ ss.map (itm ds t) → (∀ x ∈ xs, x.bytes = [120]) → Sent ds t ss → came + ss.length = (min t ds.length : Nat) → l.Ok → l.q.length ≤ 60 → 0 ≤ came →
    ∃ hp, LM.loop ([1, 5, 6, 7], [102, 105], [1, 4, 6], B_l31_LinkBrings_1) s = some (.exit 0, ⟨[(1, .lst .no (ds.map iav)), (4, .undef), (6, .int .i64 ds.length)], hp⟩) := by
  have ld := iav_len ds
  intro n
  induction n with
  | zero =>
    intro l s t came xs ss hk hn ht hq hxs hS hc hl hl2 h0
    have hss : ss = [] := by
      cases ss with
      | nil => rfl
      | cons s ss =>
        obtain ⟨q1, q2, q3⟩ := hS.lt s (by simp)
        have := (wn_in (ds.getD s 0)).2.1
        omega
    subst hss
    have hce : came = ds.length := by simp at hc; omega
    refine ⟨[(105, ⟨true, [.lst .no (l.q.map It.av), .int .i64 l.lost]⟩), (102, ⟨true, [.lst .no (r.q.map It.av), .int .i64 r.lost]⟩)], ?_⟩
    refine evL M XE hk ?_
    conv => lhs; whnf
    repeat' (first
      | with_reducible rfl
      | (refine kW_go (by omega) ?_; conv => lhs; whnf)
      | (refine kB_true (decide_eq_true (by omega)) ?_; conv => lhs; whnf)
      | (refine kB_false (decide_eq_false (by omega)) ?_; conv => lhs; whnf)
      | ((with_reducible refine kN_go ?_ ?_); (first | assumption | with_reducible rfl | (refine decide_eq_true ?_; simp only [lenMax, List.length_cons, List.length_nil, List.length_append, List.length_map]; omega) | rotate_left); conv => lhs; whnf)
      | ((with_reducible refine kW_go ?_ ?_); rotate_left; conv => lhs; whnf)
      | (refine kB_dec (fun _ => ?_) (fun _ => ?_) <;> (conv => lhs; whnf))
      | (refine kB_elim (fun _ => ?_) (fun _ => ?_) <;> (conv => lhs; whnf)))
    rw [hce]
    rfl
  | succ n ih =>
    intro l s t came xs ss hk hn ht hq hxs hS hc hl hl2 h0
    have hT := comes_T ds t (by omega) ss fun s hs => (hS.lt s hs).2
    have hcm : comes l.q = comes xs ++ (ss.filter (fun s => decide (t = s + wn (ds.getD s 0)))).map (fun (s : Nat) => (⟨(t : Int) - (s : Int), 0, tg s⟩ : It)) := by rw [hq, comes_app, hT.1]
    have hrs : rests l.q = rests xs ++ (ss.filter (fun s => !decide (t = s + wn (ds.getD s 0)))).map (itm ds (t + 1)) := by rw [hq, rests_app, hT.2]
    have hcr := comes_rests l.q
    obtain ⟨hS2, hS3⟩ := sent_step hS
    have hct := came_T ds hds t xs hxs ss hS
    rw [← hcm] at hct
    have hfp := filter_parts (fun s => decide (t = s + wn (ds.getD s 0))) ss
    have hstep : l.step.Ok := ⟨(step_oks hl.q).2, hl.lost, by simp only [Lk.step]; omega⟩
    have hlt : ∀ s ∈ ss.filter (fun s => !decide (t = s + wn (ds.getD s 0))), s < t := fun s hs => (hS.lt s (List.mem_filter.1 hs).1).2.1
    have hcl : (comes l.q).length ≤ 60 := by omega
    have hrl : (rests l.q).length ≤ 60 := by omega
    generalize hrest : ss.filter (fun s => !decide (t = s + wn (ds.getD s 0))) = rest at *
    have hin := brings_in ds hds t (by omega) (comes l.q) (by omega) l.step l.step r (comes l.q) []
    by_cases hlast : t < ds.length
    · have hd : ds.getD t 0 = ds[t] := by rw [List.getD_eq_getElem?_getD, List.getElem?_eq_getElem hlast]; rfl
      have hgd : (ds.map iav)[((t : Int)).toNat]? = some (iav ds[t]) := by rw [Int.toNat_natCast, List.getElem?_map, List.getElem?_eq_getElem hlast]; rfl
      obtain ⟨w1, w2, w3⟩ := wn_in ds[t]
      have hsend := link_Send_s l.step hstep (tg t) (max 1 (min ds[t] 4))
      have hcw : clamp (max 1 (min ds[t] 4)) 1 8 = max 1 (min ds[t] 4) := by unfold clamp; rw [if_neg (by omega), if_neg (by omega)]
      have he : l.step.send (tg t) (max 1 (min ds[t] 4)) = l.step.push ⟨0, max 1 (min ds[t] 4), tg t⟩ := by simp [Lk.send, tg, hcw]
      rw [he] at hsend
      have hpl := push_len (rests l.q) [⟨0, max 1 (min ds[t] 4), tg t⟩]
      have hpq : (l.step.push ⟨0, max 1 (min ds[t] 4), tg t⟩).q = (rests xs).drop ((rests l.q).length + 1 - 8) ++ (rest ++ [t]).map (itm ds (t + 1)) := by
        show push (rests l.q) [⟨0, max 1 (min ds[t] 4), tg t⟩] = _
        simp only [push, List.length_cons, List.length_nil]
        have hk8 : (rests l.q).length + 1 - 8 ≤ (rests xs).length := by rw [hrs]; simp; omega
        rw [List.map_append, hrs, List.append_assoc, List.drop_append_of_le_length (by rw [← hrs]; exact hk8), ← hrs]
        congr 2
        simp only [List.map_cons, List.map_nil, itm, hd]
        congr 2
        · omega
        · omega
      have hpok : (l.step.push ⟨0, max 1 (min ds[t] 4), tg t⟩).Ok := by
        have hc2 : 0 ≤ clamp l.lost 0 65535 ∧ clamp l.lost 0 65535 ≤ 65535 := cl_in l.lost
        refine ⟨fun x hx => ?_, ?_, ?_⟩
        · have : x ∈ rests l.q ++ [⟨0, max 1 (min ds[t] 4), tg t⟩] := List.mem_of_mem_drop hx
          rcases List.mem_append.1 this with h | h
          · exact hstep.q x h
          · simp at h; subst h; exact ⟨by constructor <;> simp, by constructor <;> simp <;> omega⟩
        · show IN (min (clamp l.lost 0 65535 + (((rests l.q).length + 1 - 8 : Nat) : Int)) 65535)
          constructor <;> omega
        · show (push (rests l.q) [⟨0, max 1 (min ds[t] 4), tg t⟩]).length ≤ 1000
          rw [hpl]; omega
      generalize hy : l.step.push ⟨0, max 1 (min ds[t] 4), tg t⟩ = y at *
      obtain ⟨hp, hloop⟩ := ih y ⟨[(1, .lst .no (ds.map iav)), (5, .ptr 105 0), (6, .int .i64 (came + ((comes l.q).filter (fun x => !decide (x.bytes = [120]))).length)), (7, .int .i64 ((t : Int) + 1))],
        [(105, ⟨true, [.lst .no (y.q.map It.av), .int .i64 y.lost]⟩), (102, ⟨true, [.lst .no (r.q.map It.av), .int .i64 r.lost]⟩)]⟩ (t + 1) _ ((rests xs).drop ((rests l.q).length + 1 - 8)) (rest ++ [t]) rfl (by omega) (by omega) hpq
        (fun x hx => rests_x xs hxs x (List.mem_of_mem_drop hx)) (sent_more hS2 hlt hlast) (by rw [hct.2, List.length_append, List.length_singleton]; omega) hpok (by rw [← hy]; show (push (rests l.q) [⟨0, max 1 (min ds[t] 4), tg t⟩]).length ≤ 60; rw [hpl]; omega) (by omega)
      refine ⟨hp, ?_⟩
      have htag := l31_tag_s t (by omega)
      refine evL M XE hk ?_
      conv => lhs; whnf
      repeat' (first
        | with_reducible rfl
        | (refine kO_go (link_Step_s l hl) ?_; conv => lhs; whnf)
        | (refine kO_go (hin _ _ _ (by rfl) rfl rfl h0 (by simp; omega) hct.1) ?_; conv => lhs; whnf)
        | (refine kO_go (htag) ?_; conv => lhs; whnf)
        | (refine kO_go (hgd) ?_; conv => lhs; whnf)
        | (refine kO_go (hsend) ?_; conv => lhs; whnf)
        | (refine kW_go (by omega) ?_; conv => lhs; whnf)
        | (refine kB_true (decide_eq_true (by omega)) ?_; conv => lhs; whnf)
        | (refine kB_false (decide_eq_false (by omega)) ?_; conv => lhs; whnf)
        | ((with_reducible refine kN_go ?_ ?_); (first | assumption | with_reducible rfl | (refine decide_eq_true ?_; simp only [lenMax, List.length_cons, List.length_nil, List.length_append, List.length_map]; omega) | rotate_left); conv => lhs; whnf)
        | ((with_reducible refine kW_go ?_ ?_); rotate_left; conv => lhs; whnf)
        | (refine kB_dec (fun _ => ?_) (fun _ => ?_) <;> (conv => lhs; whnf))
        | (refine kB_elim (fun _ => ?_) (fun _ => ?_) <;> (conv => lhs; whnf)))
      refine Eq.trans ?_ hloop
      exact loop_keep M XE rfl rfl
    · obtain ⟨hp, hloop⟩ := ih l.step ⟨[(1, .lst .no (ds.map iav)), (5, .ptr 105 0), (6, .int .i64 (came + ((comes l.q).filter (fun x => !decide (x.bytes = [120]))).length)), (7, .int .i64 ((t : Int) + 1))],
        [(105, ⟨true, [.lst .no (l.step.q.map It.av), .int .i64 l.step.lost]⟩), (102, ⟨true, [.lst .no (r.q.map It.av), .int .i64 r.lost]⟩)]⟩ (t + 1) _ (rests xs) rest rfl (by omega) (by omega) hrs
        (rests_x xs hxs) hS2 (by rw [hct.2]; omega) hstep hrl (by omega)
      refine ⟨hp, ?_⟩
      refine evL M XE hk ?_
      conv => lhs; whnf
      repeat' (first
        | with_reducible rfl
        | (refine kO_go (link_Step_s l hl) ?_; conv => lhs; whnf)
        | (refine kO_go (hin _ _ _ (by rfl) rfl rfl h0 (by simp; omega) hct.1) ?_; conv => lhs; whnf)
        | (refine kW_go (by omega) ?_; conv => lhs; whnf)
        | (refine kB_true (decide_eq_true (by omega)) ?_; conv => lhs; whnf)
        | (refine kB_false (decide_eq_false (by omega)) ?_; conv => lhs; whnf)
        | ((with_reducible refine kN_go ?_ ?_); (first | assumption | with_reducible rfl | (refine decide_eq_true ?_; simp only [lenMax, List.length_cons, List.length_nil, List.length_append, List.length_map]; omega) | rotate_left); conv => lhs; whnf)
        | ((with_reducible refine kW_go ?_ ?_); rotate_left; conv => lhs; whnf)
        | (refine kB_dec (fun _ => ?_) (fun _ => ?_) <;> (conv => lhs; whnf))
        | (refine kB_elim (fun _ => ?_) (fun _ => ?_) <;> (conv => lhs; whnf)))
      refine Eq.trans ?_ hloop
      exact loop_keep M XE rfl rfl
theorem LinkBrings_s (l : Lk) (hq : ∀ x ∈ l.q, x.Ok) (hl : IN l.lost) (hlen : l.q.length ≤ 9223372036854775807) (ds : List Int) (hd : ds.length ≤ 9223372036854775807) :
    LM.call n_l31_LinkBrings [l.av, .lst .no (ds.map iav)] [] = some (.bool true, []) := by
  have lq := It.len l.q
  have ld := iav_len ds
  by_cases hc : l.q.length > 60
  · refine ev M XE rfl rfl ?_
    conv => lhs; whnf
    repeat' (first
      | with_reducible rfl
      | (refine kO_go (l31_known_s) ?_; conv => lhs; whnf)
      | (refine kW_go (by omega) ?_; conv => lhs; whnf)
      | (refine kB_true (decide_eq_true (by omega)) ?_; conv => lhs; whnf)
      | (refine kB_false (decide_eq_false (by omega)) ?_; conv => lhs; whnf)
      | ((with_reducible refine kN_go ?_ ?_); (first | assumption | with_reducible rfl | (refine decide_eq_true ?_; simp only [lenMax, List.length_cons, List.length_nil, List.length_append, List.length_map]; omega) | rotate_left); conv => lhs; whnf)
      | ((with_reducible refine kW_go ?_ ?_); rotate_left; conv => lhs; whnf)
      | (refine kB_dec (fun _ => ?_) (fun _ => ?_) <;> (conv => lhs; whnf))
      | (refine kB_elim (fun _ => ?_) (fun _ => ?_) <;> (conv => lhs; whnf)))
    all_goals (first | rfl | assumption | omega | (simp [*]; done) | (simp [*]; omega) | (simp_all []; done) | (simp only []; repeat' split; all_goals first | omega | (simp [*]; done) | (simp [*]; omega)))
  · by_cases hc2 : ds.length > 60
    · refine ev M XE rfl rfl ?_
      conv => lhs; whnf
      repeat' (first
        | with_reducible rfl
        | (refine kO_go (l31_known_s) ?_; conv => lhs; whnf)
        | (refine kW_go (by omega) ?_; conv => lhs; whnf)
        | (refine kB_true (decide_eq_true (by omega)) ?_; conv => lhs; whnf)
        | (refine kB_false (decide_eq_false (by omega)) ?_; conv => lhs; whnf)
        | ((with_reducible refine kN_go ?_ ?_); (first | assumption | with_reducible rfl | (refine decide_eq_true ?_; simp only [lenMax, List.length_cons, List.length_nil, List.length_append, List.length_map]; omega) | rotate_left); conv => lhs; whnf)
        | ((with_reducible refine kW_go ?_ ?_); rotate_left; conv => lhs; whnf)
        | (refine kB_dec (fun _ => ?_) (fun _ => ?_) <;> (conv => lhs; whnf))
        | (refine kB_elim (fun _ => ?_) (fun _ => ?_) <;> (conv => lhs; whnf)))
      all_goals (first | rfl | assumption | omega | (simp [*]; done) | (simp [*]; omega) | (simp_all []; done) | (simp only []; repeat' split; all_goals first | omega | (simp [*]; done) | (simp [*]; omega)))
    · have h : l.Ok := ⟨hq, hl, by omega⟩
      have hxl : (xed l.q).length = l.q.length := by simp [xed]
      have hxo : (⟨xed l.q, l.lost⟩ : Lk).Ok := ⟨by
        intro x hx
        obtain ⟨y, hy, rfl⟩ := List.mem_map.1 hx
        exact ⟨(hq y hy).1, (hq y hy).2⟩, hl, by show (xed l.q).length ≤ 1000; omega⟩
      obtain ⟨hp, hloop⟩ := brings_out ds (by omega) l (ds.length + 4) ⟨xed l.q, l.lost⟩ ⟨[(1, .lst .no (ds.map iav)), (5, .ptr 105 0), (6, .int .i64 0), (7, .int .i64 0)],
        [(105, ⟨true, [.lst .no ((xed l.q).map It.av), .int .i64 l.lost]⟩), (102, ⟨true, [.lst .no (l.q.map It.av), .int .i64 l.lost]⟩)]⟩ 0 0 (xed l.q) [] rfl (by omega) (by omega) (by simp)
        (by intro x hx; obtain ⟨y, hy, rfl⟩ := List.mem_map.1 hx; rfl) ⟨by simp, by simp⟩ (by simp) hxo (by show (xed l.q).length ≤ 60; omega) (by omega)
      have hpl := l31_plain_s l (by omega)
      refine ev M XE rfl rfl ?_
      conv => lhs; whnf
      repeat' (first
        | with_reducible rfl
        | (refine kO_go (hpl) ?_; conv => lhs; whnf)
        | (refine kO_go ((loop_keep M XE (by rfl) rfl).trans hloop) ?_; conv => lhs; whnf)
        | (refine kO_go (l31_known_s) ?_; conv => lhs; whnf)
        | (refine kW_go (by omega) ?_; conv => lhs; whnf)
        | (refine kB_true (decide_eq_true (by omega)) ?_; conv => lhs; whnf)
        | (refine kB_false (decide_eq_false (by omega)) ?_; conv => lhs; whnf)
        | ((with_reducible refine kN_go ?_ ?_); (first | assumption | with_reducible rfl | (refine decide_eq_true ?_; simp only [lenMax, List.length_cons, List.length_nil, List.length_append, List.length_map]; omega) | rotate_left); conv => lhs; whnf)
        | ((with_reducible refine kW_go ?_ ?_); rotate_left; conv => lhs; whnf)
        | (refine kB_dec (fun _ => ?_) (fun _ => ?_) <;> (conv => lhs; whnf))
        | (refine kB_elim (fun _ => ?_) (fun _ => ?_) <;> (conv => lhs; whnf)))
      all_goals (first | rfl | assumption | omega | (simp [*]; done) | (simp [*]; omega) | (simp_all []; done) | (simp only []; repeat' split; all_goals first | omega | (simp [*]; done) | (simp [*]; omega)))
theorem LinkBrings_law (l : List AV) (h : ArgsOf [([.l [.i .i64, .i .i64, .s] true, .i .i64], true), ([.l [.i .i64] false], false)] l) : LM.call n_l31_LinkBrings l [] = some (.bool true, []) := by
  obtain ⟨_, _, rfl, h1, h⟩ := args_cons h
  obtain ⟨_, _, rfl, h2, h⟩ := args_cons h
  obtain rfl := args_nil h
  obtain ⟨l, e1, l1, l2, l3⟩ := Lk.dec h1
  obtain ⟨ds, e2, _, d1⟩ := ints.dec (wfcs_one h2)
  rw [e1, e2]
  exact LinkBrings_s l l1 l2 l3 ds d1
end Go.Proofs.Ytciagkncanehfaa
