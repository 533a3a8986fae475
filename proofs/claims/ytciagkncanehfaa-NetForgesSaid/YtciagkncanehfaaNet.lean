/-
  Functions of the program, evaluated: net.
-/
import Derived.Test.YtciagkncanehfaaArr
set_option linter.unusedVariables false
set_option linter.unusedSimpArgs false
set_option maxRecDepth 100000
namespace Go.Proofs.Ytciagkncanehfaa
open Go.Proofs.PF

/-! ### Nets -/
structure Nt where
  n : Nat
  ls : List Lk
@[reducible] def Nt.av (t : Nt) : AV := .agg [.int .i64 t.n, .lst .no (t.ls.map Lk.av)]
structure Nt.Ok (t : Nt) : Prop where
  n : t.n ≤ 13
  len : t.ls.length = t.n * t.n
  ok : ∀ l ∈ t.ls, l.Ok
def lcs (ls : List Lk) : List AV := ls.flatMap fun l => [.lst .no (l.q.map It.av), .int .i64 l.lost]
def zcs (n : Nat) : List AV := (List.replicate n [AV.lst .full [], AV.int .i64 0]).flatten
theorem lcs_len (ls : List Lk) : (lcs ls).length = 2 * ls.length := by
  induction ls with
  | nil => rfl
  | cons l ls ih => simp only [lcs, List.flatMap_cons, List.length_append, List.length_cons, List.length_nil] at ih ⊢; omega
theorem lcs_snoc (ls : List Lk) (l : Lk) : lcs (ls ++ [l]) = lcs ls ++ [.lst .no (l.q.map It.av), .int .i64 l.lost] := by simp [lcs]
theorem lcs_flat (ls : List Lk) : Flat (lcs ls) := by
  intro c hc
  obtain ⟨l, -, hc⟩ := List.mem_flatMap.1 hc
  rcases List.mem_cons.1 hc with rfl | hc
  · rfl
  · rw [List.mem_singleton.1 hc]; rfl
theorem zcs_flat (n : Nat) : Flat (zcs n) := by
  intro c hc
  obtain ⟨l, hl, hc⟩ := List.mem_flatten.1 hc
  rw [(List.mem_replicate.1 hl).2] at hc
  rcases List.mem_cons.1 hc with rfl | hc
  · rfl
  · rw [List.mem_singleton.1 hc]; rfl
theorem zcs_succ (n : Nat) : zcs (n + 1) = .lst .full [] :: .int .i64 0 :: zcs n := by simp [zcs, List.replicate_succ]
theorem Lks.len (ls : List Lk) : (ls.map Lk.av).length = ls.length := by simp
theorem sq_le {n : Nat} (h : n ≤ 13) : n * n ≤ 169 := Nat.mul_le_mul h h
theorem Nt.Ok.few {t : Nt} (h : t.Ok) : t.ls.length ≤ 169 := by rw [h.len]; exact sq_le h.n
theorem net_sound_s (t : Nt) (h : t.Ok) : LM.call n_net_sound [t.av] [] = some (.bool true, []) := by
  have h1 := Lks.len t.ls
  have h2 := h.len
  have h3 := h.n
  have h4 := sq_le h3
  have h5 : (t.ls.length : Int) = t.n * t.n := by rw [h2]; simp
  refine ev M XE rfl rfl ?_
  conv => lhs; whnf
  repeat' (first
    | with_reducible rfl
    | (refine kW_go (by omega) ?_; conv => lhs; whnf)
    | (refine kB_true (decide_eq_true (by omega)) ?_; conv => lhs; whnf)
    | (refine kB_false (decide_eq_false (by omega)) ?_; conv => lhs; whnf)
    | ((with_reducible refine kN_go ?_ ?_); (first | assumption | with_reducible rfl | (refine decide_eq_true ?_; simp only [lenMax, List.length_cons, List.length_nil, List.length_append, List.length_map]; omega) | rotate_left); conv => lhs; whnf)
    | ((with_reducible refine kW_go ?_ ?_); rotate_left; conv => lhs; whnf)
    | (refine kB_dec (fun _ => ?_) (fun _ => ?_) <;> (conv => lhs; whnf))
    | (refine kB_elim (fun _ => ?_) (fun _ => ?_) <;> (conv => lhs; whnf)))
  all_goals (first | rfl | assumption | omega | (simp [*]; done) | (simp [*]; omega) | (simp_all []; done) | (simp only []; repeat' split; all_goals first | omega | (simp [*]; done) | (simp [*]; omega)))
theorem net_open_l (t : Nt) (h : t.Ok) (m : Nat) (hm : m = t.ls.length) : ∀ (post pre : List Lk) (s : St) (i mi : Int) (z : List AV),
    keep [2, 3, 20, 21, 22] [101, 102, 103, 117] s = some ⟨[(2, .ptr 102 0), (3, .ptr 103 0), (20, .lst .no (t.ls.map Lk.av)), (21, .int .i64 mi), (22, .int .i64 i)],
      [(103, ⟨true, [.int .i64 t.n, .arr 117 0 m 2 true]⟩), (117, ⟨true, lcs pre ++ z⟩), (102, ⟨true, [.int .i64 0, .lst .full []]⟩), (101, ⟨true, [.int .i64 t.n, .lst .no (t.ls.map Lk.av)]⟩)]⟩ →
    mi = m → z = zcs post.length → t.ls = pre ++ post → i = pre.length →
    LM.loop ([2, 3, 20, 21, 22], [101, 102, 103, 117], [2, 3], B_net_open_0) s = some (.exit 0, ⟨[(2, .ptr 102 0), (3, .ptr 103 0)],
      [(103, ⟨true, [.int .i64 t.n, .arr 117 0 m 2 true]⟩), (117, ⟨true, lcs t.ls⟩), (102, ⟨true, [.int .i64 0, .lst .full []]⟩), (101, ⟨true, [.int .i64 t.n, .lst .no (t.ls.map Lk.av)]⟩)]⟩) := by
  have h1 := Lks.len t.ls
  have h2 := h.few
  intro post
  induction post with
  | nil =>
    intro pre s i mi z hk hmi hz hpre hi
    have hl : t.ls.length = pre.length := by rw [hpre]; simp
    subst hz
    refine evL M XE hk ?_
    conv => lhs; whnf
    repeat' (first
      | with_reducible rfl
      | ((with_reducible refine kO_go (keep_eq rfl rfl ?_ ?_) ?_); (focus (rfl)); (focus (repeat' (first | exact okH_nil _ | (refine okH_flat ?_ ?_; focus (exact (lcs_flat _).app (zcs_flat _); done)) | refine okH_cons rfl ?_))); conv => lhs; whnf)
      | (refine kW_go (by omega) ?_; conv => lhs; whnf)
      | (refine kB_true (decide_eq_true (by omega)) ?_; conv => lhs; whnf)
      | (refine kB_false (decide_eq_false (by omega)) ?_; conv => lhs; whnf)
      | ((with_reducible refine kN_go ?_ ?_); (first | assumption | with_reducible rfl | (refine decide_eq_true ?_; simp only [lenMax, List.length_cons, List.length_nil, List.length_append, List.length_map]; omega) | rotate_left); conv => lhs; whnf)
      | ((with_reducible refine kW_go ?_ ?_); rotate_left; conv => lhs; whnf)
      | (refine kB_dec (fun _ => ?_) (fun _ => ?_) <;> (conv => lhs; whnf))
      | (refine kB_elim (fun _ => ?_) (fun _ => ?_) <;> (conv => lhs; whnf)))
    simp [zcs, hpre]
  | cons l post ih =>
    intro pre s i mi z hk hmi hz hpre hi
    have hl : t.ls.length = pre.length + post.length + 1 := by rw [hpre]; simp; omega
    have hlo : l.Ok := h.ok l (by rw [hpre]; simp)
    have hg : (t.ls.map Lk.av)[i.toNat]? = some l.av := by rw [hpre, hi]; simp
    have hst : storeC (lcs pre ++ z) (0 + i.toNat * 2) [.lst .no (l.q.map It.av), .int .i64 l.lost] = some (lcs (pre ++ [l]) ++ zcs post.length) := by
      rw [hz, List.length_cons, zcs_succ, storeC_app _ _ _ (.lst .no (l.q.map It.av) :: .int .i64 l.lost :: zcs post.length) _ (by rw [lcs_len]; omega) (by cases zcs post.length <;> rfl), lcs_snoc]
      simp
    refine evL M XE hk ?_
    conv => lhs; whnf
    repeat' (first
      | with_reducible rfl
      | (refine kO_go (hg) ?_; conv => lhs; whnf)
      | (refine kO_go (clone_It l.q hlo.len) ?_; conv => lhs; whnf)
      | (refine kO_go (hst) ?_; conv => lhs; whnf)
      | (refine kW_go (by omega) ?_; conv => lhs; whnf)
      | (refine kB_true (decide_eq_true (by omega)) ?_; conv => lhs; whnf)
      | (refine kB_false (decide_eq_false (by omega)) ?_; conv => lhs; whnf)
      | ((with_reducible refine kN_go ?_ ?_); (first | assumption | with_reducible rfl | (refine decide_eq_true ?_; simp only [lenMax, List.length_cons, List.length_nil, List.length_append, List.length_map]; omega) | rotate_left); conv => lhs; whnf)
      | ((with_reducible refine kW_go ?_ ?_); rotate_left; conv => lhs; whnf)
      | (refine kB_dec (fun _ => ?_) (fun _ => ?_) <;> (conv => lhs; whnf))
      | (refine kB_elim (fun _ => ?_) (fun _ => ?_) <;> (conv => lhs; whnf)))
    exact ih (pre ++ [l]) _ _ _ _ (keep_eq rfl rfl rfl (okH_cons (by rfl) (okH_flat ((lcs_flat _).app (zcs_flat _)) (by rfl)))) hmi rfl (by simp [hpre]) (by simp [hi])
theorem net_open_s (t : Nt) (h : t.Ok) : LM.call n_net_open [t.av] [] = some (.agg [.int .i64 t.n, .arr 0 0 (t.ls.map Lk.av).length 2 true], [⟨true, lcs t.ls⟩]) := by
  have h1 := Lks.len t.ls
  have h2 := h.few
  refine ev M XE rfl rfl ?_
  conv => lhs; whnf
  repeat' (first
    | with_reducible rfl
    | (refine kO_go (net_sound_s t h) ?_; conv => lhs; whnf)
    | (refine kO_go (net_open_l t h _ h1 t.ls [] _ 0 _ (zcs (t.ls.map Lk.av).length) (keep_eq rfl rfl rfl (okH_cons (by rfl) (okH_flat ((lcs_flat []).app (zcs_flat _)) (by rfl)))) rfl (by rw [h1]) rfl rfl) ?_; conv => lhs; whnf)
    | (refine kO_go (reach_one (by rfl) (lcs_flat _)) ?_; conv => lhs; whnf)
    | (refine kW_go (by omega) ?_; conv => lhs; whnf)
    | (refine kB_true (decide_eq_true (by omega)) ?_; conv => lhs; whnf)
    | (refine kB_false (decide_eq_false (by omega)) ?_; conv => lhs; whnf)
    | ((with_reducible refine kN_go ?_ ?_); (first | assumption | with_reducible rfl | (refine decide_eq_true ?_; simp only [lenMax, List.length_cons, List.length_nil, List.length_append, List.length_map]; omega) | rotate_left); conv => lhs; whnf)
    | ((with_reducible refine kW_go ?_ ?_); rotate_left; conv => lhs; whnf)
    | (refine kB_dec (fun _ => ?_) (fun _ => ?_) <;> (conv => lhs; whnf))
    | (refine kB_elim (fun _ => ?_) (fun _ => ?_) <;> (conv => lhs; whnf)))
  show some (_, [(⟨true, (lcs t.ls).map (ren2 (idx [117]))⟩ : PF.Obj)]) = _
  rw [(lcs_flat _).ren]; rfl
theorem elems_lcs (ls : List Lk) (n : Nat) (hn : n = ls.length) : elems (lcs ls) 0 n 2 true = some (ls.map Lk.av) := by
  subst hn
  have hd : ∀ ls : List Lk, (lcs ls).map AV.cp = lcs ls := by
    intro ls
    induction ls with
    | nil => rfl
    | cons l ls ih => simp only [lcs, List.flatMap_cons, List.map_append] at ih ⊢; rw [ih]; rfl
  have ha : (lcs ls).all AV.dcell = true := by
    rw [List.all_eq_true]
    intro c hc
    obtain ⟨l, -, hc⟩ := List.mem_flatMap.1 hc
    rcases List.mem_cons.1 hc with rfl | hc
    · rfl
    · rw [List.mem_singleton.1 hc]; rfl
  have hl := lcs_len ls
  have hc : chunk 2 ls.length (lcs ls) = ls.map Lk.av := by
    clear ha hl
    induction ls with
    | nil => rfl
    | cons l ls ih =>
      simp only [List.length_cons, chunk, List.map_cons]
      have : lcs (l :: ls) = .lst .no (l.q.map It.av) :: .int .i64 l.lost :: lcs ls := by simp [lcs]
      rw [this]
      simp only [List.take_succ_cons, List.take_zero, List.drop_succ_cons, List.drop_zero, ih]
  simp only [elems, List.drop_zero]
  rw [if_pos (by omega), List.take_of_length_le (by omega), hd, ha, if_pos rfl, hc]; rfl
/-- There is such a link. -/
def Nt.has (t : Nt) (f g : Int) : Prop := 0 ≤ f ∧ f < t.n ∧ 0 ≤ g ∧ g < t.n
instance (t : Nt) (f g : Int) : Decidable (t.has f g) := inferInstanceAs (Decidable (_ ∧ _))
theorem Nt.has_at {t : Nt} (h : t.Ok) {f g : Int} (hh : t.has f g) : 0 ≤ f * t.n ∧ f * t.n ≤ 156 ∧ f * t.n + g < t.ls.length ∧ 0 ≤ f * t.n + g := by
  obtain ⟨h1, h2, h3, h4⟩ := hh
  have hn := h.n
  have e1 : 0 ≤ f * t.n := Int.mul_nonneg h1 (by omega)
  have e2 : f * t.n ≤ 12 * 13 := Int.mul_le_mul (by omega) (by omega) (by omega) (by omega)
  have e3 : (f + 1) * t.n ≤ t.n * t.n := Int.mul_le_mul_of_nonneg_right (by omega) (by omega)
  rw [Int.add_mul] at e3
  have e4 : (t.ls.length : Int) = t.n * t.n := by rw [h.len]; simp
  refine ⟨e1, by omega, by omega, by omega⟩
theorem net_at_s (t : Nt) (h : t.Ok) (f g : Int) : LM.call n_net_at [t.av, .int .i64 f, .int .i64 g] [] =
    some (.tup [.int .i64 (if t.has f g then f * t.n + g else 0), .bool (decide (t.has f g))], []) := by
  have hn := h.n
  by_cases hh : t.has f g
  · obtain ⟨h1, h2, h3, h4⟩ := t.has_at h hh
    obtain ⟨k1, k2, k3, k4⟩ := id hh
    refine ev M XE rfl rfl ?_
    conv => lhs; whnf
    repeat' (first
      | with_reducible rfl
      | (refine kW_go (by omega) ?_; conv => lhs; whnf)
      | (refine kB_true (decide_eq_true (by omega)) ?_; conv => lhs; whnf)
      | (refine kB_false (decide_eq_false (by omega)) ?_; conv => lhs; whnf)
      | ((with_reducible refine kN_go ?_ ?_); (first | assumption | with_reducible rfl | (refine decide_eq_true ?_; simp only [lenMax, List.length_cons, List.length_nil, List.length_append, List.length_map]; omega) | rotate_left); conv => lhs; whnf)
      | ((with_reducible refine kW_go ?_ ?_); rotate_left; conv => lhs; whnf)
      | (refine kB_dec (fun _ => ?_) (fun _ => ?_) <;> (conv => lhs; whnf))
      | (refine kB_elim (fun _ => ?_) (fun _ => ?_) <;> (conv => lhs; whnf)))
    simp [hh]
  · have : f < 0 ∨ f ≥ t.n ∨ g < 0 ∨ g ≥ t.n := by unfold Nt.has at hh; omega
    refine ev M XE rfl rfl ?_
    conv => lhs; whnf
    repeat' (first
      | with_reducible rfl
      | (refine kW_go (by omega) ?_; conv => lhs; whnf)
      | (refine kB_true (decide_eq_true (by omega)) ?_; conv => lhs; whnf)
      | (refine kB_false (decide_eq_false (by omega)) ?_; conv => lhs; whnf)
      | ((with_reducible refine kN_go ?_ ?_); (first | assumption | with_reducible rfl | (refine decide_eq_true ?_; simp only [lenMax, List.length_cons, List.length_nil, List.length_append, List.length_map]; omega) | rotate_left); conv => lhs; whnf)
      | ((with_reducible refine kW_go ?_ ?_); rotate_left; conv => lhs; whnf)
      | (refine kB_dec (fun _ => ?_) (fun _ => ?_) <;> (conv => lhs; whnf))
      | (refine kB_elim (fun _ => ?_) (fun _ => ?_) <;> (conv => lhs; whnf)))
    all_goals (first | omega | simp [hh])
def Nt.put (t : Nt) (f g d : Int) (b : List UInt8) : Nt := if t.has f g then ⟨t.n, t.ls.set (f * t.n + g).toNat ((t.ls.getD (f * t.n + g).toNat ⟨[], 0⟩).send b d)⟩ else t
theorem lcs_cut (ls : List Lk) (k : Nat) (h : k < ls.length) : lcs ls = lcs (ls.take k) ++ (.lst .no (ls[k].q.map It.av) :: .int .i64 ls[k].lost :: lcs (ls.drop (k + 1))) := by
  have := congrArg lcs (List.take_append_drop k ls).symm
  rw [List.drop_eq_getElem_cons h] at this
  refine this.trans ?_
  simp only [lcs, List.flatMap_append, List.flatMap_cons]; rfl
theorem loadC_lcs (ls : List Lk) (k n : Nat) (h : k < ls.length) (hn : n = k * 2) : loadC (lcs ls) n 2 true = some ls[k].av := by
  have : (lcs ls).drop n = .lst .no (ls[k].q.map It.av) :: .int .i64 ls[k].lost :: lcs (ls.drop (k + 1)) := by
    conv => lhs; rw [lcs_cut ls k h]
    rw [List.drop_left' (by rw [lcs_len, List.length_take]; omega)]
  simp only [loadC, this, takeN]; rfl
theorem storeC_lcs (ls : List Lk) (k n : Nat) (l : Lk) (h : k < ls.length) (hn : n = k * 2) : storeC (lcs ls) n [.lst .no (l.q.map It.av), .int .i64 l.lost] = some (lcs (ls.set k l)) := by
  rw [lcs_cut ls k h, lcs_cut (ls.set k l) k (by simpa using h)]
  rw [storeC_app _ _ _ (.lst .no (l.q.map It.av) :: .int .i64 l.lost :: lcs (ls.drop (k + 1))) _ (by rw [lcs_len, List.length_take]; omega) (by cases lcs (ls.drop (k + 1)) <;> rfl)]
  rw [List.take_set_of_le (Nat.le_refl _), List.drop_set_of_lt (by omega)]; simp
theorem tree_net {h : PF.Heap} {o n m : Nat} {w : Bool} {ls : List Lk} (h1 : hget h o = some ⟨w, lcs ls⟩) (hm : m = ls.length) : tree h (.agg [.int .i64 n, .arr o 0 m 2 true]) = some (.agg [.int .i64 n, .lst .no (ls.map Lk.av)]) := by
  simp [tree, tcells, tcell, h1, elems_lcs ls m hm]
theorem Nt.put_len (t : Nt) (f g d : Int) (b : List UInt8) : (t.put f g d b).n = t.n ∧ (t.put f g d b).ls.length = t.ls.length := by
  unfold Nt.put; split <;> simp
theorem net_put_s (t : Nt) (h : t.Ok) (m : Nat) (hm : m = t.ls.length) (f g d : Int) (b : List UInt8) (cs : List AV) (hcs : cs = lcs t.ls) : LM.call n_net_put [.agg [.int .i64 t.n, .arr 0 0 m 2 true], .agg [.int .i64 f, .int .i64 g, .int .i64 d, .str b]] [⟨true, cs⟩] =
    some (.tup [], [⟨true, lcs (t.put f g d b).ls⟩]) := by
  have hn := h.n
  subst hcs
  have he := elems_lcs t.ls m hm
  have ht := net_at_s t h f g
  by_cases hh : t.has f g
  · obtain ⟨h1, h2, h3, h4⟩ := t.has_at h hh
    rw [if_pos hh, decide_eq_true hh] at ht
    have hk : (f * t.n + g).toNat < t.ls.length := by omega
    have hl := h.ok _ (List.getElem_mem hk)
    have hp : t.put f g d b = ⟨t.n, t.ls.set (f * t.n + g).toNat (t.ls[(f * t.n + g).toNat].send b d)⟩ := by
      rw [Nt.put, if_pos hh, List.getD_eq_getElem?_getD, List.getElem?_eq_getElem hk]; rfl
    rw [hp]
    have hst := storeC_lcs t.ls (f * t.n + g).toNat (0 + (f * t.n + g).toNat * 2) (t.ls[(f * t.n + g).toNat].send b d) hk (by omega)
    have hld := loadC_lcs t.ls (f * t.n + g).toNat (0 + (f * t.n + g).toNat * 2) hk (by omega)
    refine ev M XE rfl rfl ?_
    conv => lhs; whnf
    repeat' (first
      | with_reducible rfl
      | (refine kO_go (ht) ?_; conv => lhs; whnf)
      | (refine kO_go (tree_net (by rfl) hm) ?_; conv => lhs; whnf)
      | (refine kO_go (hld) ?_; conv => lhs; whnf)
      | (refine kO_go (link_Send_s _ hl b d) ?_; conv => lhs; whnf)
      | (refine kO_go (hst) ?_; conv => lhs; whnf)
      | (refine kO_go (reach_one (by rfl) (lcs_flat _)) ?_; conv => lhs; whnf)
      | (refine kW_go (by omega) ?_; conv => lhs; whnf)
      | (refine kB_true (decide_eq_true (by omega)) ?_; conv => lhs; whnf)
      | (refine kB_false (decide_eq_false (by omega)) ?_; conv => lhs; whnf)
      | ((with_reducible refine kN_go ?_ ?_); (first | assumption | with_reducible rfl | (refine decide_eq_true ?_; simp only [lenMax, List.length_cons, List.length_nil, List.length_append, List.length_map]; omega) | rotate_left); conv => lhs; whnf)
      | ((with_reducible refine kW_go ?_ ?_); rotate_left; conv => lhs; whnf)
      | (refine kB_dec (fun _ => ?_) (fun _ => ?_) <;> (conv => lhs; whnf))
      | (refine kB_elim (fun _ => ?_) (fun _ => ?_) <;> (conv => lhs; whnf)))
    show some (_, [(⟨true, (lcs _).map (ren2 (idx [0]))⟩ : PF.Obj)]) = _
    rw [(lcs_flat _).ren]; rfl
  · rw [if_neg hh, decide_eq_false hh] at ht
    have hp : t.put f g d b = t := by rw [Nt.put, if_neg hh]
    rw [hp]
    refine ev M XE rfl rfl ?_
    conv => lhs; whnf
    repeat' (first
      | with_reducible rfl
      | (refine kO_go (ht) ?_; conv => lhs; whnf)
      | (refine kO_go (tree_net (by rfl) hm) ?_; conv => lhs; whnf)
      | (refine kO_go (reach_one (by rfl) (lcs_flat _)) ?_; conv => lhs; whnf)
      | (refine kW_go (by omega) ?_; conv => lhs; whnf)
      | (refine kB_true (decide_eq_true (by omega)) ?_; conv => lhs; whnf)
      | (refine kB_false (decide_eq_false (by omega)) ?_; conv => lhs; whnf)
      | ((with_reducible refine kN_go ?_ ?_); (first | assumption | with_reducible rfl | (refine decide_eq_true ?_; simp only [lenMax, List.length_cons, List.length_nil, List.length_append, List.length_map]; omega) | rotate_left); conv => lhs; whnf)
      | ((with_reducible refine kW_go ?_ ?_); rotate_left; conv => lhs; whnf)
      | (refine kB_dec (fun _ => ?_) (fun _ => ?_) <;> (conv => lhs; whnf))
      | (refine kB_elim (fun _ => ?_) (fun _ => ?_) <;> (conv => lhs; whnf)))
    show some (_, [(⟨true, (lcs _).map (ren2 (idx [0]))⟩ : PF.Obj)]) = _
    rw [(lcs_flat _).ren]; rfl
theorem net_Send_s (t : Nt) (h : t.Ok) (f g d : Int) (b : List UInt8) : LM.call n_net_Send [t.av, .agg [.int .i64 f, .int .i64 g, .int .i64 d, .str b]] [] = some ((t.put f g d b).av, []) := by
  have hm := Lks.len t.ls
  obtain ⟨p1, p2⟩ := t.put_len f g d b
  refine ev M XE rfl rfl ?_
  conv => lhs; whnf
  repeat' (first
    | with_reducible rfl
    | (refine kO_go (net_open_s t h) ?_; conv => lhs; whnf)
    | (refine kO_go (net_put_s t h _ hm f g d b _ ((lcs_flat _).ren _)) ?_; conv => lhs; whnf)
    | (refine kO_go (tree_net (by rfl) hm) ?_; conv => lhs; whnf)
    | (refine kO_go (tree_net (by rfl) (hm.trans p2.symm)) ?_; conv => lhs; whnf)
    | (refine kO_go (reach_one (by rfl) (lcs_flat _)) ?_; conv => lhs; whnf)
    | (refine flR_go (lcs_flat _) ?_; conv => lhs; whnf)
    | (refine kW_go (by omega) ?_; conv => lhs; whnf)
    | (refine kB_true (decide_eq_true (by omega)) ?_; conv => lhs; whnf)
    | (refine kB_false (decide_eq_false (by omega)) ?_; conv => lhs; whnf)
    | ((with_reducible refine kN_go ?_ ?_); (first | assumption | with_reducible rfl | (refine decide_eq_true ?_; simp only [lenMax, List.length_cons, List.length_nil, List.length_append, List.length_map]; omega) | rotate_left); conv => lhs; whnf)
    | ((with_reducible refine kW_go ?_ ?_); rotate_left; conv => lhs; whnf)
    | (refine kB_dec (fun _ => ?_) (fun _ => ?_) <;> (conv => lhs; whnf))
    | (refine kB_elim (fun _ => ?_) (fun _ => ?_) <;> (conv => lhs; whnf)))
  rw [Nt.av, p1]; rfl
theorem putc_n (t : Nt) (f g d : Int) (b : List UInt8) : (t.put f g d b).n = t.n := (t.put_len f g d b).1
theorem Lk.send_Ok {l : Lk} (h : l.Ok) (b : List UInt8) (d : Int) (hd : True) : (l.send b d).Ok := by
  unfold Lk.send
  split
  · exact h
  · have hp := push_len l.q [⟨0, clamp d 1 8, b⟩]
    have hc : 0 ≤ clamp l.lost 0 65535 ∧ clamp l.lost 0 65535 ≤ 65535 := cl_in l.lost
    have hl := h.len
    refine ⟨fun x hx => ?_, ?_, ?_⟩
    · have : x ∈ l.q ++ [⟨0, clamp d 1 8, b⟩] := List.mem_of_mem_drop hx
      rcases List.mem_append.1 this with h2 | h2
      · exact h.q x h2
      · simp at h2; subst h2
        have : 1 ≤ clamp d 1 8 ∧ clamp d 1 8 ≤ 8 := by simp only [clamp]; split <;> (try split) <;> omega
        exact ⟨by constructor <;> simp, by constructor <;> simp <;> omega⟩
    · show IN (min (clamp l.lost 0 65535 + ((l.q.length + 1 - 8 : Nat) : Int)) 65535)
      constructor <;> omega
    · show (pushQ l.q [⟨0, clamp d 1 8, b⟩]).length ≤ 4000
      rw [hp]; simp; omega
theorem Nt.put_Ok {t : Nt} (h : t.Ok) (f g d : Int) (b : List UInt8) : (t.put f g d b).Ok := by
  obtain ⟨p1, p2⟩ := t.put_len f g d b
  refine ⟨by rw [p1]; exact h.n, by rw [p1, p2]; exact h.len, ?_⟩
  intro l hl
  unfold Nt.put at hl
  split at hl
  · rename_i hh
    have hk : (f * t.n + g).toNat < t.ls.length := by obtain ⟨h1, h2, h3, h4⟩ := t.has_at h hh; omega
    rcases List.mem_or_eq_of_mem_set hl with h2 | h2
    · exact h.ok l h2
    · subst h2
      refine Lk.send_Ok (h.ok _ ?_) b d trivial
      rw [List.getD_eq_getElem?_getD, List.getElem?_eq_getElem hk]
      exact List.getElem_mem hk
  · exact h.ok l hl
end Go.Proofs.Ytciagkncanehfaa
