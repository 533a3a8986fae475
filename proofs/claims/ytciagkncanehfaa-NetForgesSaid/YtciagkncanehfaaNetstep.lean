/-
  Functions of the program, evaluated: netstep.
-/
import Derived.Test.YtciagkncanehfaaNet
set_option linter.unusedVariables false
set_option linter.unusedSimpArgs false
set_option maxRecDepth 100000
namespace Go.Proofs.Ytciagkncanehfaa
open Go.Proofs.PF

/-! ### A net's step -/
structure Fr where
  frm : Int
  age : Int
  bytes : List UInt8
deriving DecidableEq
@[reducible] def Fr.av (x : Fr) : AV := .agg [.int .i64 x.frm, .int .i64 x.age, .str x.bytes]
theorem Frs.len (l : List Fr) : (l.map Fr.av).length = l.length := by simp
def grF (l : List Fr) : Gr := match l with | [] => .full | _ :: _ => .own 3
def fcl (l : List Fr) : AV := .lst (grF l) (l.map Fr.av)
def fcs (fs : List (List Fr)) : List AV := fs.map fcl
def Fr.of (f : Int) (x : It) : Fr := ⟨f, x.age, x.bytes⟩
theorem fcs_flat (fs : List (List Fr)) : Flat (fcs fs) := by
  intro c hc
  obtain ⟨l, -, rfl⟩ := List.mem_map.1 hc
  rfl
theorem grF_may (l : List Fr) : mayApp 3 (grF l) (l.map Fr.av) = true := by cases l <;> rfl
theorem storeC_fcs (fs : List (List Fr)) (j n : Nat) (hj : j < fs.length) (hn : n = j) (v : AV) (l : List Fr) (c : AV) (hc : c = fcl l) : storeC ((fcs fs).set n v) n [c] = some (fcs (fs.set j l)) := by
  subst hn; subst hc
  have : (fcs fs).set n v = (fcs fs).take n ++ v :: (fcs fs).drop (n + 1) := List.set_eq_take_append_cons_drop.trans (by rw [if_pos (by simpa [fcs] using hj)])
  rw [this, storeC_app _ _ _ (fcl l :: (fcs fs).drop (n + 1)) _ (by simp [fcs]; omega) (by cases (fcs fs).drop (n + 1) <;> rfl)]
  rw [List.set_eq_take_append_cons_drop, if_pos hj]
  simp [fcs]
theorem net_Step_in (n m : Nat) (f : Int) (L : List Lk) (cs : List AV) (hcs : Flat cs) (a b : Lk) (mi i : Int) (C : List It) (hC : C.length ≤ 4000) (j : Nat) (tv : Int) (htv : tv = j) : ∀ (post pre : List It) (s : St) (ci k : Int) (fs : List (List Fr)),
    keep [3, 4, 5, 10, 11, 20, 21, 22, 45, 46, 47] [101, 103, 104, 107, 109, 118, 1600, 1601, 1602, 1603] s = some ⟨[(3, .ptr 103 0), (4, .ptr 104 0), (5, .arr 118 0 n 1 false), (10, .int .i64 f), (11, .int .i64 tv), (20, .arr 1600 0 m 2 true), (21, .int .i64 mi), (22, .int .i64 i), (45, .lst .no (C.map It.av)), (46, .int .i64 ci), (47, .int .i64 k)],
      [(109, ⟨true, [.lst .no (a.q.map It.av), .int .i64 a.lost]⟩), (107, ⟨true, [.lst .no (b.q.map It.av), .int .i64 b.lost]⟩), (118, ⟨true, fcs fs⟩), (104, ⟨true, [.int .i64 n, .arr 1600 0 m 2 true]⟩), (103, ⟨true, [.int .i64 0, .lst .full []]⟩), (101, ⟨true, [.int .i64 n, .lst .no (L.map Lk.av)]⟩), (1600, ⟨true, cs⟩)]⟩ →
    C = pre ++ post → ci = C.length → k = pre.length → fs.length = n → j < n → (fs.getD j []).length + post.length ≤ 4000000 →
    LM.loop ([3, 4, 5, 10, 11, 20, 21, 22, 45, 46, 47], [101, 103, 104, 107, 109, 118, 1600, 1601, 1602, 1603], [3, 4, 5, 20, 21, 22], B_net_Step_0) s = some (.exit 2, ⟨[(3, .ptr 103 0), (4, .ptr 104 0), (5, .arr 118 0 n 1 false), (20, .arr 1600 0 m 2 true), (21, .int .i64 mi), (22, .int .i64 i)],
      [(109, ⟨true, [.lst .no (a.q.map It.av), .int .i64 a.lost]⟩), (107, ⟨true, [.lst .no (b.q.map It.av), .int .i64 b.lost]⟩), (118, ⟨true, fcs (fs.set j (fs.getD j [] ++ post.map (Fr.of f)))⟩), (104, ⟨true, [.int .i64 n, .arr 1600 0 m 2 true]⟩), (103, ⟨true, [.int .i64 0, .lst .full []]⟩), (101, ⟨true, [.int .i64 n, .lst .no (L.map Lk.av)]⟩), (1600, ⟨true, cs⟩)]⟩) := by
  have hCl := It.len C
  intro post
  induction post with
  | nil =>
    intro pre s ci k fs hk hpre hci hki hf hj hb
    have hl : C.length = pre.length := by rw [hpre]; simp
    refine evL M XE hk ?_
    conv => lhs; whnf
    repeat' (first
      | with_reducible rfl
      | ((with_reducible refine kO_go (keep_eq rfl rfl ?_ ?_) ?_); (focus (rfl)); (focus (repeat' (first | exact okH_nil _ | (refine okH_flat ?_ ?_; focus (first | exact hcs | exact fcs_flat _; done)) | refine okH_cons rfl ?_))); conv => lhs; whnf)
      | (refine kW_go (by omega) ?_; conv => lhs; whnf)
      | (refine kB_true (decide_eq_true (by omega)) ?_; conv => lhs; whnf)
      | (refine kB_false (decide_eq_false (by omega)) ?_; conv => lhs; whnf)
      | ((with_reducible refine kN_go ?_ ?_); (first | assumption | with_reducible rfl | (refine decide_eq_true ?_; simp only [lenMax, List.length_cons, List.length_nil, List.length_append, List.length_map]; omega) | rotate_left); conv => lhs; whnf)
      | ((with_reducible refine kW_go ?_ ?_); rotate_left; conv => lhs; whnf)
      | (refine kB_dec (fun _ => ?_) (fun _ => ?_) <;> (conv => lhs; whnf))
      | (refine kB_elim (fun _ => ?_) (fun _ => ?_) <;> (conv => lhs; whnf)))
    have e : fs.set j (fs.getD j [] ++ ([] : List It).map (Fr.of f)) = fs := by
      rw [List.getD_eq_getElem?_getD, List.getElem?_eq_getElem (by omega)]; simp
    rw [e]; rfl
  | cons x post ih =>
    intro pre s ci k fs hk hpre hci hki hf hj hb
    have hl : C.length = pre.length + post.length + 1 := by rw [hpre]; simp; omega
    have hgx : (C.map It.av)[k.toNat]? = some (It.av x) := by rw [hpre, hki]; simp
    have hd : fs.getD j [] = fs[j]'(by omega) := by rw [List.getD_eq_getElem?_getD, List.getElem?_eq_getElem]; rfl
    rw [hd] at hb
    have hfl := Frs.len (fs[j]'(by omega))
    have hmay := grF_may (fs[j]'(by omega))
    have hlx : (fcs fs)[0 + tv.toNat * 1]? = some (.lst (grF (fs[j]'(by omega))) ((fs[j]'(by omega)).map Fr.av)) := by
      rw [htv, show 0 + ((j : Int)).toNat * 1 = j from by omega, fcs, List.getElem?_map, List.getElem?_eq_getElem (by omega)]; rfl
    have hst := storeC_fcs fs j (0 + tv.toNat * 1) (by omega) (by omega) (AV.cp (.lst (grF (fs[j]'(by omega))) ((fs[j]'(by omega)).map Fr.av))) (fs[j]'(by omega) ++ [Fr.of f x]) (.lst (.own 3) ((fs[j]'(by omega)).map Fr.av ++ [(Fr.of f x).av])) (by cases fs[j]'(by omega) <;> simp [fcl, grF])
    simp only [List.length_cons] at hb
    refine evL M XE hk ?_
    conv => lhs; whnf
    repeat' (first
      | with_reducible rfl
      | (refine kO_go (hgx) ?_; conv => lhs; whnf)
      | (refine kO_go (hlx) ?_; conv => lhs; whnf)
      | (refine kO_go (hst) ?_; conv => lhs; whnf)
      | (refine kW_go (by omega) ?_; conv => lhs; whnf)
      | (refine kB_true (decide_eq_true (by omega)) ?_; conv => lhs; whnf)
      | (refine kB_false (decide_eq_false (by omega)) ?_; conv => lhs; whnf)
      | ((with_reducible refine kN_go ?_ ?_); (first | assumption | with_reducible rfl | (refine decide_eq_true ?_; simp only [lenMax, List.length_cons, List.length_nil, List.length_append, List.length_map]; omega) | rotate_left); conv => lhs; whnf)
      | ((with_reducible refine kW_go ?_ ?_); rotate_left; conv => lhs; whnf)
      | (refine kB_dec (fun _ => ?_) (fun _ => ?_) <;> (conv => lhs; whnf))
      | (refine kB_elim (fun _ => ?_) (fun _ => ?_) <;> (conv => lhs; whnf)))
    refine (ih (pre ++ [x]) _ _ _ (fs.set j (fs[j]'(by omega) ++ [Fr.of f x])) (keep_eq rfl rfl rfl (okH_cons (by rfl) (okH_cons (by rfl) (okH_flat (fcs_flat _) (okH_cons (by rfl) (okH_cons (by rfl) (okH_cons (by rfl) (okH_flat hcs (by rfl))))))))) (by simp [hpre]) hci (by simp [hki]) (by simpa using hf) hj ?_).trans ?_
    · rw [List.getD_eq_getElem?_getD, List.getElem?_set_self (by omega)]; simp; omega
    · rw [hd]
      simp only [List.getD_eq_getElem?_getD, List.getElem?_set_self (show j < fs.length by omega), Option.getD_some, List.set_set, List.append_assoc, List.map_cons, List.singleton_append]
/-- The frames that come of links, from the i-th one on. -/
def stepF (n : Nat) : List Lk → Nat → List (List Fr) → List (List Fr)
  | [], _, fs => fs
  | l :: ls, i, fs => stepF n ls (i + 1) (fs.set (i % n) (fs.getD (i % n) [] ++ (comes l.q).map (Fr.of ((i / n : Nat) : Int))))
theorem net_Step_out (t : Nt) (h : t.Ok) (m : Nat) (hm : m = t.ls.length) : ∀ (post pre : List Lk) (s : St) (i mi : Int) (fs : List (List Fr)) (ls : List Lk),
    keep [3, 4, 5, 20, 21, 22] [101, 103, 104, 118, 1600, 1601, 1602, 1603] s = some ⟨[(3, .ptr 103 0), (4, .ptr 104 0), (5, .arr 118 0 t.n 1 false), (20, .arr 1600 0 m 2 true), (21, .int .i64 mi), (22, .int .i64 i)],
      [(118, ⟨true, fcs fs⟩), (104, ⟨true, [.int .i64 t.n, .arr 1600 0 m 2 true]⟩), (103, ⟨true, [.int .i64 0, .lst .full []]⟩), (101, ⟨true, [.int .i64 t.n, .lst .no (t.ls.map Lk.av)]⟩), (1600, ⟨true, lcs ls⟩)]⟩ →
    ls = pre.map Lk.step ++ post → t.ls = pre ++ post → mi = m → i = pre.length → fs.length = t.n → (∀ x ∈ fs, x.length ≤ 4000 * pre.length) →
    LM.loop ([3, 4, 5, 20, 21, 22], [101, 103, 104, 118, 1600, 1601, 1602, 1603], [3, 4, 5], B_net_Step_1) s = some (.exit 0, ⟨[(3, .ptr 103 0), (4, .ptr 104 0), (5, .arr 118 0 t.n 1 false)],
      [(118, ⟨true, fcs (stepF t.n post pre.length fs)⟩), (104, ⟨true, [.int .i64 t.n, .arr 1600 0 m 2 true]⟩), (103, ⟨true, [.int .i64 0, .lst .full []]⟩), (101, ⟨true, [.int .i64 t.n, .lst .no (t.ls.map Lk.av)]⟩), (1600, ⟨true, lcs (t.ls.map Lk.step)⟩)]⟩) := by
  have h1 := Lks.len t.ls
  have h2 := h.few
  have hn := h.n
  intro post
  induction post with
  | nil =>
    intro pre s i mi fs ls hk hls hpre hmi hi hf hb
    have hl : t.ls.length = pre.length := by rw [hpre]; simp
    have e : ls = t.ls.map Lk.step := by rw [hls, hpre]; simp
    subst e
    refine evL M XE hk ?_
    conv => lhs; whnf
    repeat' (first
      | with_reducible rfl
      | ((with_reducible refine kO_go (keep_eq rfl rfl ?_ ?_) ?_); (focus (rfl)); (focus (repeat' (first | exact okH_nil _ | (refine okH_flat ?_ ?_; focus (first | exact lcs_flat _ | exact fcs_flat _; done)) | refine okH_cons rfl ?_))); conv => lhs; whnf)
      | (refine kW_go (by omega) ?_; conv => lhs; whnf)
      | (refine kB_true (decide_eq_true (by omega)) ?_; conv => lhs; whnf)
      | (refine kB_false (decide_eq_false (by omega)) ?_; conv => lhs; whnf)
      | ((with_reducible refine kN_go ?_ ?_); (first | assumption | with_reducible rfl | (refine decide_eq_true ?_; simp only [lenMax, List.length_cons, List.length_nil, List.length_append, List.length_map]; omega) | rotate_left); conv => lhs; whnf)
      | ((with_reducible refine kW_go ?_ ?_); rotate_left; conv => lhs; whnf)
      | (refine kB_dec (fun _ => ?_) (fun _ => ?_) <;> (conv => lhs; whnf))
      | (refine kB_elim (fun _ => ?_) (fun _ => ?_) <;> (conv => lhs; whnf)))
    rfl
  | cons l post ih =>
    intro pre s i mi fs ls hk hls hpre hmi hi hf hb
    have hl : t.ls.length = pre.length + post.length + 1 := by rw [hpre]; simp; omega
    have hlo : l.Ok := h.ok l (by rw [hpre]; simp)
    have hll : ls.length = t.ls.length := by rw [hls, hpre]; simp
    have hkl : pre.length < ls.length := by omega
    have hgl : ls[pre.length] = l := by simp [hls]
    have hset : ls.set pre.length l.step = (pre ++ [l]).map Lk.step ++ post := by simp [hls]
    have hld := loadC_lcs ls pre.length (0 + i.toNat * 2) hkl (by omega)
    rw [hgl] at hld
    have hst := storeC_lcs ls pre.length (0 + i.toNat * 2) l.step hkl (by omega)
    rw [hset] at hst
    have hnp : 0 < t.n := by
      rcases Nat.eq_zero_or_pos t.n with e | e
      · have := h.len; rw [e] at this; omega
      · exact e
    have hj : pre.length % t.n < t.n := Nat.mod_lt _ hnp
    have hdv : pre.length / t.n ≤ 169 := Nat.le_trans (Nat.div_le_self _ _) (by omega)
    have q1 : IntKind.wrap .i64 (Int.tdiv i t.n) = ((pre.length / t.n : Nat) : Int) := by
      rw [hi, show Int.tdiv (pre.length : Int) t.n = ((pre.length / t.n : Nat) : Int) from rfl]; generalize pre.length / t.n = q at hdv ⊢; exact wrap64 (by omega)
    have q2 : Int.tmod i t.n = ((pre.length % t.n : Nat) : Int) := by rw [hi]; rfl
    have hcm := comes_rests l.q
    have hC : (comes l.q).length ≤ 4000 := by have := hlo.len; omega
    have hfl : ((fs.getD (pre.length % t.n) []).length) ≤ 4000 * pre.length := by
      rw [List.getD_eq_getElem?_getD, List.getElem?_eq_getElem (by omega)]
      exact hb _ (List.getElem_mem _)
    have hin := net_Step_in t.n m (IntKind.wrap .i64 (Int.tdiv i t.n)) t.ls (lcs ((pre ++ [l]).map Lk.step ++ post)) (lcs_flat _) l.step l mi i (comes l.q) hC (pre.length % t.n) (Int.tmod i t.n) q2 (comes l.q) []
    refine evL M XE hk ?_
    conv => lhs; whnf
    repeat' (first
      | with_reducible rfl
      | (refine kO_go (link_Step_s l hlo) ?_; conv => lhs; whnf)
      | (refine kO_go (hld) ?_; conv => lhs; whnf)
      | (refine kO_go (hst) ?_; conv => lhs; whnf)
      | (refine kO_go (hin _ _ 0 fs (keep_eq rfl rfl rfl (okH_cons (by rfl) (okH_cons (by rfl) (okH_flat (fcs_flat _) (okH_cons (by rfl) (okH_cons (by rfl) (okH_cons (by rfl) (okH_flat (lcs_flat _) (by rfl))))))))) rfl (by simp) rfl hf hj (by omega)) ?_; conv => lhs; whnf)
      | (refine kW_go (by omega) ?_; conv => lhs; whnf)
      | (refine kB_true (decide_eq_true (by omega)) ?_; conv => lhs; whnf)
      | (refine kB_false (decide_eq_false (by omega)) ?_; conv => lhs; whnf)
      | ((with_reducible refine kN_go ?_ ?_); (first | assumption | with_reducible rfl | (refine decide_eq_true ?_; simp only [lenMax, List.length_cons, List.length_nil, List.length_append, List.length_map]; omega) | rotate_left); conv => lhs; whnf)
      | ((with_reducible refine kW_go ?_ ?_); rotate_left; conv => lhs; whnf)
      | (refine kB_dec (fun _ => ?_) (fun _ => ?_) <;> (conv => lhs; whnf))
      | (refine kB_elim (fun _ => ?_) (fun _ => ?_) <;> (conv => lhs; whnf)))
    rw [q1]
    refine (ih (pre ++ [l]) _ _ _ (fs.set (pre.length % t.n) (fs.getD (pre.length % t.n) [] ++ (comes l.q).map (Fr.of ((pre.length / t.n : Nat) : Int)))) _ (keep_eq rfl rfl rfl (okH_flat (fcs_flat _) (okH_cons (by rfl) (okH_cons (by rfl) (okH_cons (by rfl) (okH_flat (lcs_flat _) (by rfl))))))) rfl (by simp [hpre]) hmi (by simp [hi]) (by simpa using hf) ?_).trans ?_
    · intro x hx
      simp only [List.length_append, List.length_singleton]
      rcases List.mem_or_eq_of_mem_set hx with h3 | h3
      · have := hb x h3; omega
      · rw [h3, List.length_append, List.length_map]; omega
    · simp only [stepF, List.length_append, List.length_singleton]
def fel (l : List Fr) : AV := .lst (grF l).cp (l.map Fr.av)
def fav (fs : List (List Fr)) : AV := .lst .no (fs.map fel)
theorem tree_fr {h : PF.Heap} {o n : Nat} {w : Bool} {fs : List (List Fr)} (h1 : hget h o = some ⟨w, fcs fs⟩) (hm : n = fs.length) : tree h (.arr o 0 n 1 false) = some (fav fs) := by
  subst hm
  have hc : (fcs fs).map AV.cp = fs.map fel := by
    simp only [fcs, List.map_map]
    refine List.map_congr_left fun l _ => ?_
    cases l <;> rfl
  have hd : (fs.map fel).all AV.dcell = true := by
    rw [List.all_eq_true]; intro c hc
    obtain ⟨l, -, rfl⟩ := List.mem_map.1 hc
    cases l with
    | nil => rfl
    | cons x l => simp [fel, grF, AV.dcell]
  have hl : (fcs fs).length = fs.length := by simp [fcs]
  simp only [tree, tcell, h1, Option.bind_some, elems, List.drop_zero, Nat.zero_add, Nat.mul_one]
  rw [if_pos (by omega), List.take_of_length_le (by omega), hc, hd]
  rfl
theorem treeN_fr {h : PF.Heap} {o n : Nat} {w : Bool} {fs : List (List Fr)} (h1 : hget h o = some ⟨w, fcs fs⟩) (hm : n = fs.length) : treeN ([] : List Nat).reverse h (.arr o 0 n 1 false) = some (fav fs) := tree_fr h1 hm
theorem treeN_net {h : PF.Heap} {o n m : Nat} {w : Bool} {ls : List Lk} (h1 : hget h o = some ⟨w, lcs ls⟩) (hm : m = ls.length) : treeN ([] : List Nat).reverse h (.agg [.int .i64 n, .arr o 0 m 2 true]) = some (.agg [.int .i64 n, .lst .no (ls.map Lk.av)]) := tree_net h1 hm
theorem stepF_len (n : Nat) (ls : List Lk) : ∀ (i : Nat) (fs : List (List Fr)), (stepF n ls i fs).length = fs.length := by
  induction ls with
  | nil => intro i fs; rfl
  | cons l ls ih => intro i fs; simp only [stepF, ih, List.length_set]
/-- What comes, and the net then. -/
def Nt.come (t : Nt) : List (List Fr) := stepF t.n t.ls 0 (List.replicate t.n [])
def Nt.step (t : Nt) : Nt := ⟨t.n, t.ls.map Lk.step⟩
theorem net_Step_s (t : Nt) (h : t.Ok) : LM.call n_net_Step [t.av] [] = some (.tup [fav t.come, t.step.av], []) := by
  have hm := Lks.len t.ls
  have hn := h.n
  have hcl : t.come.length = t.n := by simp [Nt.come, stepF_len]
  have hz : (List.replicate t.n [AV.lst .full []]).flatten = fcs (List.replicate t.n []) := by
    have : ∀ n : Nat, (List.replicate n [AV.lst .full []]).flatten = fcs (List.replicate n []) := by
      intro n
      induction n with
      | zero => rfl
      | succ n ih => simp only [List.replicate_succ, List.flatten_cons, ih]; rfl
    exact this _
  have hout := net_Step_out t h _ hm t.ls []
  refine ev M XE rfl rfl ?_
  conv => lhs; whnf
  repeat' (first
    | with_reducible rfl
    | (refine kO_go (net_open_s t h) ?_; conv => lhs; whnf)
    | (refine flR_go (lcs_flat _) ?_; conv => lhs; whnf)
    | (refine kO_go (hout _ 0 _ (List.replicate t.n []) t.ls ((by rw [← hz]; exact keep_eq rfl rfl rfl (okH_flat (by rw [hz]; exact fcs_flat _) (okH_cons (by rfl) (okH_cons (by rfl) (okH_cons (by rfl) (okH_flat (lcs_flat _) (by rfl)))))))) rfl rfl rfl rfl (by simp) (by intro x hx; simp [List.eq_of_mem_replicate hx])) ?_; conv => lhs; whnf)
    | (refine kO_go (treeN_fr (fs := t.come) (by rfl) hcl.symm) ?_; conv => lhs; whnf)
    | (refine kO_go (treeN_net (ls := t.ls.map Lk.step) (by rfl) (by rw [hm]; simp)) ?_; conv => lhs; whnf)
    | (refine kW_go (by omega) ?_; conv => lhs; whnf)
    | (refine kB_true (decide_eq_true (by omega)) ?_; conv => lhs; whnf)
    | (refine kB_false (decide_eq_false (by omega)) ?_; conv => lhs; whnf)
    | ((with_reducible refine kN_go ?_ ?_); (first | assumption | with_reducible rfl | (refine decide_eq_true ?_; simp only [lenMax, List.length_cons, List.length_nil, List.length_append, List.length_map]; omega) | rotate_left); conv => lhs; whnf)
    | ((with_reducible refine kW_go ?_ ?_); rotate_left; conv => lhs; whnf)
    | (refine kB_dec (fun _ => ?_) (fun _ => ?_) <;> (conv => lhs; whnf))
    | (refine kB_elim (fun _ => ?_) (fun _ => ?_) <;> (conv => lhs; whnf)))
  rfl
end Go.Proofs.Ytciagkncanehfaa
