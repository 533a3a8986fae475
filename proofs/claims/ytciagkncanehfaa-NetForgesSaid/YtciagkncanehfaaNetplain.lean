/-
  Functions of the program, evaluated: netplain.
-/
import Derived.Test.YtciagkncanehfaaNetforges
set_option linter.unusedVariables false
set_option linter.unusedSimpArgs false
set_option maxRecDepth 100000
namespace Go.Proofs.Ytciagkncanehfaa
open Go.Proofs.PF

/-! ### Two nets that differ at one link (no program in sight) -/
theorem Nt.step_Ok {t : Nt} (h : t.Ok) : t.step.Ok := by
  refine ⟨h.n, by simp only [Nt.step, List.length_map]; exact h.len, ?_⟩
  intro l hl
  obtain ⟨x, hx, rfl⟩ := List.mem_map.1 hl
  have ho := h.ok x hx
  have hcr := comes_rests x.q
  have hl := ho.len
  exact ⟨(step_oks ho.q).2, ho.lost, by simp only [Lk.step]; omega⟩
theorem stepF_few (n : Nat) : ∀ (ls : List Lk), (∀ l ∈ ls, l.q.length ≤ 4000) → ∀ (i B : Nat) (fs : List (List Fr)), (∀ x ∈ fs, x.length ≤ B) → ∀ x ∈ stepF n ls i fs, x.length ≤ B + 4000 * ls.length := by
  intro ls
  induction ls with
  | nil => intro _ i B fs h x hx; have := h x hx; simp; omega
  | cons l ls ih =>
    intro hl i B fs h x hx
    have h1 := hl l (by simp)
    have hcr := comes_rests l.q
    have := ih (fun y hy => hl y (List.mem_cons_of_mem _ hy)) (i + 1) (B + 4000) _ (fun y hy => by
      rcases List.mem_or_eq_of_mem_set hy with h3 | h3
      · have := h y h3; omega
      · rw [h3, List.length_append, List.length_map]
        rw [List.getD_eq_getElem?_getD]
        cases hg : fs[i % n]? with
        | none => simp; omega
        | some z => have := h z (List.mem_of_getElem? hg); simp; omega) x hx
    simp only [List.length_cons]; omega
theorem Nt.come_few {t : Nt} (h : t.Ok) : ∀ x ∈ t.come, x.length ≤ 4000000 := by
  intro x hx
  have := stepF_few t.n t.ls (fun l hl => (h.ok l hl).len) 0 0 (List.replicate t.n []) (fun y hy => by simp [List.eq_of_mem_replicate hy]) x hx
  have := h.few
  omega
theorem Nt.come_len (t : Nt) : t.come.length = t.n := by simp [Nt.come, stepF_len]
/-- Alike but at place p. -/
def Rl (p : Option Nat) (i : Nat) (a b : List Lk) : Prop := a.length = b.length ∧ ∀ k (h1 : k < a.length) (h2 : k < b.length), p ≠ some (i + k) → a[k] = b[k]
def Rf (n : Nat) (p : Option Nat) (x y : List (List Fr)) : Prop := x.length = y.length ∧ ∀ j (h1 : j < x.length) (h2 : j < y.length), ((∀ q, p = some q → q % n ≠ j) → x[j] = y[j]) ∧ ∀ q, p = some q → q % n = j → oth ((q / n : Nat) : Int) x[j] = oth ((q / n : Nat) : Int) y[j]
theorem oth_app (f : Int) (a b : List Fr) : oth f (a ++ b) = oth f a ++ oth f b := List.filter_append ..
theorem oth_of (f : Int) (c : List It) : oth f (c.map (Fr.of f)) = [] := by
  simp only [oth, List.filter_eq_nil_iff]
  intro x hx
  obtain ⟨y, -, rfl⟩ := List.mem_map.1 hx
  simp [Fr.of]
theorem Rf_step (n : Nat) (hn : 0 < n) (p : Option Nat) : ∀ (a b : List Lk) (i : Nat) (x y : List (List Fr)), Rl p i a b → Rf n p x y → x.length = n → Rf n p (stepF n a i x) (stepF n b i y) := by
  intro a
  induction a with
  | nil =>
    intro b i x y hl hf _
    cases b with
    | nil => exact hf
    | cons => cases hl.1
  | cons l a ih =>
    intro b i x y hl hf hx
    cases b with
    | nil => cases hl.1
    | cons l2 b =>
      obtain ⟨e1, e2⟩ := hl
      obtain ⟨f1, f2⟩ := hf
      have hj : i % n < n := Nat.mod_lt _ hn
      simp only [stepF]
      refine ih b (i + 1) _ _ ⟨by simpa using e1, fun k h1 h2 hp => ?_⟩ ?_ (by simpa using hx)
      · have := e2 (k + 1) (by simpa using h1) (by simpa using h2) (by rwa [show i + (k + 1) = i + 1 + k from by omega])
        simpa using this
      · refine ⟨by simpa using f1, fun j h1 h2 => ?_⟩
        have g1 : j < x.length := by simpa using h1
        have g2 : j < y.length := by simpa using h2
        obtain ⟨q1, q2⟩ := f2 j g1 g2
        have dx : x.getD (i % n) [] = x[i % n]'(by omega) := by rw [List.getD_eq_getElem?_getD, List.getElem?_eq_getElem]; rfl
        have dy : y.getD (i % n) [] = y[i % n]'(by omega) := by rw [List.getD_eq_getElem?_getD, List.getElem?_eq_getElem]; rfl
        simp only [List.getElem_set, dx, dy]
        by_cases ej : i % n = j
        · subst ej
          simp only [if_true]
          by_cases hp : p = some i
          · refine ⟨fun hne => absurd rfl (hne i hp), fun q hq hqn => ?_⟩
            have : q = i := by rw [hp] at hq; exact (Option.some.inj hq).symm
            subst this
            rw [oth_app, oth_app, oth_of, oth_of, q2 q hp rfl]
          · have hll : l = l2 := by have := e2 0 (by simp) (by simp) (by simpa using hp); simpa using this
            subst hll
            refine ⟨fun hne => by rw [q1 hne], fun q hq hqn => by rw [oth_app, oth_app, q2 q hq hqn]⟩
        · simp only [if_neg ej]
          exact ⟨q1, q2⟩
theorem Rl_step {p : Option Nat} {a b : List Lk} (h : Rl p 0 a b) : Rl p 0 (a.map Lk.step) (b.map Lk.step) := by
  refine ⟨by simpa using h.1, fun k h1 h2 hp => ?_⟩
  simp only [List.getElem_map]
  rw [h.2 k (by simpa using h1) (by simpa using h2) hp]
theorem come_alike {a b : Nt} (hn : a.n = b.n) (h0 : 0 < a.n) {p : Option Nat} (h : Rl p 0 a.ls b.ls) : Rf a.n p a.come b.come := by
  unfold Nt.come
  rw [← hn]
  refine Rf_step a.n h0 p _ _ _ _ _ h ⟨rfl, fun j h1 h2 => ⟨fun _ => rfl, fun _ _ _ => rfl⟩⟩ (by simp)
end Go.Proofs.Ytciagkncanehfaa
