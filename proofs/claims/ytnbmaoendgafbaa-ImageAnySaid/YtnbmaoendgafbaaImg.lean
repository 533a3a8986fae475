/-
  Plain laws: what the functions compute, and that the laws say true. Conditions: none beyond each theorem's own.
-/
import Derived.Test.YtnbmaoendgafbaaPFe
import Derived.Test.YtnbmaoendgafbaaDb
set_option linter.unusedVariables false
set_option linter.unusedSimpArgs false
namespace Go.Proofs.PF
open Classical in
/-- A loop that ends with false at the first place that fails. -/
theorem loopO_all {f : Int → Option (Int ⊕ (Bool ⊕ Unit))} (n : Nat) (p : Nat → Prop)
    (h : ∀ k : Nat, k < n → f (k : Int) = some (if p k then .inl ((k : Int) + 1) else .inr (.inl false))) (he : f (n : Int) = some (.inr (.inr ()))) :
    loopO f 0 = some (if ∀ k, k < n → p k then .inr () else .inl false) := by
  have : ∀ m k : Nat, k + m = n → loopO f (k : Int) = some (if ∀ j, k ≤ j → j < n → p j then .inr () else .inl false) := by
    intro m
    induction m with
    | zero =>
      intro k hk
      have : k = n := by omega
      subst this
      rw [loopO_inr he, if_pos (fun j h1 h2 => absurd h1 (by omega))]
    | succ m ih =>
      intro k hk
      have h1 := h k (by omega)
      by_cases hp : p k
      · rw [if_pos hp] at h1
        rw [loopO_inl h1]
        have := ih (k + 1) (by omega)
        rw [show ((k : Int) + 1) = ((k + 1 : Nat) : Int) by omega, this]
        by_cases ha : ∀ j, k + 1 ≤ j → j < n → p j
        · rw [if_pos ha, if_pos]
          intro j h1 h2
          by_cases e : j = k
          · subst e; exact hp
          · exact ha j (by omega) h2
        · rw [if_neg ha, if_neg]
          intro hh
          exact ha fun j h1 h2 => hh j (by omega) h2
      · rw [if_neg hp] at h1
        rw [loopO_inr h1, if_neg]
        intro hh
        exact hp (hh k (Nat.le_refl _) (by omega))
  have := this n 0 (by omega)
  simpa using this
open Classical in
/-- A loop that ends with a value at the first place that holds. -/
theorem loopO_any {β : Type} {f : Int → Option (Int ⊕ (β ⊕ Unit))} (n : Nat) (p : Nat → Prop) (b : β)
    (h : ∀ k : Nat, k < n → f (k : Int) = some (if p k then .inr (.inl b) else .inl ((k : Int) + 1))) (he : f (n : Int) = some (.inr (.inr ()))) :
    loopO f 0 = some (if ∃ k, k < n ∧ p k then .inl b else .inr ()) := by
  have : ∀ m k : Nat, k + m = n → loopO f (k : Int) = some (if ∃ j, k ≤ j ∧ j < n ∧ p j then .inl b else .inr ()) := by
    intro m
    induction m with
    | zero =>
      intro k hk
      have : k = n := by omega
      subst this
      rw [loopO_inr he, if_neg (fun ⟨j, h1, h2, _⟩ => absurd h1 (by omega))]
    | succ m ih =>
      intro k hk
      have h1 := h k (by omega)
      by_cases hp : p k
      · rw [if_pos hp] at h1
        rw [loopO_inr h1, if_pos ⟨k, Nat.le_refl _, by omega, hp⟩]
      · rw [if_neg hp] at h1
        rw [loopO_inl h1]
        have := ih (k + 1) (by omega)
        rw [show ((k : Int) + 1) = ((k + 1 : Nat) : Int) by omega, this]
        by_cases ha : ∃ j, k + 1 ≤ j ∧ j < n ∧ p j
        · obtain ⟨j, h1, h2, h3⟩ := ha
          rw [if_pos ⟨j, h1, h2, h3⟩, if_pos ⟨j, by omega, h2, h3⟩]
        · rw [if_neg ha, if_neg]
          rintro ⟨j, h1, h2, h3⟩
          by_cases e : j = k
          · subst e; exact hp h3
          · exact ha ⟨j, by omega, h2, h3⟩
  have := this n 0 (by omega)
  simpa using this
/-- A list grown place by place. -/
theorem loopO_grow {α : Type} {f : List α × Int → Option ((List α × Int) ⊕ List α)} (n : Nat) (g : Nat → List α)
    (h : ∀ k : Nat, k < n → f ((List.range k).flatMap g, (k : Int)) = some (.inl ((List.range k).flatMap g ++ g k, (k : Int) + 1)))
    (he : f ((List.range n).flatMap g, (n : Int)) = some (.inr ((List.range n).flatMap g))) :
    loopO f ([], 0) = some ((List.range n).flatMap g) := by
  refine loopO_for (inv := fun k => ((List.range k).flatMap g, (k : Int))) n (fun k hk => ?_) he
  rw [h k hk]
  simp [List.range_succ]
theorem grow_len {α : Type} (g : Nat → List α) (m : Nat) (hg : ∀ k, (g k).length ≤ m) : ∀ k, ((List.range k).flatMap g).length ≤ k * m
  | 0 => by simp
  | k + 1 => by
    have := grow_len g m hg k
    have := hg k
    simp only [List.range_succ, List.flatMap_append, List.flatMap_cons, List.flatMap_nil, List.append_nil, List.length_append, Nat.add_mul, Nat.one_mul]
    omega
/-- A list turned place by place. -/
theorem loopO_turn {α : Type} {f : Int × List α → Option ((Int × List α) ⊕ List α)} (l : List α) (g : Nat → α)
    (h : ∀ (k : Nat) (pre post : List α) (x : α), k < l.length → pre.length = k → l[k]? = some x → f ((k : Int), pre ++ x :: post) = some (.inl ((k : Int) + 1, pre ++ g k :: post)))
    (he : ∀ l', f ((l.length : Int), l') = some (.inr l')) :
    loopO f (0, l) = some ((List.range l.length).map g) := by
  have : ∀ m k : Nat, k + m = l.length → loopO f ((k : Int), (List.range k).map g ++ l.drop k) = some ((List.range l.length).map g) := by
    intro m
    induction m with
    | zero =>
      intro k hk
      have hk : k = l.length := by omega
      subst hk
      rw [loopO_inr (he _)]
      simp
    | succ m ih =>
      intro k hk
      have hlt : k < l.length := by omega
      rw [List.drop_eq_getElem_cons hlt, loopO_inl (h k _ _ _ hlt (by simp) (List.getElem?_eq_getElem hlt))]
      have := ih (k + 1) (by omega)
      rw [List.range_succ, List.map_append] at this
      simpa using this
  have := this l.length 0 (by omega)
  simpa using this
theorem mod_mid {α : Type} (pre post : List α) (x : α) (k : Nat) (u : α → α) (hk : pre.length = k) : mod? (pre ++ x :: post) k u = some (pre ++ u x :: post) := by
  subst hk
  rw [mod_some _ _ _ (by simp)]
  simp
theorem idx_get {α : Type} {l : List α} {k : Nat} {x : α} (h : l[k]? = some x) : idx? l (k : Int) = some x := by
  obtain ⟨hk, e⟩ := List.getElem?_eq_some_iff.1 h
  rw [idx_nat _ _ hk, e]
open Classical in
theorem loopO_alls {α : Type} {f : Int → Option (Int ⊕ (Bool ⊕ Unit))} (l : List α) (p : α → Prop)
    (h : ∀ (k : Nat) (x : α), k < l.length → l[k]? = some x → f (k : Int) = some (if p x then .inl ((k : Int) + 1) else .inr (.inl false)))
    (he : f (l.length : Int) = some (.inr (.inr ()))) : loopO f 0 = some (if ∀ x ∈ l, p x then .inr () else .inl false) := by
  rw [loopO_all l.length (fun k => ∀ x, l[k]? = some x → p x) (fun k hk => ?_) he]
  · have : (∀ k, k < l.length → ∀ x, l[k]? = some x → p x) ↔ ∀ x ∈ l, p x := by
      constructor
      · intro h x hx
        obtain ⟨k, hk, e⟩ := List.getElem_of_mem hx
        exact h k hk x (List.getElem?_eq_some_iff.2 ⟨hk, e⟩)
      · intro h k hk x hx
        exact h x (List.mem_of_getElem? hx)
    by_cases hp : ∀ x ∈ l, p x
    · rw [if_pos hp, if_pos (this.2 hp)]
    · rw [if_neg hp, if_neg fun hh => hp (this.1 hh)]
  · have e := List.getElem?_eq_getElem hk
    rw [h k _ hk e]
    by_cases hp : p l[k]
    · rw [if_pos hp, if_pos (fun x hx => by rw [e] at hx; cases hx; exact hp)]
    · rw [if_neg hp, if_neg (fun hh => hp (hh _ e))]
open Classical in
theorem loopO_anys {α β : Type} {f : Int → Option (Int ⊕ (β ⊕ Unit))} (l : List α) (p : α → Prop) (b : β)
    (h : ∀ (k : Nat) (x : α), k < l.length → l[k]? = some x → f (k : Int) = some (if p x then .inr (.inl b) else .inl ((k : Int) + 1)))
    (he : f (l.length : Int) = some (.inr (.inr ()))) : loopO f 0 = some (if ∃ x ∈ l, p x then .inl b else .inr ()) := by
  rw [loopO_any l.length (fun k => ∃ x, l[k]? = some x ∧ p x) b (fun k hk => ?_) he]
  · have : (∃ k, k < l.length ∧ ∃ x, l[k]? = some x ∧ p x) ↔ ∃ x ∈ l, p x := by
      constructor
      · rintro ⟨k, hk, x, hx, hp⟩
        exact ⟨x, List.mem_of_getElem? hx, hp⟩
      · rintro ⟨x, hx, hp⟩
        obtain ⟨k, hk, e⟩ := List.getElem_of_mem hx
        exact ⟨k, hk, x, List.getElem?_eq_some_iff.2 ⟨hk, e⟩, hp⟩
    by_cases hp : ∃ x ∈ l, p x
    · rw [if_pos hp, if_pos (this.2 hp)]
    · rw [if_neg hp, if_neg fun hh => hp (this.1 hh)]
  · have e := List.getElem?_eq_getElem hk
    rw [h k _ hk e]
    by_cases hp : p l[k]
    · rw [if_pos hp, if_pos ⟨_, e, hp⟩]
    · rw [if_neg hp, if_neg]
      rintro ⟨x, hx, hh⟩
      rw [e] at hx; cases hx; exact hp hh
/-- A list grown out of another one's places, from a place on. -/
theorem loopO_growl {α β : Type} {f : List β × Int → Option ((List β × Int) ⊕ List β)} (l : List α) (g : α → List β) (hg : ∀ x, (g x).length ≤ 1)
    (h : ∀ (k : Nat) (x : α) (out : List β), k < l.length → l[k]? = some x → out.length ≤ k → f (out, (k : Int)) = some (.inl (out ++ g x, (k : Int) + 1)))
    (he : ∀ out, f (out, (l.length : Int)) = some (.inr out)) :
    ∀ (m k : Nat) (out : List β), k + m = l.length → out.length ≤ k → loopO f (out, (k : Int)) = some (out ++ (l.drop k).flatMap g)
  | 0, k, out, hk, ho => by
    have hk : k = l.length := by omega
    subst hk
    rw [loopO_inr (he _)]; simp
  | m + 1, k, out, hk, ho => by
    have hlt : k < l.length := by omega
    rw [loopO_inl (h k _ _ hlt (List.getElem?_eq_getElem hlt) ho), List.drop_eq_getElem_cons hlt, List.flatMap_cons]
    have := loopO_growl l g hg h he m (k + 1) (out ++ g l[k]) (by omega) (by have := hg l[k]; simp only [List.length_append]; omega)
    rw [show ((k : Int) + 1) = ((k + 1 : Nat) : Int) by omega, this, List.append_assoc]
open Classical in
/-- Two lists held against one another. -/
theorem loopO_eqs {α : Type} {f : Int → Option (Int ⊕ (Bool ⊕ Unit))} (l1 l2 : List α) (hl : l1.length = l2.length)
    (h : ∀ (k : Nat) (x y : α), k < l1.length → l1[k]? = some x → l2[k]? = some y → f (k : Int) = some (if x = y then .inl ((k : Int) + 1) else .inr (.inl false)))
    (he : f (l1.length : Int) = some (.inr (.inr ()))) : loopO f 0 = some (if l1 = l2 then .inr () else .inl false) := by
  have e := loopO_all (f := f) l1.length (fun k => l1[k]? = l2[k]?) (fun k hk => ?_) he
  · rw [e]
    by_cases hh : l1 = l2
    · subst hh
      rw [if_pos rfl, if_pos fun k hk => rfl]
    · rw [if_neg hh, if_neg]
      intro ha
      apply hh
      apply List.ext_getElem hl
      intro k h1 h2
      have := ha k h1
      rw [List.getElem?_eq_getElem h1, List.getElem?_eq_getElem h2] at this
      exact Option.some.inj this
  · have h1 := List.getElem?_eq_getElem hk
    have h2 := List.getElem?_eq_getElem (show k < l2.length by omega)
    rw [h k _ _ hk h1 h2, h1, h2]
    by_cases hh : l1[k] = l2[k]
    · rw [if_pos hh, if_pos (by rw [hh])]
    · rw [if_neg hh, if_neg (fun e => hh (Option.some.inj e))]
end Go.Proofs.PF


set_option linter.unusedVariables false
set_option linter.unusedSimpArgs false
namespace Go.Proofs.Ytnbmaoendgafbaa
open Go.Proofs.PF
def I (n : Int) : Prop := -9223372036854775808 ≤ n ∧ n ≤ 9223372036854775807
structure CIn (c : GConf) : Prop where
  n : I c.N
  f : I c.F
  d : I c.D
  period : I c.Period
  rate : I c.Rate
  drift : I c.Drift
  table : (c.Table.length : Int) ≤ 9223372036854775807
  own : ∀ x ∈ c.Table, I x
def Nodes (c : GConf) : Prop := 4 ≤ c.N ∧ c.N ≤ 13 ∧ 0 ≤ c.F ∧ c.F ≤ 4 ∧ 3 * c.F < c.N
instance (c : GConf) : Decidable (Nodes c) := by unfold Nodes; infer_instance
def Links (c : GConf) : Prop := 1 ≤ c.D ∧ c.D ≤ 4
instance (c : GConf) : Decidable (Links c) := by unfold Links; infer_instance
def Nums (c : GConf) : Prop := 6 * (c.F + 1) * c.D + 1 ≤ c.Period ∧ c.Period ≤ 400 ∧ 1 ≤ c.Rate ∧ c.Rate ≤ 64 ∧ 0 ≤ c.Drift ∧ c.Drift ≤ c.Rate - 1 ∧ 0 ≤ c.Offset ∧ c.Offset ≤ 30000 ∧ 1 ≤ c.Slot ∧ c.Slot ≤ 30000 ∧ 2 ≤ c.Mod ∧ c.Mod ≤ 250 ∧ 1 ≤ c.Fresh ∧ c.Fresh ≤ 100
instance (c : GConf) : Decidable (Nums c) := by unfold Nums; infer_instance
def Owned (c : GConf) : Prop := 1 ≤ c.Table.length ∧ c.Table.length ≤ 32 ∧ (∀ x ∈ c.Table, 0 ≤ x ∧ x < c.N) ∧ ∀ k : Nat, (k : Int) < c.N → (k : Int) ∈ c.Table
open Classical in
noncomputable def plainV (c : GConf) : Int := if ¬ Nodes c then 7 else if ¬ Links c then 10 else if ¬ Nums c then 8 else if ¬ Owned c then 11 else 0
theorem has_eq (s : Gconf_span) (n : Int) : conf_span_has s n = some (decide (s.f_low ≤ n ∧ n ≤ s.f_high)) := by
  unfold conf_span_has
  split <;> simp [*]
theorem within_eq (n a b : Int) : r03_within n a b = some (decide (a ≤ n ∧ n ≤ b)) := by
  unfold r03_within
  split <;> simp [*]
theorem some_dec {b : Bool} {p : Prop} [Decidable p] (h : b = true ↔ p) : some b = some (decide p) := by
  by_cases hp : p
  · rw [h.2 hp, decide_eq_true hp]
  · rw [decide_eq_false hp]
    cases b
    · rfl
    · exact absurd (h.1 rfl) hp
theorem nodes_eq (c : GConf) : conf_nodes c = some (decide (Nodes c)) := by
  unfold conf_nodes
  simp only [has_eq, Option.bind_some, decide_eq_true_eq]
  split
  · rename_i h1
    split
    · rename_i h2
      rw [wr_eq (show -9223372036854775808 ≤ 3 * c.F ∧ 3 * c.F ≤ 9223372036854775807 by omega)]
      refine some_dec ?_
      simp only [decide_eq_true_eq]
      unfold Nodes; omega
    · rename_i h2
      refine some_dec ?_
      unfold Nodes; simp; omega
  · rename_i h1
    refine some_dec ?_
    unfold Nodes; simp; omega
theorem wrI {n : Int} (h : -9223372036854775808 ≤ n) (h' : n ≤ 9223372036854775807) : wr n = n := wr_eq ⟨h, h'⟩
theorem low_eq (c : GConf) (hn : Nodes c) (hl : Links c) : wr (wr (wr (6 * wr (c.F + 1)) * c.D) + 1) = 6 * (c.F + 1) * c.D + 1 := by
  obtain ⟨_, _, f0, f4, _⟩ := hn
  obtain ⟨d0, d4⟩ := hl
  rw [wrI (n := c.F + 1) (by omega) (by omega), wrI (n := 6 * (c.F + 1)) (by omega) (by omega)]
  have h1 : 6 * (c.F + 1) * c.D ≤ 30 * 4 := Int.mul_le_mul (by omega) d4 (by omega) (by omega)
  have h2 : 0 ≤ 6 * (c.F + 1) * c.D := Int.mul_nonneg (by omega) (by omega)
  rw [wrI (n := 6 * (c.F + 1) * c.D) (by omega) (by omega), wrI (by omega) (by omega)]
theorem numbers_eq (c : GConf) (hc : CIn c) (hn : Nodes c) (hl : Links c) : conf_numbers c = some (decide (Nums c)) := by
  unfold conf_numbers
  simp only [low_eq c hn hl]
  have hr : 1 ≤ c.Rate ∧ c.Rate ≤ 64 ∨ ¬ (1 ≤ c.Rate ∧ c.Rate ≤ 64) := by omega
  have hw : wr (c.Rate - 1) = c.Rate - 1 ∨ ¬ (1 ≤ c.Rate ∧ c.Rate ≤ 64) := by
    rcases hr with h | h
    · exact .inl (wrI (by omega) (by omega))
    · exact .inr h
  generalize wr (c.Rate - 1) = w at hw
  have hiff : (∀ z ∈ [Gs_nI_spanG.mk c.Period ⟨6 * (c.F + 1) * c.D + 1, 400⟩, ⟨c.Rate, ⟨1, 64⟩⟩, ⟨c.Drift, ⟨0, w⟩⟩, ⟨c.Offset, ⟨0, 30000⟩⟩, ⟨c.Slot, ⟨1, 30000⟩⟩, ⟨c.Mod, ⟨2, 250⟩⟩, ⟨c.Fresh, ⟨1, 100⟩⟩], z.f_span.f_low ≤ z.f_n ∧ z.f_n ≤ z.f_span.f_high) ↔ Nums c := by
    simp only [List.mem_cons, List.not_mem_nil, or_false, forall_eq_or_imp, forall_eq, Nums]
    omega
  have hlen : [Gs_nI_spanG.mk c.Period ⟨6 * (c.F + 1) * c.D + 1, 400⟩, ⟨c.Rate, ⟨1, 64⟩⟩, ⟨c.Drift, ⟨0, w⟩⟩, ⟨c.Offset, ⟨0, 30000⟩⟩, ⟨c.Slot, ⟨1, 30000⟩⟩, ⟨c.Mod, ⟨2, 250⟩⟩, ⟨c.Fresh, ⟨1, 100⟩⟩].length = 7 := rfl
  generalize [Gs_nI_spanG.mk c.Period ⟨6 * (c.F + 1) * c.D + 1, 400⟩, ⟨c.Rate, ⟨1, 64⟩⟩, ⟨c.Drift, ⟨0, w⟩⟩, ⟨c.Offset, ⟨0, 30000⟩⟩, ⟨c.Slot, ⟨1, 30000⟩⟩, ⟨c.Mod, ⟨2, 250⟩⟩, ⟨c.Fresh, ⟨1, 100⟩⟩] = l at hiff hlen
  unfold conf_numbers_0
  rw [loopO_alls (f := fun s : Int => conf_numbers_0_step l l.length c s) l (fun z => z.f_span.f_low ≤ z.f_n ∧ z.f_n ≤ z.f_span.f_high)
    (fun k z hk hz => by
      unfold conf_numbers_0_step
      rw [if_pos (by omega), idx_get hz, Option.bind_some, has_eq, Option.bind_some, wrI (by omega) (by omega)]
      by_cases h : z.f_span.f_low ≤ z.f_n ∧ z.f_n ≤ z.f_span.f_high
      · rw [decide_eq_true h, if_neg (by decide), if_pos h]
      · rw [decide_eq_false h, if_pos (by decide), if_neg h])
    (by unfold conf_numbers_0_step; rw [if_neg (by omega)]), Option.bind_some]
  by_cases h : Nums c
  · rw [if_pos (hiff.2 h)]; simp [h]
  · rw [if_neg (fun hh => h (hiff.1 hh))]; simp [h]
end Go.Proofs.Ytnbmaoendgafbaa

set_option linter.unusedVariables false
set_option linter.unusedSimpArgs false
namespace Go.Proofs.Ytnbmaoendgafbaa
open Go.Proofs.PF
def at13 (x : Ar13 Int) (k : Nat) : Int := (x.get? k).getD 0
theorem lt13 {k : Nat} (h : k < 13) : k = 0 ∨ k = 1 ∨ k = 2 ∨ k = 3 ∨ k = 4 ∨ k = 5 ∨ k = 6 ∨ k = 7 ∨ k = 8 ∨ k = 9 ∨ k = 10 ∨ k = 11 ∨ k = 12 := by omega
theorem get13 (x : Ar13 Int) (k : Nat) (h : k < 13) : x.get? k = some (at13 x k) := by
  rcases lt13 h with e | e | e | e | e | e | e | e | e | e | e | e | e <;> subst e <;> rfl
theorem set13 (x : Ar13 Int) (k : Nat) (v : Int) (h : k < 13) : ∃ y, x.set? k v = some y ∧ ∀ j, j < 13 → at13 y j = if j = k then v else at13 x j := by
  rcases lt13 h with e | e | e | e | e | e | e | e | e | e | e | e | e <;> subst e <;>
    exact ⟨_, rfl, fun j hj => by rcases lt13 hj with e | e | e | e | e | e | e | e | e | e | e | e | e <;> subst e <;> rfl⟩
theorem eta13 (x : Ar13 Int) : Ar13.mk x.a0 x.a1 x.a2 x.a3 x.a4 x.a5 x.a6 x.a7 x.a8 x.a9 x.a10 x.a11 x.a12 = x := rfl
theorem table0 (c : GConf) (sl : Gconf_span) (hn : c.N ≤ 13) (ht : c.Table.length ≤ 32) : ∀ (m k : Nat) (o : Ar13 Int), k + m = c.Table.length →
    (∀ j, j < 13 → at13 o j = ((c.Table.take k).countP (fun x => x == (j : Int)) : Nat)) →
    ∃ r, loopO (fun s : Int × (Ar13 Int) => conf_table_0_step c.Table c.Table.length sl c s.1 s.2) ((k : Int), o) = some r ∧
      ((∃ x ∈ c.Table.drop k, ¬ (0 ≤ x ∧ x < c.N)) → ∃ o', r = .inl (false, o')) ∧
      ((∀ x ∈ c.Table.drop k, 0 ≤ x ∧ x < c.N) → ∃ o', r = .inr o' ∧ ∀ j, j < 13 → at13 o' j = (c.Table.countP (fun x => x == (j : Int)) : Nat))
  | 0, k, o, hk, ho => by
    have hk : k = c.Table.length := by omega
    subst hk
    refine ⟨.inr o, loopO_inr ?_, fun h => ?_, fun _ => ⟨o, rfl, fun j hj => ?_⟩⟩
    · simp only [conf_table_0_step]; rw [if_neg (by omega)]
    · simp at h
    · rw [ho j hj, List.take_length]
  | m + 1, k, o, hk, ho => by
    have hlt : k < c.Table.length := by omega
    have hg := List.getElem?_eq_getElem hlt
    have hd := List.drop_eq_getElem_cons hlt
    generalize hx : c.Table[k] = x at hg hd
    have hstep : conf_table_0_step c.Table c.Table.length sl c (k : Int) o = if x < 0 then some (.inr (.inl (false, o))) else if c.N ≤ x then some (.inr (.inl (false, o))) else
        if 0 ≤ x ∧ x < (13 : Nat) then (Ar13.get? o (Int.toNat x)).bind fun z2 => if 0 ≤ x ∧ x < (13 : Nat) then (Ar13.set? o (Int.toNat x) (wr (z2 + 1))).bind fun y0 => some (.inl ((wr ((k : Int) + 1)), y0)) else none else none := by
      unfold conf_table_0_step
      rw [if_pos (by omega), idx_get hg, Option.bind_some, eta13]
    by_cases hok : 0 ≤ x ∧ x < c.N
    · rw [if_neg (by omega), if_neg (by omega), if_pos (by omega), get13 _ _ (by omega), Option.bind_some, if_pos (by omega), wrI (n := (k : Int) + 1) (by omega) (by omega)] at hstep
      have hw : wr (at13 o x.toNat + 1) = at13 o x.toNat + 1 := by
        rw [ho _ (by omega)]
        have := List.countP_le_length (p := fun y => y == ((x.toNat : Nat) : Int)) (l := c.Table.take k)
        simp only [List.length_take] at this
        exact wrI (by omega) (by omega)
      rw [hw] at hstep
      obtain ⟨y, hy, hyj⟩ := set13 o x.toNat (at13 o x.toNat + 1) (by omega)
      rw [hy, Option.bind_some] at hstep
      have ih := table0 c sl hn ht m (k + 1) y (by omega) (fun j hj => by
        rw [hyj j hj, List.take_add_one, hg, List.countP_append, ho j hj]
        have hx' : ((x.toNat : Nat) : Int) = x := Int.toNat_of_nonneg hok.1
        by_cases e : j = x.toNat
        · subst e
          rw [if_pos rfl, ho _ hj]
          simp [hx']
        · rw [if_neg e]
          have : ¬ x = (j : Int) := by omega
          simp [this])
      rw [loopO_inl (t := (((k + 1 : Nat) : Int), y)) (by simpa using hstep)]
      obtain ⟨r, h1, h2, h3⟩ := ih
      refine ⟨r, h1, fun ⟨z, hz, hzz⟩ => h2 ⟨z, ?_, hzz⟩, fun h => h3 fun z hz => h z ?_⟩
      · rw [hd] at hz
        rcases List.mem_cons.1 hz with e | e
        · subst e; exact absurd hok hzz
        · exact e
      · rw [hd]; exact List.mem_cons_of_mem _ hz
    · refine ⟨.inl (false, o), loopO_inr ?_, fun _ => ⟨o, rfl⟩, fun h => absurd (h x (by rw [hd]; simp)) hok⟩
      show conf_table_0_step c.Table c.Table.length sl c (k : Int) o = _
      rw [hstep]
      by_cases h0 : x < 0
      · rw [if_pos h0]
      · rw [if_neg h0, if_pos (by omega)]
theorem table_eq (c : GConf) (hn : Nodes c) : conf_table c = some (@decide (Owned c) (Classical.propDecidable _)) := by
  classical
  have hb : (Classical.propDecidable (Owned c)) = (Classical.propDecidable (Owned c)) := rfl
  unfold conf_table
  rw [has_eq, Option.bind_some]
  by_cases hl : (1 : Int) ≤ c.Table.length ∧ (c.Table.length : Int) ≤ 32
  · rw [decide_eq_true (show _ from hl), if_neg (by decide)]
    have h13 : c.N ≤ 13 := hn.2.1
    have h4 : 4 ≤ c.N := hn.1
    obtain ⟨r, h1, h2, h3⟩ := table0 c ⟨1, 32⟩ h13 (by omega) c.Table.length 0 (Ar13.mk 0 0 0 0 0 0 0 0 0 0 0 0 0) (by omega) (fun j hj => by
      rcases lt13 hj with e | e | e | e | e | e | e | e | e | e | e | e | e <;> subst e <;> rfl)
    have e0 : conf_table_0 c.Table (c.Table.length : Int) ⟨1, 32⟩ c 0 (Ar13.mk 0 0 0 0 0 0 0 0 0 0 0 0 0) = some r := h1
    rw [e0, Option.bind_some]
    by_cases ha : ∀ x ∈ c.Table, 0 ≤ x ∧ x < c.N
    · obtain ⟨o, ho, hj⟩ := h3 (by simpa using ha)
      subst ho
      simp only [Sum.elim_inr]
      rw [if_pos (by omega)]
      have e1 := loopO_all (f := fun s => conf_table_1_step (c.N.toNat - 0) ((c.N.toNat - 0 : Nat) : Int) o ⟨1, 32⟩ c s) c.N.toNat (fun k => (k : Int) ∈ c.Table) (fun k hk => ?_) ?_
      rotate_left
      · simp only [conf_table_1_step]
        rw [if_pos (by omega), if_pos (by omega), eta13, Int.toNat_natCast, get13 _ _ (by omega), Option.bind_some, wrI (by omega) (by omega), hj k (by omega)]
        have : (((c.Table.countP (fun x => x == (k : Int)) : Nat) : Int) = 0) ↔ ¬ (k : Int) ∈ c.Table := by
          rw [← List.count_eq_countP, Int.natCast_eq_zero, List.count_eq_zero]
        by_cases hm : (k : Int) ∈ c.Table
        · rw [if_neg (fun h => this.1 h hm), if_pos hm]
        · rw [if_pos (this.2 hm), if_neg hm]
      · simp only [conf_table_1_step]
        rw [if_neg (by omega)]
      unfold conf_table_1
      rw [e1, Option.bind_some]
      by_cases hk : ∀ k, k < c.N.toNat → (k : Int) ∈ c.Table
      · rw [if_pos hk]
        refine some_dec ⟨fun _ => ⟨by omega, by omega, ha, fun k h => hk k (by omega)⟩, fun _ => rfl⟩
      · rw [if_neg hk]
        refine some_dec ⟨fun h => Bool.noConfusion h, fun h => absurd (fun k hk' => h.2.2.2 k (by omega)) hk⟩
    · obtain ⟨o, ho⟩ := h2 (by
        simp only [List.drop_zero]
        exact Classical.not_forall.1 ha |>.elim fun x hx => ⟨x, (Classical.not_imp.1 hx).1, (Classical.not_imp.1 hx).2⟩)
      subst ho
      exact some_dec ⟨fun h => Bool.noConfusion h, fun h => absurd h.2.2.1 ha⟩
  · rw [decide_eq_false (show ¬ _ from hl), if_pos (by decide)]
    exact some_dec ⟨fun h => Bool.noConfusion h, fun h => absurd ⟨by have := h.1; omega, by have := h.2.1; omega⟩ hl⟩
theorem conf_plain (c : GConf) (hc : CIn c) : conf_Plain c = some (plainV c) := by
  classical
  unfold conf_Plain plainV
  rw [nodes_eq, Option.bind_some]
  by_cases hn : Nodes c
  · rw [decide_eq_true hn, if_neg (by decide), if_neg (fun h => h hn), has_eq, Option.bind_some]
    by_cases hl : Links c
    · rw [show decide (1 ≤ c.D ∧ c.D ≤ 4) = true from decide_eq_true hl, if_neg (by decide), if_neg (fun h => h hl), numbers_eq c hc hn hl, Option.bind_some]
      by_cases hu : Nums c
      · rw [decide_eq_true hu, if_neg (by decide), if_neg (fun h => h hu), table_eq c hn, Option.bind_some]
        by_cases ho : Owned c
        · rw [@decide_eq_true _ (Classical.propDecidable _) ho, if_neg (by decide), if_neg (fun h => h ho)]
        · rw [@decide_eq_false _ (Classical.propDecidable _) ho, if_pos (by decide), if_pos ho]
      · rw [decide_eq_false hu, if_pos (by decide), if_pos hu]
    · rw [show decide (1 ≤ c.D ∧ c.D ≤ 4) = false from decide_eq_false hl, if_pos (by decide), if_pos hl]
  · rw [decide_eq_false hn, if_pos (by decide), if_pos hn]
theorem owned1 (n : Int) (c : GConf) (hl : c.Table.length ≤ 32) : r03_owned_1 n c false 0 = some (decide (n ∈ c.Table)) := by
  have h := loopO_for (f := fun s : Bool × Int => r03_owned_1_step n c s.1 s.2) (inv := fun k => (decide (n ∈ c.Table.take k), (k : Int))) c.Table.length (r := decide (n ∈ c.Table)) (fun k hk => ?_) ?_
  · exact h
  · have hg := List.getElem?_eq_getElem hk
    simp only [r03_owned_1_step]
    have ht : n ∈ c.Table.take (k + 1) ↔ n ∈ c.Table.take k ∨ c.Table[k] = n := by
      rw [List.take_add_one, hg, List.mem_append]
      simp only [Option.toList_some, List.mem_singleton, eq_comm]
    rw [if_pos (by omega), wrI (by omega) (by omega), idx_get hg, Option.bind_some]
    by_cases hm : n ∈ c.Table.take k
    · simp only [hm, ht, decide_true, if_true, true_or, Int.natCast_add, Int.cast_ofNat_Int]
    · simp only [hm, ht, decide_false, false_or, Int.natCast_add, Int.cast_ofNat_Int]; rw [if_neg (by decide)]
  · simp only [r03_owned_1_step]
    rw [if_neg (by omega), List.take_length]
theorem owned_eq (c : GConf) (hn : Nodes c) (hl : (1 : Int) ≤ c.Table.length ∧ (c.Table.length : Int) ≤ 32) : r03_owned c = some (@decide (Owned c) (Classical.propDecidable _)) := by
  classical
  have h13 : c.N ≤ 13 := hn.2.1
  have h4 : 4 ≤ c.N := hn.1
  have e0 := loopO_alls (f := fun s => r03_owned_0_step c s) c.Table (fun x => 0 ≤ x ∧ x < c.N) (fun k x hk hx => ?_) ?_
  rotate_left
  · simp only [r03_owned_0_step]
    rw [if_pos (by omega), idx_get hx, Option.bind_some, within_eq, Option.bind_some, wrI (n := c.N - 1) (by omega) (by omega), wrI (by omega) (by omega)]
    by_cases h : 0 ≤ x ∧ x < c.N
    · rw [decide_eq_true (by omega), if_neg (by decide), if_pos h]
    · rw [decide_eq_false (by omega), if_pos (by decide), if_neg h]
  · simp only [r03_owned_0_step]
    rw [if_neg (by omega)]
  have e1 := loopO_all (f := fun s => r03_owned_2_step c s) c.N.toNat (fun k => (k : Int) ∈ c.Table) (fun k hk => ?_) ?_
  rotate_left
  · simp only [r03_owned_2_step]
    rw [if_pos (by omega), owned1 _ _ (by omega), Option.bind_some, wrI (by omega) (by omega)]
    by_cases h : (k : Int) ∈ c.Table
    · rw [decide_eq_true h, if_neg (by decide), if_pos h]
    · rw [decide_eq_false h, if_pos (by decide), if_neg h]
  · simp only [r03_owned_2_step]
    rw [if_neg (by omega)]
  unfold r03_owned r03_owned_0 r03_owned_2
  rw [e0, Option.bind_some]
  by_cases ha : ∀ x ∈ c.Table, 0 ≤ x ∧ x < c.N
  · rw [if_pos ha]
    simp only [Sum.elim_inr]
    rw [e1, Option.bind_some]
    by_cases hk : ∀ k, k < c.N.toNat → (k : Int) ∈ c.Table
    · rw [if_pos hk]
      exact some_dec ⟨fun _ => ⟨by omega, by omega, ha, fun k h => hk k (by omega)⟩, fun _ => rfl⟩
    · rw [if_neg hk]
      exact some_dec ⟨fun h => Bool.noConfusion h, fun h => absurd (fun k hk' => h.2.2.2 k (by omega)) hk⟩
  · rw [if_neg ha]
    exact some_dec ⟨fun h => Bool.noConfusion h, fun h => absurd h.2.2.1 ha⟩
theorem r03_plain (c : GConf) (hc : CIn c) : r03_Plain c = some (plainV c) := by
  classical
  unfold r03_Plain plainV
  simp only [within_eq, Option.bind_some]
  have ite_not {p : Prop} [Decidable p] {α : Type} (x y : α) : (if (!decide p) = true then x else y) = if p then y else x := by
    by_cases h : p <;> simp [h]
  simp only [ite_not]
  by_cases hn : Nodes c
  · have hw : wr (3 * c.F) = 3 * c.F := wrI (by have := hn.2.2.1; omega) (by have := hn.2.2.2.1; omega)
    rw [if_pos (show 4 ≤ c.N ∧ c.N ≤ 13 from ⟨hn.1, hn.2.1⟩), if_pos (show 0 ≤ c.F ∧ c.F ≤ 4 from ⟨hn.2.2.1, hn.2.2.2.1⟩), hw, if_neg (by have := hn.2.2.2.2; omega), if_neg (show ¬ ¬ Nodes c from fun h => h hn)]
    by_cases hl : Links c
    · rw [if_pos (show 1 ≤ c.D ∧ c.D ≤ 4 from hl), if_neg (show ¬ ¬ Links c from fun h => h hl), low_eq c hn hl]
      by_cases hu : Nums c
      · have hu' := hu
        obtain ⟨a1, a2, b1, b2, c1, c2, d1, d2, e1, e2, f1, f2, g1, g2⟩ := hu'
        rw [if_pos ⟨a1, a2⟩, if_pos ⟨b1, b2⟩, wrI (n := c.Rate - 1) (by omega) (by omega), if_pos ⟨c1, c2⟩, if_pos ⟨d1, d2⟩, if_pos ⟨e1, e2⟩, if_pos ⟨f1, f2⟩, if_pos ⟨g1, g2⟩, if_neg (show ¬ ¬ Nums c from fun h => h hu)]
        by_cases ht : (1 : Int) ≤ c.Table.length ∧ (c.Table.length : Int) ≤ 32
        · rw [if_pos ht, owned_eq c hn ht, Option.bind_some]
          by_cases ho : Owned c
          · rw [@decide_eq_true _ (Classical.propDecidable _) ho, if_neg (by decide), if_neg (show ¬ ¬ Owned c from fun h => h ho)]
          · rw [@decide_eq_false _ (Classical.propDecidable _) ho, if_pos (by decide), if_pos (show ¬ Owned c from ho)]
        · rw [if_neg ht, if_pos]
          intro h; exact ht ⟨by have := h.1; omega, by have := h.2.1; omega⟩
      · rw [if_pos (show ¬ Nums c from hu)]
        by_cases h1 : 6 * (c.F + 1) * c.D + 1 ≤ c.Period ∧ c.Period ≤ 400
        · rw [if_pos h1]
          by_cases h2 : 1 ≤ c.Rate ∧ c.Rate ≤ 64
          · rw [if_pos h2, wrI (n := c.Rate - 1) (by omega) (by omega)]
            by_cases h3 : 0 ≤ c.Drift ∧ c.Drift ≤ c.Rate - 1
            · rw [if_pos h3]
              by_cases h4 : 0 ≤ c.Offset ∧ c.Offset ≤ 30000
              · rw [if_pos h4]
                by_cases h5 : 1 ≤ c.Slot ∧ c.Slot ≤ 30000
                · rw [if_pos h5]
                  by_cases h6 : 2 ≤ c.Mod ∧ c.Mod ≤ 250
                  · rw [if_pos h6]
                    by_cases h7 : 1 ≤ c.Fresh ∧ c.Fresh ≤ 100
                    · exact absurd ⟨h1.1, h1.2, h2.1, h2.2, h3.1, h3.2, h4.1, h4.2, h5.1, h5.2, h6.1, h6.2, h7.1, h7.2⟩ hu
                    · rw [if_neg h7]
                  · rw [if_neg h6]
                · rw [if_neg h5]
              · rw [if_neg h4]
            · rw [if_neg h3]
          · rw [if_neg h2]
        · rw [if_neg h1]
    · rw [if_neg (show ¬ (1 ≤ c.D ∧ c.D ≤ 4) from hl), if_pos (show ¬ Links c from hl)]
  · rw [if_pos (show ¬ Nodes c from hn)]
    by_cases h1 : 4 ≤ c.N ∧ c.N ≤ 13
    · rw [if_pos h1]
      by_cases h2 : 0 ≤ c.F ∧ c.F ≤ 4
      · rw [if_pos h2, wrI (n := 3 * c.F) (by omega) (by omega), if_pos]
        have : ¬ 3 * c.F < c.N := fun h => hn ⟨h1.1, h1.2, h2.1, h2.2, h⟩
        omega
      · rw [if_neg h2]
    · rw [if_neg h1]
/-- A conf that is plain. -/
def Pl (c : GConf) : Prop := Nodes c ∧ Links c ∧ Nums c ∧ Owned c
theorem plain_zero (c : GConf) : plainV c = 0 ↔ Pl c := by
  classical
  unfold plainV Pl
  by_cases h1 : Nodes c <;> by_cases h2 : Links c <;> by_cases h3 : Nums c <;> by_cases h4 : Owned c <;> simp [h1, h2, h3, h4]
end Go.Proofs.Ytnbmaoendgafbaa

set_option linter.unusedVariables false
set_option linter.unusedSimpArgs false
namespace Go.Proofs.Ytnbmaoendgafbaa
open Go.Proofs.PF
def lenV (c : GConf) : Int := 3 * (c.F + 1) * c.D
theorem lenV_in (c : GConf) (hp : Pl c) : 3 ≤ lenV c ∧ lenV c ≤ 60 := by
  obtain ⟨⟨_, _, f0, f4, _⟩, ⟨d0, d4⟩, _⟩ := hp
  unfold lenV
  have h1 : 3 * (c.F + 1) * c.D ≤ 15 * 4 := Int.mul_le_mul (by omega) d4 (by omega) (by omega)
  have h2 : 3 * 1 ≤ 3 * (c.F + 1) * c.D := Int.mul_le_mul (by omega) d0 (by omega) (by omega)
  omega
theorem length_eq (c : GConf) (hc : CIn c) (hp : Pl c) : conf_Length c = some (lenV c) := by
  have hl := lenV_in c hp
  have h0 := (plain_zero c).2 hp
  obtain ⟨⟨_, _, f0, f4, _⟩, ⟨d0, d4⟩, _⟩ := hp
  unfold conf_Length conf_Rounds
  rw [conf_plain c hc, Option.bind_some, h0, if_neg (by decide), wrI (n := c.F + 1) (by omega) (by omega), wrI (n := 3 * (c.F + 1)) (by omega) (by omega), Option.bind_some]
  rw [show max c.D 0 = c.D by omega]
  unfold lenV at hl ⊢
  rw [wrI (by omega) (by omega)]
theorem length_eq' (c : GConf) (hc : CIn c) (hp : Pl c) : r03_Length c = some (lenV c) := by
  have hl := lenV_in c hp
  have h0 := (plain_zero c).2 hp
  obtain ⟨⟨_, _, f0, f4, _⟩, ⟨d0, d4⟩, _⟩ := hp
  unfold r03_Length
  rw [r03_plain c hc, Option.bind_some, h0, if_neg (by decide), wrI (n := c.F + 1) (by omega) (by omega), wrI (n := 3 * (c.F + 1)) (by omega) (by omega)]
  unfold lenV at hl ⊢
  rw [wrI (by omega) (by omega)]
theorem bits_eq (c : GConf) (hc : CIn c) (hp : Pl c) : conf_Bits c = some (8 + c.N) := by
  have h0 := (plain_zero c).2 hp
  obtain ⟨⟨_, _, f0, f4, _⟩, ⟨d0, d4⟩, _⟩ := hp
  unfold conf_Bits
  rw [conf_plain c hc, Option.bind_some, h0, if_neg (by decide), wrI (by omega) (by omega)]
theorem bits_eq' (c : GConf) (hc : CIn c) (hp : Pl c) : r03_Bits c = some (8 + c.N) := by
  have h0 := (plain_zero c).2 hp
  obtain ⟨⟨_, _, f0, f4, _⟩, ⟨d0, d4⟩, _⟩ := hp
  unfold r03_Bits
  rw [r03_plain c hc, Option.bind_some, h0, if_neg (by decide), wrI (by omega) (by omega)]
theorem mod_eq (n b : Int) (hb : 1 ≤ b) (hb' : b ≤ 9223372036854775807) : num_Mod n b = some (n % b) := by
  unfold num_Mod
  rw [if_neg (by omega), if_neg (by omega)]
  have h1 : Int.tmod n b = n % b ∨ (Int.tmod n b < 0 ∧ Int.tmod n b + b = n % b) := by
    have := Int.tmod_eq_emod (a := n) (b := b)
    have h2 := Int.emod_nonneg n (show b ≠ 0 by omega)
    have h3 := Int.emod_lt_of_pos n (show 0 < b by omega)
    split at this
    · exact .inl (by simpa using this)
    · exact .inr ⟨by omega, by omega⟩
  have h2 := Int.emod_nonneg n (show b ≠ 0 by omega)
  have h3 := Int.emod_lt_of_pos n (show 0 < b by omega)
  rcases h1 with h | ⟨h, h'⟩
  · rw [if_neg (by omega), h]
  · rw [if_pos h, wrI (by omega) (by omega), h']
theorem mod_eq' (n b : Int) (hb : 1 ≤ b) (hb' : b ≤ 9223372036854775807) : r01_Mod n b = some (n % b) := mod_eq n b hb hb'
theorem put_eq (n : Int) : ring_Put n = some (n % 65536) := by
  unfold ring_Put ring_put
  rw [mod_eq _ _ (by omega) (by omega)]; rfl
theorem put_eq' (n : Int) : r05_Put n = some (n % 65536) := by
  unfold r05_Put
  rw [mod_eq' _ _ (by omega) (by omega)]; rfl
def clampV (n a b : Int) : Int := if n < a then a else if b < a then a else min n b
theorem clamp_eq (n a b : Int) : num_Clamp n a b = some (clampV n a b) := by
  unfold num_Clamp clampV
  split
  · rfl
  · split
    · rfl
    · split
      · rw [Int.min_def]; split <;> first | rfl | (congr 1; omega)
      · rw [Int.min_def]; split <;> first | rfl | (congr 1; omega)
theorem clamp_eq' (n a b : Int) : r01_Clamp n a b = some (clampV n a b) := by
  unfold r01_Clamp clampV
  split
  · rfl
  · split <;> rfl
theorem clamp_in (n a b : Int) (h : a ≤ b) : a ≤ clampV n a b ∧ clampV n a b ≤ b := by unfold clampV; omega
theorem clamp_id (n a b : Int) (h : a ≤ n) (h' : n ≤ b) : clampV n a b = n := by unfold clampV; omega
def diagV (d : Ar6 Int) : Ar6 Int := ⟨clampV d.a0 0 65535, clampV d.a1 0 65535, clampV d.a2 0 65535, clampV d.a3 0 65535, clampV d.a4 0 65535, clampV d.a5 0 65535⟩
theorem wr1 : wr 1 = 1 := wrI (by decide) (by decide)
theorem diag_eq (d : Ar6 Int) : diag_Clean d = some (diagV d) := by
  unfold diag_Clean diag_counters_clean diag_counters_clean_0
  have st : ∀ (k : Nat) (x e e' : Ar6 Int) (z : Int), k < 6 → d.get? k = some z → e.set? k (clampV z 0 65535) = some e' →
      diag_counters_clean_0_step d x (k : Int) e = some (.inl (((k + 1 : Nat) : Int), e')) := by
    intro k x e e' z hk h1 h2
    simp only [diag_counters_clean_0_step]
    rw [if_pos (by omega), if_pos (by omega), Int.toNat_natCast, show (Ar6.mk d.a0 d.a1 d.a2 d.a3 d.a4 d.a5) = d from rfl, h1, Option.bind_some, clamp_eq, Option.bind_some, if_pos (by omega), h2, Option.bind_some, wrI (by omega) (by omega)]
    rfl
  rw [loopO_inl (st 0 _ _ _ _ (by decide) rfl rfl), loopO_inl (st 1 _ _ _ _ (by decide) rfl rfl), loopO_inl (st 2 _ _ _ _ (by decide) rfl rfl), loopO_inl (st 3 _ _ _ _ (by decide) rfl rfl),
    loopO_inl (st 4 _ _ _ _ (by decide) rfl rfl), loopO_inl (st 5 _ _ _ _ (by decide) rfl rfl), loopO_inr (by simp only [diag_counters_clean_0_step]; rw [if_neg (by omega)])]
  rfl
theorem diag_eq' (d : Ar6 Int) : r09_Clean d = some (diagV d) := by
  unfold r09_Clean r09_Clean_0
  have st : ∀ (k : Nat) (x e e' : Ar6 Int) (z : Int), k < 6 → e.get? k = some z → e.set? k (clampV z 0 65535) = some e' →
      r09_Clean_0_step x (k : Int) e = some (.inl (((k + 1 : Nat) : Int), e')) := by
    intro k x e e' z hk h1 h2
    simp only [r09_Clean_0_step]
    rw [if_pos (by omega), if_pos (by omega), Int.toNat_natCast, show (Ar6.mk e.a0 e.a1 e.a2 e.a3 e.a4 e.a5) = e from rfl, h1, Option.bind_some, clamp_eq', Option.bind_some, if_pos (by omega), h2, Option.bind_some, wrI (by omega) (by omega)]
    rfl
  rw [loopO_inl (st 0 _ _ _ _ (by decide) rfl rfl), loopO_inl (st 1 _ _ _ _ (by decide) rfl rfl), loopO_inl (st 2 _ _ _ _ (by decide) rfl rfl), loopO_inl (st 3 _ _ _ _ (by decide) rfl rfl),
    loopO_inl (st 4 _ _ _ _ (by decide) rfl rfl), loopO_inl (st 5 _ _ _ _ (by decide) rfl rfl), loopO_inr (by simp only [r09_Clean_0_step]; rw [if_neg (by omega)])]
  rfl
theorem cut_eq (s : List UInt8) (n : Int) (hn : 0 ≤ n) : mem_cut s n = some (s.take n.toNat) := by
  unfold mem_cut
  rw [if_pos (by omega)]
  congr 1
  by_cases h : (s.length : Int) ≤ n
  · rw [show min (s.length : Int) n = s.length by omega, Int.toNat_natCast, List.take_length, List.take_of_length_le (by omega)]
  · rw [show min (s.length : Int) n = n by omega]
theorem cut_eq' (s : List UInt8) (n : Int) (hn : 0 ≤ n) : r28_cut s n = some (s.take n.toNat) := cut_eq s n hn
/-- A digit within bounds, or else a nought. -/
def dg (last : Int) (b : UInt8) : UInt8 := if (b.toNat : Int) < 48 then 48 else if last < (b.toNat : Int) then 48 else b
theorem digits_eq (s : List UInt8) (last : Int) (hs : s.length ≤ lenMax) : mem_digits s last = some (s.map (dg last)) := by
  unfold mem_digits
  have hs' : s.length ≤ 4294967296 := hs
  have hlen : (intsOf s).length = s.length := by simp [intsOf]
  have e := loopO_turn (f := fun p : Int × List Int => mem_digits_0_step last s.length s.length (s.length : Nat) p.1 p.2) (intsOf s) (fun k => match s[k]? with | some b => ((dg last b).toNat : Int) | none => 0) (fun k pre post x hk hpre hx => ?_) (fun l' => ?_)
  rotate_left
  · rw [hlen] at hk
    have hg := List.getElem?_eq_getElem hk
    have hx' : x = (s[k].toNat : Int) := by
      simp only [intsOf, List.getElem?_map, hg, Option.map_some, Option.some.injEq] at hx
      exact hx.symm
    simp only [mem_digits_0_step]
    rw [if_pos (by omega), if_pos (by omega), Int.toNat_natCast]
    have h1 : (pre ++ x :: post)[k]? = some x := by rw [← hpre]; simp
    rw [h1, Option.bind_some, mod_mid _ _ _ _ _ hpre, hg, hx', wrI (n := (k : Int) + 1) (by omega) (by omega)]
    by_cases c1 : (s[k].toNat : Int) < 48
    · rw [if_pos c1, if_pos (by omega), Option.bind_some]
      simp only [dg, c1, if_true]; rfl
    · rw [if_neg c1]
      by_cases c2 : last < (s[k].toNat : Int)
      · rw [if_pos c2, if_pos (by omega), Option.bind_some]
        simp only [dg, c1, c2, if_true, if_false]; rfl
      · rw [if_neg c2]
        simp only [dg, c1, c2, if_false]
  · rw [hlen]
    simp only [mem_digits_0_step]
    rw [if_neg (by omega)]
  have e' : mem_digits_0 last s.length s.length ((s.length : Nat) : Int) 0 (intsOf s) = some ((List.range s.length).map (fun k => match s[k]? with | some b => ((dg last b).toNat : Int) | none => 0)) := by
    rw [← hlen]
    rw [hlen]
    rw [hlen] at e
    exact e
  rw [if_pos hs, e', Option.bind_some, sub_all _ _ (by simp), Option.bind_some]
  congr 1
  unfold bytesOf
  apply List.ext_getElem
  · simp
  · intro k h1 h2
    have hk : k < s.length := by simpa using h2
    simp [List.getElem?_eq_getElem hk]
/-- A place's digit: what stands there, or a nought. -/
def dgAt (s : List UInt8) (last : Int) (k : Nat) : UInt8 := match s[k]? with | some b => dg last b | none => 48
theorem flat_one {α : Type} (g : Nat → α) : ∀ n, (List.range n).flatMap (fun k => [g k]) = (List.range n).map g
  | 0 => rfl
  | n + 1 => by rw [List.range_succ, List.flatMap_append, List.map_append, flat_one g n]; rfl
theorem digits_eq' (s : List UInt8) (n last : Int) (hn : 0 ≤ n) (hn' : n ≤ 4294967296) : r28_digits s n last = some ((List.range n.toNat).map (dgAt s last)) := by
  unfold r28_digits r28_digits_0
  have e := loopO_grow (f := fun p : List UInt8 × Int => r28_digits_0_step s n last p.1 p.2) n.toNat (fun k => [dgAt s last k]) (fun k hk => ?_) ?_
  · rw [e, Option.bind_some, flat_one]
  · have hl := grow_len (fun k => [dgAt s last k]) 1 (fun _ => by simp) k
    generalize (List.range k).flatMap (fun k => [dgAt s last k]) = out at hl
    simp only [r28_digits_0_step]
    rw [if_pos (by omega), wrI (n := (k : Int) + 1) (by omega) (by omega)]
    have g48 : List.length out + List.length ([48] : List UInt8) ≤ 9223372036854775807 := by simp only [List.length_cons, List.length_nil]; omega
    by_cases h1 : (k : Int) < s.length
    · have hk' : k < s.length := by omega
      have hg := List.getElem?_eq_getElem hk'
      rw [if_pos h1, idx_get hg, Option.bind_some]
      by_cases h2 : 48 ≤ (s[k].toNat : Int)
      · rw [if_pos h2, Option.bind_some]
        by_cases h3 : (s[k].toNat : Int) ≤ last
        · have hd : List.drop (Int.toNat (k : Int)) (List.take (Int.toNat ((k : Int) + 1)) s) = [s[k]] := by
            rw [Int.toNat_natCast, show ((k : Int) + 1).toNat = k + 1 by omega, List.take_add_one, hg, List.drop_append_of_le_length (by simp; omega)]
            simp
          rw [if_pos h3, if_pos (by omega), if_pos (by omega), hd, if_pos (show out.length + [s[k]].length ≤ 9223372036854775807 from g48)]
          simp only [dgAt, hg, dg]
          rw [if_neg (by omega), if_neg (by omega)]
        · rw [if_neg h3, if_pos g48]
          simp only [dgAt, hg, dg]
          rw [if_neg (by omega), if_pos (by omega)]
      · rw [if_neg h2, if_pos g48]
        simp only [dgAt, hg, dg]
        rw [if_pos (by omega)]
    · rw [if_neg h1, if_pos g48]
      simp only [dgAt]
      rw [List.getElem?_eq_none (by omega)]
  · simp only [r28_digits_0_step]
    rw [if_neg (by omega)]
theorem map_range (s : List UInt8) (f : UInt8 → UInt8) (last : Int) : s.map (dg last) = (List.range s.length).map (dgAt s last) := by
  apply List.ext_getElem
  · simp
  · intro k h1 h2
    have hk : k < s.length := by simpa using h1
    simp [dgAt, List.getElem?_eq_getElem hk]
def rowV (s : List UInt8) (n last : Int) : List UInt8 := if (s.length : Int) ≠ n then [] else s.map (dg last)
theorem row_eq (s : List UInt8) (n last : Int) (hn : n ≤ 4294967296) : mem_row s n last = some (rowV s n last) := by
  unfold mem_row rowV
  split
  · rfl
  · rw [digits_eq s last (by show s.length ≤ 4294967296; omega)]; rfl
theorem row_eq' (s : List UInt8) (n last : Int) (hn : n ≤ 4294967296) : r28_row s n last = some (rowV s n last) := by
  unfold r28_row rowV
  split
  · rfl
  · rename_i h
    have : (s.length : Int) = n := Classical.not_not.1 h
    subst this
    rw [digits_eq' s _ last (by omega) (by omega), Int.toNat_natCast, map_range s id]; rfl
theorem rep_eq (L : Nat) : Lib.repeatL ([48] : List UInt8) L = List.replicate L 48 := by
  induction L with
  | zero => rfl
  | succ n ih => rw [Lib.repeatL, ih]; rfl
theorem blank_eq (c : GConf) (hc : CIn c) (hp : Pl c) : pipe_Blank c = some (List.replicate (lenV c).toNat 48) := by
  have hl := lenV_in c hp
  unfold pipe_Blank
  rw [length_eq c hc hp, Option.bind_some]
  unfold strings_Repeat
  rw [if_pos ⟨by omega, by omega, by simp only [List.length_cons, List.length_nil]; omega⟩, rep_eq]; rfl
def pipeV (c : GConf) (s : List UInt8) : List UInt8 := (List.range (lenV c).toNat).map (dgAt s 53)
theorem pipe_eq (s : List UInt8) (L : Nat) : ((s ++ List.replicate L 48).take L).map (dg 53) = (List.range L).map (dgAt s 53) := by
  apply List.ext_getElem
  · simp
  · intro k h1 h2
    have hk : k < L := by simpa using h2
    simp only [List.getElem_map, List.getElem_take, List.getElem_range, dgAt]
    by_cases h : k < s.length
    · rw [List.getElem_append_left h, List.getElem?_eq_getElem h]
    · rw [List.getElem_append_right (by omega), List.getElem?_eq_none (by omega), List.getElem_replicate]
      decide
/-- Marks: a one where one stands. -/
def markAt (s : List UInt8) (k : Nat) : UInt8 := if s[k]? = some 49 then 49 else 48
def markV (s : List UInt8) (n : Int) : List UInt8 := (List.range n.toNat).map (markAt s)
theorem contains_nil (v : Int) : slices_Contains_int_int [] v = some false := by
  unfold slices_Contains_int_int slices_Index_int_int slices_Index_int_int_0
  rw [loopO_inr (r := .inr ()) (by simp only [slices_Index_int_int_0_step]; rw [if_neg (by simp)])]
  rfl
theorem in_nil (v : Int) : r14_In [] v = some false := by
  unfold r14_In r14_In_0
  rw [loopO_inr (r := .inr ()) (by simp only [r14_In_0_step]; rw [if_neg (by simp)])]
  rfl
theorem mark_eq (s : List UInt8) (n : Int) (hn : 0 ≤ n) (hn' : n ≤ 64) : gate_Mark s n [] = some (markV s n) := by
  unfold gate_Mark markV
  rw [clamp_eq, clamp_id n 0 64 hn hn', Option.bind_some, if_pos ⟨hn, by show n ≤ 4294967296; omega⟩]
  have e := loopO_turn (f := fun p : Int × List Int => gate_Mark_0_step s [] n.toNat (n.toNat : Nat) p.1 p.2) (List.replicate n.toNat 0) (fun k => ((markAt s k).toNat : Int)) (fun k pre post x hk hpre hx => ?_) (fun l' => ?_)
  rotate_left
  · rw [List.length_replicate] at hk
    simp only [gate_Mark_0_step]
    rw [if_pos (by omega), if_pos (by omega), Int.toNat_natCast, mod_mid _ _ _ _ _ hpre, Option.bind_some, wrI (n := (k : Int) + 1) (by omega) (by omega), contains_nil, mod_mid _ _ _ _ _ hpre]
    by_cases h1 : (k : Int) < s.length
    · have hk' : k < s.length := by omega
      have hg := List.getElem?_eq_getElem hk'
      rw [if_pos h1, idx_get hg, Option.bind_some]
      by_cases h2 : (s[k].toNat : Int) = 49
      · rw [if_pos h2, if_pos (by omega)]
        have : s[k] = 49 := UInt8.toNat_inj.1 (by simpa using Int.ofNat_inj.1 h2)
        simp only [markAt, hg, this, if_true]; rfl
      · rw [if_neg h2]
        have : ¬ s[k] = 49 := fun e => h2 (by rw [e]; rfl)
        simp only [markAt, hg, Option.some.injEq, this, if_false]; rfl
    · rw [if_neg h1]
      simp only [markAt]
      rw [List.getElem?_eq_none (by omega)]
      rfl
  · rw [List.length_replicate]
    simp only [gate_Mark_0_step]
    rw [if_neg (by omega)]
  rw [List.length_replicate] at e
  have e' : gate_Mark_0 s [] n.toNat ((n.toNat : Nat) : Int) 0 (List.replicate n.toNat 0) = some ((List.range n.toNat).map (fun k => ((markAt s k).toNat : Int))) := e
  rw [e', Option.bind_some, sub_all _ _ (by simp), Option.bind_some]
  congr 1
  unfold bytesOf
  rw [List.map_map]
  apply List.map_congr_left
  intro k _
  simp
theorem mark_eq' (s : List UInt8) (n : Int) (hn : 0 ≤ n) (hn' : n ≤ 64) : r23_Mark s n [] = some (markV s n) := by
  unfold r23_Mark r23_Mark_0 markV
  have e := loopO_grow (f := fun p : List UInt8 × Int => r23_Mark_0_step s n [] p.1 p.2) n.toNat (fun k => [markAt s k]) (fun k hk => ?_) ?_
  · rw [e, Option.bind_some, flat_one]
  · have hl := grow_len (fun k => [markAt s k]) 1 (fun _ => by simp) k
    generalize (List.range k).flatMap (fun k => [markAt s k]) = out at hl
    simp only [r23_Mark_0_step]
    have g48 : List.length out + List.length ([48] : List UInt8) ≤ 9223372036854775807 := by simp only [List.length_cons, List.length_nil]; omega
    have g49 : List.length out + List.length ([49] : List UInt8) ≤ 9223372036854775807 := by simp only [List.length_cons, List.length_nil]; omega
    rw [clamp_eq', clamp_id n 0 64 hn hn', Option.bind_some, if_pos (by omega), wrI (n := (k : Int) + 1) (by omega) (by omega), in_nil]
    unfold r23_Has
    rw [if_pos (by omega)]
    by_cases h1 : (k : Int) < s.length
    · have hk' : k < s.length := by omega
      have hg := List.getElem?_eq_getElem hk'
      rw [if_pos h1, idx_get hg, Option.bind_some, Option.bind_some]
      by_cases h2 : (s[k].toNat : Int) = 49
      · rw [decide_eq_true h2, if_pos rfl, if_pos g49]
        have : s[k] = 49 := UInt8.toNat_inj.1 (by simpa using Int.ofNat_inj.1 h2)
        simp only [markAt, hg, this, if_true]
      · rw [decide_eq_false h2, if_neg (by decide), Option.bind_some, if_neg (by decide), if_pos g48]
        have : ¬ s[k] = 49 := fun e => h2 (by rw [e]; rfl)
        simp only [markAt, hg, Option.some.injEq, this, if_false]
    · rw [if_neg h1, Option.bind_some, if_neg (by decide), Option.bind_some, if_neg (by decide), if_pos g48]
      simp only [markAt]
      rw [List.getElem?_eq_none (by omega)]
      rfl
  · simp only [r23_Mark_0_step]
    rw [clamp_eq', clamp_id n 0 64 hn hn', Option.bind_some, if_neg (by omega)]
end Go.Proofs.Ytnbmaoendgafbaa

set_option linter.unusedVariables false
set_option linter.unusedSimpArgs false
namespace Go.Proofs.Ytnbmaoendgafbaa
open Go.Proofs.PF
def portV (c : GConf) (p : GPort) : GPort := ⟨p.Text.take 16, p.Cycle % c.Mod, clampV p.Age 0 c.Fresh⟩
def portsV (c : GConf) (l : List GPort) : List GPort := if (l.length : Int) ≠ c.N then List.replicate c.N.toNat ⟨[], 0, c.Fresh⟩ else l.map (portV c)
def holdV (c : GConf) (l : List (List UInt8)) : List (List UInt8) := if (l.length : Int) ≠ c.N * c.D then List.replicate (c.N * c.D).toNat [] else l.map (List.take 40)
def noteV (c : GConf) (e : GEntry) : List GEntry := if 0 ≤ e.From ∧ e.From < c.N then [⟨e.From, e.At % 65536⟩] else []
def notesV (c : GConf) (l : List GEntry) : List GEntry := (l.drop (l.length - 64)).flatMap (noteV c)
theorem note_len (c : GConf) (e : GEntry) : (noteV c e).length ≤ 1 := by unfold noteV; split <;> simp
theorem pl_in (c : GConf) (hp : Pl c) : 4 ≤ c.N ∧ c.N ≤ 13 ∧ 1 ≤ c.D ∧ c.D ≤ 4 ∧ 2 ≤ c.Mod ∧ c.Mod ≤ 250 ∧ 1 ≤ c.Fresh ∧ c.Fresh ≤ 100 ∧ 4 ≤ c.N * c.D ∧ c.N * c.D ≤ 52 ∧ 1 ≤ c.Period ∧ c.Period ≤ 400 ∧ 1 ≤ c.Table.length ∧ c.Table.length ≤ 32 := by
  have hl := lenV_in c hp
  obtain ⟨⟨n0, n1, f0, f4, _⟩, ⟨d0, d4⟩, ⟨p1, p2, _, _, _, _, _, _, _, _, m0, m1, r0, r1⟩, ⟨t0, t1, _⟩⟩ := hp
  have h1 : c.N * c.D ≤ 13 * 4 := Int.mul_le_mul n1 d4 (by omega) (by omega)
  have h2 : 4 * 1 ≤ c.N * c.D := Int.mul_le_mul n0 d0 (by omega) (by omega)
  unfold lenV at hl
  have h3 : 6 * (c.F + 1) * c.D = 2 * (3 * (c.F + 1) * c.D) := by
    rw [show (6 : Int) = 2 * 3 by decide, Int.mul_assoc, Int.mul_assoc, Int.mul_assoc]
  refine ⟨n0, n1, d0, d4, m0, m1, r0, r1, by omega, by omega, by omega, p2, t0, t1⟩
theorem map_rep {α : Type} (n : Nat) (x : α) : (List.range n).map (fun _ => x) = List.replicate n x := by
  induction n with
  | zero => rfl
  | succ n ih => rw [List.range_succ, List.map_append, ih, List.replicate_succ']; rfl
theorem pblank_eq (c : GConf) (hc : CIn c) (hp : Pl c) : port_Blank c = some (List.replicate c.N.toNat ⟨[], 0, c.Fresh⟩) := by
  have h0 := (plain_zero c).2 hp
  obtain ⟨n0, n1, _⟩ := pl_in c hp
  unfold port_Blank
  rw [conf_plain c hc, Option.bind_some, h0, if_neg (by decide), if_pos ⟨by omega, by show c.N ≤ 4294967296; omega⟩]
  have e := loopO_turn (f := fun p : Int × List GPort => port_Blank_0_step c.N.toNat (c.N.toNat : Nat) c p.1 p.2) (List.replicate c.N.toNat ⟨[], 0, 0⟩) (fun k => ⟨[], 0, c.Fresh⟩) (fun k pre post x hk hpre hx => ?_) (fun l' => ?_)
  rotate_left
  · rw [List.length_replicate] at hk
    rw [List.getElem?_replicate, if_pos hk] at hx
    cases hx
    simp only [port_Blank_0_step]
    rw [if_pos (by omega), if_pos (by omega), Int.toNat_natCast, mod_mid _ _ _ _ _ hpre, Option.bind_some, wrI (n := (k : Int) + 1) (by omega) (by omega)]
  · rw [List.length_replicate]
    simp only [port_Blank_0_step]
    rw [if_neg (by omega)]
  rw [List.length_replicate, map_rep] at e
  have e' : port_Blank_0 c.N.toNat ((c.N.toNat : Nat) : Int) c 0 (List.replicate c.N.toNat ⟨[], 0, 0⟩) = _ := e
  rw [e', Option.bind_some, sub_all _ _ (by simp)]; rfl
theorem pblank_eq' (c : GConf) (hc : CIn c) (hp : Pl c) : r26_Blank c = some (List.replicate c.N.toNat ⟨[], 0, c.Fresh⟩) := by
  have h0 := (plain_zero c).2 hp
  obtain ⟨n0, n1, _⟩ := pl_in c hp
  unfold r26_Blank
  rw [r03_plain c hc, Option.bind_some, h0, if_neg (by decide)]
  have e := loopO_grow (f := fun p : List GPort × Int => r26_Blank_0_step c p.1 p.2) c.N.toNat (fun k => [⟨[], 0, c.Fresh⟩]) (fun k hk => ?_) ?_
  · unfold r26_Blank_0
    rw [e, Option.bind_some, flat_one, map_rep]
  · have hl := grow_len (fun k => [(⟨[], 0, c.Fresh⟩ : GPort)]) 1 (fun _ => by simp) k
    generalize (List.range k).flatMap (fun k => [(⟨[], 0, c.Fresh⟩ : GPort)]) = out at hl
    simp only [r26_Blank_0_step]
    rw [if_pos (by omega), if_pos (by show _ ≤ 4294967296; simp only [List.length_cons, List.length_nil]; omega), wrI (by omega) (by omega)]
  · simp only [r26_Blank_0_step]
    rw [if_neg (by omega)]
theorem ports_eq (c : GConf) (l : List GPort) (hc : CIn c) (hp : Pl c) : mem_each_api_Port l c.N (List.replicate c.N.toNat ⟨[], 0, c.Fresh⟩) c = some (portsV c l, c) := by
  obtain ⟨n0, n1, _, _, m0, m1, f0, f1, _⟩ := pl_in c hp
  unfold mem_each_api_Port portsV
  split
  · rfl
  · rename_i hn
    have hn : (l.length : Int) = c.N := Classical.not_not.1 hn
    unfold slices_Clone_api_Port_api_Port
    rw [if_pos (by show _ ≤ 4294967296; omega), Option.bind_some]
    have : ∀ m k : Nat, k + m = l.length → loopO (fun s : Int × GConf × (List GPort) => mem_each_api_Port_0_step l.length l l.length s.1 s.2.1 s.2.2) ((k : Int), c, (l.take k).map (portV c) ++ l.drop k) = some (c, l.map (portV c)) := by
      intro m
      induction m with
      | zero =>
        intro k hk
        have hk : k = l.length := by omega
        subst hk
        rw [loopO_inr (r := (c, (l.take l.length).map (portV c) ++ l.drop l.length)) (by simp only [mem_each_api_Port_0_step]; rw [if_neg (by omega)])]
        simp
      | succ m ih =>
        intro k hk
        have hlt : k < l.length := by omega
        have hg := List.getElem?_eq_getElem hlt
        rw [List.drop_eq_getElem_cons hlt]
        rw [loopO_inl (t := (((k + 1 : Nat) : Int), c, (l.take (k + 1)).map (portV c) ++ l.drop (k + 1))) ?_, ih (k + 1) (by omega)]
        simp only [mem_each_api_Port_0_step]
        rw [if_pos (by omega), idx_get hg, Option.bind_some]
        unfold mem_lists_1
        rw [cut_eq _ _ (by omega), Option.bind_some, mod_eq _ _ (by omega) (by omega), Option.bind_some, clamp_eq, Option.bind_some, Option.bind_some, if_pos (by omega), Int.toNat_natCast, mod_mid _ _ _ _ _ (by simp; omega), Option.bind_some, wrI (by omega) (by omega)]
        rw [List.take_add_one, hg, List.map_append]
        simp [portV]
    have e := this l.length 0 (by omega)
    have e' : mem_each_api_Port_0 l.length l l.length 0 c l = some (c, l.map (portV c)) := by
      have e2 := e
      simp only [List.take_zero, List.map_nil, List.nil_append, List.drop_zero] at e2
      exact e2
    rw [e', Option.bind_some, sub_all _ _ (by simp)]; rfl
theorem ports_eq' (c : GConf) (l : List GPort) (hc : CIn c) (hp : Pl c) : r28_ports c l = some (portsV c l) := by
  obtain ⟨n0, n1, _, _, m0, m1, f0, f1, _⟩ := pl_in c hp
  unfold r28_ports portsV
  split
  · rw [pblank_eq' c hc hp]; rfl
  · rename_i hn
    have hn : (l.length : Int) = c.N := Classical.not_not.1 hn
    have e := loopO_growl (f := fun p : List GPort × Int => r28_ports_0_step l c p.1 p.2) l (fun x => [portV c x]) (fun _ => by simp) (fun k x out hk hx ho => ?_) (fun out => ?_) l.length 0 [] (by omega) (by simp)
    · unfold r28_ports_0
      rw [show ((0 : Nat) : Int) = 0 from rfl] at e
      rw [e, Option.bind_some]
      simp [List.flatMap_singleton']
      rw [← List.map_eq_flatMap]
    · simp only [r28_ports_0_step]
      rw [if_pos (by omega), idx_get hx, Option.bind_some, cut_eq' _ _ (by omega), Option.bind_some, Option.bind_some, mod_eq' _ _ (by omega) (by omega), Option.bind_some, Option.bind_some, clamp_eq', Option.bind_some,
        if_pos (by show _ ≤ 4294967296; simp only [List.length_cons, List.length_nil]; omega), wrI (by omega) (by omega)]
      rfl
    · simp only [r28_ports_0_step]
      rw [if_neg (by omega)]
end Go.Proofs.Ytnbmaoendgafbaa

set_option linter.unusedVariables false
set_option linter.unusedSimpArgs false
namespace Go.Proofs.Ytnbmaoendgafbaa
open Go.Proofs.PF
theorem hempty_eq (c : GConf) (hc : CIn c) (hp : Pl c) : hold_Empty c = some (List.replicate (c.N * c.D).toNat []) := by
  have h0 := (plain_zero c).2 hp
  obtain ⟨n0, n1, _, _, m0, m1, f0, f1, a, b, _⟩ := pl_in c hp
  unfold hold_Empty hold_places
  rw [conf_plain c hc, Option.bind_some, h0, if_neg (by decide), Option.bind_some, wrI (by omega) (by omega), if_pos ⟨by omega, by show _ ≤ (4294967296 : Int); omega⟩, sub_all _ _ (by simp)]; rfl
theorem hempty_eq' (c : GConf) (hc : CIn c) (hp : Pl c) : r12_Empty c = some (List.replicate (c.N * c.D).toNat []) := by
  have h0 := (plain_zero c).2 hp
  obtain ⟨n0, n1, _, _, m0, m1, f0, f1, a, b, _⟩ := pl_in c hp
  unfold r12_Empty
  rw [r03_plain c hc, Option.bind_some, h0, if_neg (by decide)]
  have e := loopO_grow (f := fun p : List (List UInt8) × Int => r12_Empty_0_step c p.1 p.2) (c.N * c.D).toNat (fun k => [([] : List UInt8)]) (fun k hk => ?_) ?_
  · unfold r12_Empty_0
    rw [e, Option.bind_some, flat_one, map_rep]
  · have hl := grow_len (fun k => [([] : List UInt8)]) 1 (fun _ => by simp) k
    generalize (List.range k).flatMap (fun k => [([] : List UInt8)]) = out at hl
    simp only [r12_Empty_0_step]
    rw [wrI (n := c.N * c.D) (by omega) (by omega), if_pos (by omega), if_pos (by show _ ≤ 4294967296; simp only [List.length_cons, List.length_nil]; omega), wrI (by omega) (by omega)]
  · simp only [r12_Empty_0_step]
    rw [wrI (n := c.N * c.D) (by omega) (by omega), if_neg (by omega)]
theorem hold_eq (c : GConf) (l : List (List UInt8)) (hc : CIn c) (hp : Pl c) : mem_each_string l (c.N * c.D) (List.replicate (c.N * c.D).toNat []) = some (holdV c l) := by
  obtain ⟨n0, n1, _, _, m0, m1, f0, f1, a, b, _⟩ := pl_in c hp
  unfold mem_each_string holdV
  split
  · rfl
  · rename_i hn
    have hn : (l.length : Int) = c.N * c.D := Classical.not_not.1 hn
    unfold slices_Clone_string_string
    rw [if_pos (by show _ ≤ 4294967296; omega), Option.bind_some]
    have e := loopO_turn (f := fun p : Int × List (List UInt8) => mem_each_string_0_step l.length l l.length p.1 p.2) l (fun k => (l[k]?.getD []).take 40) (fun k pre post x hk hpre hx => ?_) (fun l' => ?_)
    rotate_left
    · simp only [mem_each_string_0_step]
      rw [if_pos (by omega), idx_get hx, Option.bind_some]
      unfold mem_lists_2
      rw [cut_eq _ _ (by omega), Option.bind_some, Option.bind_some, if_pos (by omega), Int.toNat_natCast, mod_mid _ _ _ _ _ hpre, Option.bind_some, wrI (by omega) (by omega), hx]
      rfl
    · simp only [mem_each_string_0_step]
      rw [if_neg (by omega)]
    have e' : mem_each_string_0 l.length l l.length 0 l = _ := e
    rw [e', Option.bind_some, sub_all _ _ (by simp), Option.bind_some]
    congr 1
    apply List.ext_getElem
    · simp
    · intro k h1 h2
      have hk : k < l.length := by simpa using h2
      simp [List.getElem?_eq_getElem hk]
theorem map_flat {α β : Type} (f : α → β) (l : List α) : l.flatMap (fun x => [f x]) = l.map f := by
  induction l with
  | nil => rfl
  | cons x l ih => rw [List.flatMap_cons, ih]; rfl
theorem hold_eq' (c : GConf) (l : List (List UInt8)) (hc : CIn c) (hp : Pl c) : r28_held c l = some (holdV c l) := by
  obtain ⟨n0, n1, _, _, m0, m1, f0, f1, a, b, _⟩ := pl_in c hp
  unfold r28_held holdV
  rw [wrI (n := c.N * c.D) (by omega) (by omega)]
  split
  · rw [hempty_eq' c hc hp]; rfl
  · rename_i hn
    have hn : (l.length : Int) = c.N * c.D := Classical.not_not.1 hn
    have e := loopO_growl (f := fun p : List (List UInt8) × Int => r28_held_0_step l c p.1 p.2) l (fun x => [List.take 40 x]) (fun _ => by simp) (fun k x out hk hx ho => ?_) (fun out => ?_) l.length 0 [] (by omega) (by simp)
    · unfold r28_held_0
      rw [show ((0 : Nat) : Int) = 0 from rfl] at e
      rw [e, Option.bind_some, map_flat]
      simp
    · simp only [r28_held_0_step]
      rw [if_pos (by omega), idx_get hx, Option.bind_some, cut_eq' _ _ (by omega), Option.bind_some,
        if_pos (by show _ ≤ 4294967296; simp only [List.length_cons, List.length_nil]; omega), wrI (by omega) (by omega)]
      rfl
    · simp only [r28_held_0_step]
      rw [if_neg (by omega)]
theorem notes_eq (c : GConf) (l : List GEntry) (hl : l.length ≤ 4294967296) : mem_notes c l = some (notesV c l) := by
  unfold mem_notes notesV
  have hm : max 0 (wr ((l.length : Int) - 64)) = ((l.length - 64 : Nat) : Int) := by rw [wrI (by omega) (by omega)]; omega
  rw [hm, Int.toNat_natCast, if_pos (by omega)]
  generalize hd : l.drop (l.length - 64) = d
  have hdl : d.length ≤ 64 := by rw [← hd, List.length_drop]; omega
  have e := loopO_growl (f := fun p : List GEntry × Int => mem_notes_0_step d d.length c p.1 p.2) d (noteV c) (note_len c) (fun k x out hk hx ho => ?_) (fun out => ?_) d.length 0 [] (by omega) (by simp)
  · unfold mem_notes_0
    rw [show ((0 : Nat) : Int) = 0 from rfl] at e
    rw [e, Option.bind_some]
    simp
  · simp only [mem_notes_0_step, noteV]
    rw [if_pos (by omega), idx_get hx, Option.bind_some, wrI (n := (k : Int) + 1) (by omega) (by omega)]
    by_cases h1 : x.From < 0
    · rw [if_pos h1, if_neg (by omega), List.append_nil]
    · rw [if_neg h1]
      by_cases h2 : c.N ≤ x.From
      · rw [if_pos h2, if_neg (by omega), List.append_nil]
      · rw [if_neg h2, put_eq, Option.bind_some, if_pos (by show _ ≤ 4294967296; simp only [List.length_cons, List.length_nil]; omega), if_pos (by omega)]
  · simp only [mem_notes_0_step]
    rw [if_neg (by omega)]
theorem notes_eq' (c : GConf) (l : List GEntry) (hl : l.length ≤ 4294967295) : r28_notes c l = some (notesV c l) := by
  unfold r28_notes notesV
  have hm : max 0 (wr ((l.length : Int) - 64)) = ((l.length - 64 : Nat) : Int) := by rw [wrI (by omega) (by omega)]; omega
  rw [hm]
  have e := loopO_growl (f := fun p : List GEntry × Int => r28_notes_0_step l c p.1 p.2) l (noteV c) (note_len c) (fun k x out hk hx ho => ?_) (fun out => ?_) (l.length - (l.length - 64)) (l.length - 64) [] (by omega) (by simp)
  · unfold r28_notes_0
    rw [e, Option.bind_some]
    simp
  · simp only [r28_notes_0_step, noteV]
    rw [if_pos (by omega), idx_get hx, Option.bind_some, Option.bind_some, Option.bind_some, Option.bind_some, wrI (n := (k : Int) + 1) (by omega) (by omega)]
    by_cases h1 : 0 ≤ x.From
    · rw [if_pos h1]
      by_cases h2 : x.From < c.N
      · rw [if_pos h2, put_eq', Option.bind_some, if_pos (by show _ ≤ 4294967296; simp only [List.length_cons, List.length_nil]; omega), if_pos ⟨h1, h2⟩]
      · rw [if_neg h2, if_neg (by omega), List.append_nil]
    · rw [if_neg h1, if_neg (by omega), List.append_nil]
  · simp only [r28_notes_0_step]
    rw [if_neg (by omega)]
def noMem : GMem := GMem.mk 0 0 0 ([] : List UInt8) 0 ([] : List UInt8) ([] : List UInt8) 0 0 ([] : List UInt8) ([] : List UInt8) ([] : List UInt8) ([] : List UInt8) ([] : List UInt8) ([] : List UInt8) ([] : List GPort) ([] : List (List UInt8)) ([] : List GEntry) (Ar6.mk 0 0 0 0 0 0)
/-- A memory mended. -/
def mendV (c : GConf) (m : GMem) : GMem :=
  ⟨m.Clock % 65536, m.Anchor % 65536, clampV m.Since 0 c.Period, pipeV c m.Pipe, clampV m.Age 0 (lenV c), rowV m.Vec (8 + c.N) 53, rowV m.Agreed (8 + c.N) 49, m.Number % c.Mod, clampV m.Regular 0 2,
   markV m.Members c.N, markV m.Seen c.N, markV m.Heard c.Table.length, markV m.Sent c.Table.length, m.Out.take 16, m.Line.take 16, portsV c m.Ports, holdV c m.Hold, notesV c m.Log, diagV m.Diag⟩
/-- What a memory's lists must not pass. -/
structure MIn (m : GMem) : Prop where
  pipe : m.Pipe.length ≤ 4294967295
  log : m.Log.length ≤ 4294967295
theorem mend_eq (c : GConf) (m : GMem) (hc : CIn c) (hp : Pl c) (hm : MIn m) : mem_Mend c m = some (mendV c m) := by
  have h0 := (plain_zero c).2 hp
  have hl := lenV_in c hp
  obtain ⟨n0, n1, d0, d1, m0, m1, f0, f1, a, b, p0, p1, t0, t1⟩ := pl_in c hp
  have h1 := hm.pipe
  unfold mem_Mend
  rw [conf_plain c hc, Option.bind_some, h0, if_neg (by decide)]
  unfold mem_numbers
  rw [put_eq, Option.bind_some, put_eq, Option.bind_some, clamp_eq, Option.bind_some, length_eq c hc hp, Option.bind_some, clamp_eq, Option.bind_some, mod_eq _ _ (by omega) (by omega), Option.bind_some, clamp_eq, Option.bind_some, diag_eq, Option.bind_some, Option.bind_some]
  unfold mem_texts
  simp only []
  rw [blank_eq c hc hp, Option.bind_some, if_pos (by rw [List.length_replicate]; omega), length_eq c hc hp, Option.bind_some, cut_eq _ _ (by omega), Option.bind_some, digits_eq _ _ (by show _ ≤ 4294967296; rw [List.length_take]; omega), Option.bind_some,
    bits_eq c hc hp, Option.bind_some, row_eq _ _ _ (by omega), Option.bind_some, Option.bind_some, row_eq _ _ _ (by omega), Option.bind_some]
  unfold roster_Mark
  rw [mark_eq _ _ (by omega) (by omega), Option.bind_some, Option.bind_some, mark_eq _ _ (by omega) (by omega), Option.bind_some, Option.bind_some, mark_eq _ _ (by omega) (by omega), Option.bind_some, mark_eq _ _ (by omega) (by omega), Option.bind_some,
    cut_eq _ _ (by omega), Option.bind_some, cut_eq _ _ (by omega), Option.bind_some, Option.bind_some]
  unfold mem_lists
  simp only []
  rw [pblank_eq c hc hp, Option.bind_some, ports_eq c _ hc hp, Option.bind_some]
  simp only []
  rw [hempty_eq c hc hp, Option.bind_some, wrI (n := c.N * c.D) (by omega) (by omega), hold_eq c _ hc hp, Option.bind_some, notes_eq c _ (by have := hm.log; omega), Option.bind_some, Option.bind_some, pipe_eq]
  rfl
theorem mend_eq' (c : GConf) (m : GMem) (hc : CIn c) (hp : Pl c) (hm : MIn m) : r28_Mend c m = some (mendV c m) := by
  have h0 := (plain_zero c).2 hp
  have hl := lenV_in c hp
  obtain ⟨n0, n1, d0, d1, m0, m1, f0, f1, a, b, p0, p1, t0, t1⟩ := pl_in c hp
  have h1 := hm.pipe
  unfold r28_Mend
  rw [r03_plain c hc, Option.bind_some, h0, if_neg (by decide)]
  unfold r25_Mark
  rw [put_eq', Option.bind_some, put_eq', Option.bind_some, clamp_eq', Option.bind_some, length_eq' c hc hp, Option.bind_some, digits_eq' _ _ _ (by omega) (by omega), Option.bind_some, Option.bind_some, clamp_eq', Option.bind_some,
    bits_eq' c hc hp, Option.bind_some, row_eq' _ _ _ (by omega), Option.bind_some, Option.bind_some, row_eq' _ _ _ (by omega), Option.bind_some, mod_eq' _ _ (by omega) (by omega), Option.bind_some, clamp_eq', Option.bind_some,
    mark_eq' _ _ (by omega) (by omega), Option.bind_some, Option.bind_some, mark_eq' _ _ (by omega) (by omega), Option.bind_some, Option.bind_some, mark_eq' _ _ (by omega) (by omega), Option.bind_some, mark_eq' _ _ (by omega) (by omega), Option.bind_some,
    cut_eq' _ _ (by omega), Option.bind_some, cut_eq' _ _ (by omega), Option.bind_some, ports_eq' c _ hc hp, Option.bind_some, hold_eq' c _ hc hp, Option.bind_some, notes_eq' c _ (by have := hm.log; omega), Option.bind_some, diag_eq', Option.bind_some]
  rfl
end Go.Proofs.Ytnbmaoendgafbaa

set_option linter.unusedVariables false
set_option linter.unusedSimpArgs false
namespace Go.Proofs.Ytnbmaoendgafbaa
open Go.Proofs.PF
theorem same_ports' (a b : List GPort) (h : a.length ≤ 4294967295) : r26_Same a b = some (decide (a = b)) := by
  unfold r26_Same
  by_cases hl : (a.length : Int) = b.length
  · rw [if_neg (fun e => e hl)]
    have e := loopO_eqs (f := fun s => r26_Same_0_step a b s) a b (by omega) (fun k x y hk h1 h2 => ?_) ?_
    · unfold r26_Same_0
      rw [e, Option.bind_some]
      by_cases hh : a = b
      · rw [if_pos hh, decide_eq_true hh]; rfl
      · rw [if_neg hh, decide_eq_false hh]; rfl
    · simp only [r26_Same_0_step]
      rw [if_pos (by omega), idx_get h1, Option.bind_some, idx_get h2, Option.bind_some, wrI (by omega) (by omega)]
      obtain ⟨x1, x2, x3⟩ := x
      obtain ⟨y1, y2, y3⟩ := y
      by_cases g1 : x1 = y1 <;> by_cases g2 : x2 = y2 <;> by_cases g3 : x3 = y3 <;> simp [g1, g2, g3]
    · simp only [r26_Same_0_step]
      rw [if_neg (by omega)]
  · rw [if_pos hl, decide_eq_false (fun e => hl (by rw [e]))]
theorem same_hold' (a b : List (List UInt8)) (h : a.length ≤ 4294967295) : r12_Same a b = some (decide (a = b)) := by
  unfold r12_Same
  by_cases hl : (a.length : Int) = b.length
  · rw [if_neg (fun e => e hl)]
    have e := loopO_eqs (f := fun s => r12_Same_0_step a b s) a b (by omega) (fun k x y hk h1 h2 => ?_) ?_
    · unfold r12_Same_0
      rw [e, Option.bind_some]
      by_cases hh : a = b
      · rw [if_pos hh, decide_eq_true hh]; rfl
      · rw [if_neg hh, decide_eq_false hh]; rfl
    · simp only [r12_Same_0_step]
      rw [if_pos (by omega), idx_get h1, Option.bind_some, idx_get h2, Option.bind_some, wrI (by omega) (by omega)]
      by_cases g1 : x = y <;> simp [g1]
    · simp only [r12_Same_0_step]
      rw [if_neg (by omega)]
  · rw [if_pos hl, decide_eq_false (fun e => hl (by rw [e]))]
theorem same_log' (a b : List GEntry) (h : a.length ≤ 4294967295) : r06_Same a b = some (decide (a = b)) := by
  unfold r06_Same
  by_cases hl : (a.length : Int) = b.length
  · rw [if_neg (fun e => e hl)]
    have e := loopO_eqs (f := fun s => r06_Same_0_step a b s) a b (by omega) (fun k x y hk h1 h2 => ?_) ?_
    · unfold r06_Same_0
      rw [e, Option.bind_some]
      by_cases hh : a = b
      · rw [if_pos hh, decide_eq_true hh]; rfl
      · rw [if_neg hh, decide_eq_false hh]; rfl
    · simp only [r06_Same_0_step]
      rw [if_pos (by omega), idx_get h1, Option.bind_some, idx_get h2, Option.bind_some, wrI (by omega) (by omega)]
      obtain ⟨x1, x2⟩ := x
      obtain ⟨y1, y2⟩ := y
      by_cases g1 : x1 = y1 <;> by_cases g2 : x2 = y2 <;> simp [g1, g2]
    · simp only [r06_Same_0_step]
      rw [if_neg (by omega)]
  · rw [if_pos hl, decide_eq_false (fun e => hl (by rw [e]))]
structure LIn (m : GMem) : Prop where
  ports : m.Ports.length ≤ 4294967295
  hold : m.Hold.length ≤ 4294967295
  log : m.Log.length ≤ 4294967295
theorem ne_stp {α : Type} [DecidableEq α] {x y : α} {r : Option Bool} {q : Prop} [Decidable q] (hq : q → x = y) (h : x = y → r = some (decide q)) : (if x ≠ y then some false else r) = some (decide q) := by
  by_cases e : x = y
  · rw [if_neg (fun g => g e), h e]
  · rw [if_pos e, decide_eq_false (fun g => e (hq g))]
theorem same_eq' (a b : GMem) (h : LIn a) : r28_Same a b = some (decide (a = b)) := by
  unfold r28_Same
  rw [same_ports' _ _ h.ports, same_hold' _ _ h.hold, same_log' _ _ h.log]
  refine ne_stp (fun e => by rw [e]) fun h1 => ne_stp (fun e => by rw [e]) fun h2 => ne_stp (fun e => by rw [e]) fun h3 => ne_stp (fun e => by rw [e]) fun h4 => ne_stp (fun e => by rw [e]) fun h5 => ne_stp (fun e => by rw [e]) fun h6 => ?_
  have hd : (!(decide (a.Diag.a0 = b.Diag.a0) && (decide (a.Diag.a1 = b.Diag.a1) && (decide (a.Diag.a2 = b.Diag.a2) && (decide (a.Diag.a3 = b.Diag.a3) && (decide (a.Diag.a4 = b.Diag.a4) && (decide (a.Diag.a5 = b.Diag.a5) && true)))))) ) = true ↔ a.Diag ≠ b.Diag := by
    generalize a.Diag = d
    generalize b.Diag = e
    obtain ⟨d0, d1, d2, d3, d4, d5⟩ := d
    obtain ⟨e0, e1, e2, e3, e4, e5⟩ := e
    simp only [Bool.not_eq_true', Bool.and_eq_false_iff, decide_eq_false_iff_not, Bool.true_eq_false, or_false, ne_eq, Ar6.mk.injEq, Classical.not_and_iff_not_or_not]
  by_cases h7 : a.Diag = b.Diag
  · rw [if_neg (fun g => hd.1 g h7)]
    refine ne_stp (fun e => by rw [e]) fun h8 => ne_stp (fun e => by rw [e]) fun h9 => ne_stp (fun e => by rw [e]) fun h10 => ne_stp (fun e => by rw [e]) fun h11 => ne_stp (fun e => by rw [e]) fun h12 => ne_stp (fun e => by rw [e]) fun h13 => ne_stp (fun e => by rw [e]) fun h14 => ne_stp (fun e => by rw [e]) fun h15 => ne_stp (fun e => by rw [e]) fun h16 => ?_
    rw [Option.bind_some, Option.bind_some, Option.bind_some]
    by_cases g1 : a.Ports = b.Ports
    · rw [decide_eq_true g1, if_pos rfl]
      by_cases g2 : a.Hold = b.Hold
      · rw [decide_eq_true g2, if_pos rfl]
        refine some_dec ?_
        rw [decide_eq_true_eq]
        constructor
        · intro g3
          cases a; cases b
          simp only [GMem.mk.injEq]
          exact ⟨h1, h2, h3, h8, h4, h9, h10, h5, h6, h11, h12, h13, h14, h15, h16, g1, g2, g3, h7⟩
        · intro e; rw [e]
      · rw [decide_eq_false g2, if_neg (by decide), decide_eq_false (fun e => g2 (by rw [e]))]
    · rw [decide_eq_false g1, if_neg (by decide), decide_eq_false (fun e => g1 (by rw [e]))]
  · rw [if_pos (hd.2 h7), decide_eq_false (fun e => h7 (by rw [e]))]
end Go.Proofs.Ytnbmaoendgafbaa

set_option linter.unusedVariables false
set_option linter.unusedSimpArgs false
namespace Go.Proofs.Ytnbmaoendgafbaa
open Go.Proofs.PF
theorem few0 (m : GMem) (hm : (m.Hold.length : Int) ≤ 9223372036854775807) : ∀ (j k : Nat) (t : Int), k + j = m.Hold.length → (k : Int) ≤ t → t ≤ 20000 →
    ∃ r, loopO (fun s : Int × Int => r28_Few_0_step m s.1 s.2) (t, (k : Int)) = some r ∧ t ≤ r ∧ r ≤ 20000 ∧ (r < 10000 → m.Hold.length ≤ r)
  | 0, k, t, hk, h1, h2 => ⟨t, loopO_inr (by simp only [r28_Few_0_step]; rw [if_neg (by omega)]), by omega, by omega, by omega⟩
  | j + 1, k, t, hk, h1, h2 => by
    have hlt : k < m.Hold.length := by omega
    have hg := List.getElem?_eq_getElem hlt
    by_cases ht : t < 10000
    · have hw : wr (wr (t + 1) + min (m.Hold[k].length : Int) 10000) = t + 1 + min (m.Hold[k].length : Int) 10000 := by
        rw [wrI (n := t + 1) (by omega) (by omega), wrI (by omega) (by omega)]
      obtain ⟨r, e, a, b, c⟩ := few0 m hm j (k + 1) (t + 1 + min (m.Hold[k].length : Int) 10000) (by omega) (by omega) (by omega)
      refine ⟨r, ?_, by omega, b, c⟩
      rw [loopO_inl (t := (t + 1 + min (m.Hold[k].length : Int) 10000, ((k + 1 : Nat) : Int))) ?_, e]
      simp only [r28_Few_0_step]
      rw [if_pos (by omega), if_pos ht, idx_get hg, Option.bind_some, hw, wrI (n := (k : Int) + 1) (by omega) (by omega)]
      rfl
    · exact ⟨t, loopO_inr (by simp only [r28_Few_0_step]; rw [if_pos (by omega), if_neg ht]), by omega, by omega, by omega⟩
theorem few1 (m : GMem) (hm : (m.Ports.length : Int) ≤ 9223372036854775807) : ∀ (j k : Nat) (t : Int), k + j = m.Ports.length → (k : Int) ≤ t → t ≤ 20000 →
    ∃ r, loopO (fun s : Int × Int => r28_Few_1_step m s.1 s.2) (t, (k : Int)) = some r ∧ t ≤ r ∧ r ≤ 20000 ∧ (r < 10000 → m.Ports.length ≤ r)
  | 0, k, t, hk, h1, h2 => ⟨t, loopO_inr (by simp only [r28_Few_1_step]; rw [if_neg (by omega)]), by omega, by omega, by omega⟩
  | j + 1, k, t, hk, h1, h2 => by
    have hlt : k < m.Ports.length := by omega
    have hg := List.getElem?_eq_getElem hlt
    by_cases ht : t < 10000
    · have hw : wr (wr (t + 1) + min (m.Ports[k].Text.length : Int) 10000) = t + 1 + min (m.Ports[k].Text.length : Int) 10000 := by
        rw [wrI (n := t + 1) (by omega) (by omega), wrI (by omega) (by omega)]
      obtain ⟨r, e, a, b, c⟩ := few1 m hm j (k + 1) (t + 1 + min (m.Ports[k].Text.length : Int) 10000) (by omega) (by omega) (by omega)
      refine ⟨r, ?_, by omega, b, c⟩
      rw [loopO_inl (t := (t + 1 + min (m.Ports[k].Text.length : Int) 10000, ((k + 1 : Nat) : Int))) ?_, e]
      simp only [r28_Few_1_step]
      rw [if_pos (by omega), if_pos ht, idx_get hg, Option.bind_some, hw, wrI (n := (k : Int) + 1) (by omega) (by omega)]
      rfl
    · exact ⟨t, loopO_inr (by simp only [r28_Few_1_step]; rw [if_pos (by omega), if_neg ht]), by omega, by omega, by omega⟩
theorem few2 (l : List (List UInt8)) (m : GMem) (hm : l.length ≤ 9) : ∀ (j k : Nat) (t : Int), k + j = l.length → 0 ≤ t → t ≤ 20000 + 10000 * k →
    ∃ r, loopO (fun s : Int × Int => r28_Few_2_step l l.length m s.1 s.2) (t, (k : Int)) = some r ∧ t ≤ r ∧ r ≤ 20000 + 10000 * l.length ∧ (r < 10000 → ∀ x ∈ l.drop k, x.length < 10000)
  | 0, k, t, hk, h1, h2 => ⟨t, loopO_inr (by simp only [r28_Few_2_step]; rw [if_neg (by omega)]), by omega, by omega, fun _ x hx => by rw [List.drop_eq_nil_of_le (by omega)] at hx; cases hx⟩
  | j + 1, k, t, hk, h1, h2 => by
    have hlt : k < l.length := by omega
    have hg := List.getElem?_eq_getElem hlt
    obtain ⟨r, e, a, b, c⟩ := few2 l m hm j (k + 1) (t + min (l[k].length : Int) 10000) (by omega) (by omega) (by omega)
    refine ⟨r, ?_, by omega, b, fun hr x hx => ?_⟩
    · rw [loopO_inl (t := (t + min (l[k].length : Int) 10000, ((k + 1 : Nat) : Int))) ?_, e]
      simp only [r28_Few_2_step]
      rw [if_pos (by omega), idx_get hg, Option.bind_some, wrI (n := t + min (l[k].length : Int) 10000) (by omega) (by omega), wrI (n := (k : Int) + 1) (by omega) (by omega)]
      rfl
    · rw [List.drop_eq_getElem_cons hlt] at hx
      rcases List.mem_cons.1 hx with e | e
      · rw [e]; omega
      · exact c hr x e
/-- The lists' lengths are numbers. -/
structure Lens (m : GMem) : Prop where
  ports : (m.Ports.length : Int) ≤ 9223372036854775807
  hold : (m.Hold.length : Int) ≤ 9223372036854775807
theorem few_eq (m : GMem) (hm : Lens m) : ∃ b, r28_Few m = some b ∧ (b = true → m.Pipe.length < 10000 ∧ m.Ports.length < 10000 ∧ m.Hold.length < 10000 ∧ m.Log.length < 1000) := by
  obtain ⟨r0, e0, a0, b0, c0⟩ := few0 m hm.hold m.Hold.length 0 0 (by omega) (by omega) (by omega)
  obtain ⟨r1, e1, a1, b1, c1⟩ := few1 m hm.ports m.Ports.length 0 r0 (by omega) (by omega) (by omega)
  obtain ⟨r2, e2, a2, b2, c2⟩ := few2 [m.Pipe, m.Vec, m.Agreed, m.Members, m.Seen, m.Heard, m.Sent, m.Out, m.Line] m (by simp) 9 0 r1 (by simp) (by omega) (by omega)
  have d0 : r28_Few_0 m 0 0 = some r0 := e0
  have d1 : r28_Few_1 m r0 0 = some r1 := e1
  have d2 : r28_Few_2 [m.Pipe, m.Vec, m.Agreed, m.Members, m.Seen, m.Heard, m.Sent, m.Out, m.Line] (List.length [m.Pipe, m.Vec, m.Agreed, m.Members, m.Seen, m.Heard, m.Sent, m.Out, m.Line] : Int) m r1 0 = some r2 := e2
  unfold r28_Few
  rw [d0, Option.bind_some, d1, Option.bind_some, d2, Option.bind_some]
  by_cases h : r2 < 10000
  · rw [if_pos h]
    refine ⟨_, rfl, fun hb => ?_⟩
    have hb := of_decide_eq_true hb
    exact ⟨c2 h _ (by simp), by have := c1 (by omega); omega, by have := c0 (by omega); omega, by omega⟩
  · rw [if_neg h]
    exact ⟨_, rfl, fun hb => Bool.noConfusion hb⟩
/-- A memory that is fine for a conf. -/
structure Fine (c : GConf) (m : GMem) : Prop where
  clock : 0 ≤ m.Clock ∧ m.Clock < 65536
  anchor : 0 ≤ m.Anchor ∧ m.Anchor < 65536
  since : 0 ≤ m.Since ∧ m.Since ≤ c.Period
  pipe : (m.Pipe.length : Int) = lenV c ∧ ∀ b ∈ m.Pipe, dg 53 b = b
  age : 0 ≤ m.Age ∧ m.Age ≤ lenV c
  vec : m.Vec = [] ∨ (m.Vec.length : Int) = 8 + c.N ∧ ∀ b ∈ m.Vec, dg 53 b = b
  agreed : m.Agreed = [] ∨ (m.Agreed.length : Int) = 8 + c.N ∧ ∀ b ∈ m.Agreed, dg 49 b = b
  number : 0 ≤ m.Number ∧ m.Number < c.Mod
  regular : 0 ≤ m.Regular ∧ m.Regular ≤ 2
  members : (m.Members.length : Int) = c.N ∧ ∀ b ∈ m.Members, b = 48 ∨ b = 49
  seen : (m.Seen.length : Int) = c.N ∧ ∀ b ∈ m.Seen, b = 48 ∨ b = 49
  heard : m.Heard.length = c.Table.length ∧ ∀ b ∈ m.Heard, b = 48 ∨ b = 49
  sent : m.Sent.length = c.Table.length ∧ ∀ b ∈ m.Sent, b = 48 ∨ b = 49
  out : m.Out.length ≤ 16
  line : m.Line.length ≤ 16
  ports : (m.Ports.length : Int) = c.N ∧ ∀ p ∈ m.Ports, p.Text.length ≤ 16 ∧ (0 ≤ p.Cycle ∧ p.Cycle < c.Mod) ∧ 0 ≤ p.Age ∧ p.Age ≤ c.Fresh
  hold : (m.Hold.length : Int) = c.N * c.D ∧ ∀ s ∈ m.Hold, s.length ≤ 40
  log : m.Log.length ≤ 64 ∧ ∀ e ∈ m.Log, (0 ≤ e.From ∧ e.From < c.N) ∧ 0 ≤ e.At ∧ e.At < 65536
  diag : (0 ≤ m.Diag.a0 ∧ m.Diag.a0 ≤ 65535) ∧ (0 ≤ m.Diag.a1 ∧ m.Diag.a1 ≤ 65535) ∧ (0 ≤ m.Diag.a2 ∧ m.Diag.a2 ≤ 65535) ∧ (0 ≤ m.Diag.a3 ∧ m.Diag.a3 ≤ 65535) ∧ (0 ≤ m.Diag.a4 ∧ m.Diag.a4 ≤ 65535) ∧ (0 ≤ m.Diag.a5 ∧ m.Diag.a5 ≤ 65535)
theorem dg_dg (last : Int) (h : 48 ≤ last) (b : UInt8) : dg last (dg last b) = dg last b := by
  unfold dg
  by_cases h1 : (b.toNat : Int) < 48
  · rw [if_pos h1]; simp
  · rw [if_neg h1]
    by_cases h2 : last < (b.toNat : Int)
    · rw [if_pos h2]; simp
    · rw [if_neg h2, if_neg h1, if_neg h2]
theorem dgAt_fine (last : Int) (h : 48 ≤ last) (s : List UInt8) (k : Nat) : dg last (dgAt s last k) = dgAt s last k := by
  unfold dgAt
  split
  · exact dg_dg last h _
  · unfold dg; rw [if_neg (by decide)]; split <;> rfl
theorem row_fine (s : List UInt8) (n last : Int) (h : 48 ≤ last) : rowV s n last = [] ∨ ((rowV s n last).length : Int) = n ∧ ∀ b ∈ rowV s n last, dg last b = b := by
  unfold rowV
  split
  · exact .inl rfl
  · rename_i hn
    refine .inr ⟨by rw [List.length_map]; exact Classical.not_not.1 hn, fun b hb => ?_⟩
    obtain ⟨a, _, e⟩ := List.mem_map.1 hb
    rw [← e]; exact dg_dg last h a
theorem mark_fine (s : List UInt8) (n : Int) (hn : 0 ≤ n) : ((markV s n).length : Int) = n ∧ ∀ b ∈ markV s n, b = 48 ∨ b = 49 := by
  unfold markV
  refine ⟨by rw [List.length_map, List.length_range]; omega, fun b hb => ?_⟩
  obtain ⟨a, _, e⟩ := List.mem_map.1 hb
  rw [← e]; unfold markAt; split
  · exact .inr rfl
  · exact .inl rfl
theorem mod_fine (n b : Int) (h : 0 < b) : 0 ≤ n % b ∧ n % b < b := ⟨Int.emod_nonneg n (by omega), Int.emod_lt_of_pos n h⟩
theorem mend_fine (c : GConf) (m : GMem) (hp : Pl c) : Fine c (mendV c m) := by
  have hl := lenV_in c hp
  obtain ⟨n0, n1, d0, d1, m0, m1, f0, f1, a, b, p0, p1, t0, t1⟩ := pl_in c hp
  refine ⟨mod_fine _ _ (by omega), mod_fine _ _ (by omega), clamp_in _ _ _ (by omega), ⟨?_, ?_⟩, clamp_in _ _ _ (by omega), row_fine _ _ _ (by omega), row_fine _ _ _ (by omega), mod_fine _ _ (by omega), clamp_in _ _ _ (by omega),
    mark_fine _ _ (by omega), mark_fine _ _ (by omega), ?_, ?_, ?_, ?_, ⟨?_, ?_⟩, ⟨?_, ?_⟩, ⟨?_, ?_⟩, ⟨clamp_in _ _ _ (by omega), clamp_in _ _ _ (by omega), clamp_in _ _ _ (by omega), clamp_in _ _ _ (by omega), clamp_in _ _ _ (by omega), clamp_in _ _ _ (by omega)⟩⟩
  · show ((pipeV c m.Pipe).length : Int) = _
    unfold pipeV; rw [List.length_map, List.length_range]; omega
  · intro b hb
    obtain ⟨a, _, e⟩ := List.mem_map.1 hb
    rw [← e]; exact dgAt_fine 53 (by omega) _ _
  · have := mark_fine m.Heard c.Table.length (by omega)
    exact ⟨by have := this.1; exact Int.ofNat_inj.1 this, this.2⟩
  · have := mark_fine m.Sent c.Table.length (by omega)
    exact ⟨by have := this.1; exact Int.ofNat_inj.1 this, this.2⟩
  · show (m.Out.take 16).length ≤ 16
    rw [List.length_take]; omega
  · show (m.Line.take 16).length ≤ 16
    rw [List.length_take]; omega
  · show ((portsV c m.Ports).length : Int) = _
    unfold portsV
    split
    · rw [List.length_replicate]; omega
    · rename_i h; rw [List.length_map]; exact Classical.not_not.1 h
  · intro p hpp
    have hpp : p ∈ portsV c m.Ports := hpp
    unfold portsV at hpp
    split at hpp
    · rw [(List.mem_replicate.1 hpp).2]
      exact ⟨by simp, ⟨by simp, by simp; omega⟩, by simp; omega, by simp⟩
    · obtain ⟨q, _, e⟩ := List.mem_map.1 hpp
      rw [← e]
      exact ⟨by show (q.Text.take 16).length ≤ 16; rw [List.length_take]; omega, mod_fine _ _ (by omega), clamp_in _ _ _ (by omega)⟩
  · show ((holdV c m.Hold).length : Int) = _
    unfold holdV
    split
    · rw [List.length_replicate]; omega
    · rename_i h; rw [List.length_map]; exact Classical.not_not.1 h
  · intro p hpp
    have hpp : p ∈ holdV c m.Hold := hpp
    unfold holdV at hpp
    split at hpp
    · rw [(List.mem_replicate.1 hpp).2]; simp
    · obtain ⟨q, _, e⟩ := List.mem_map.1 hpp
      rw [← e, List.length_take]; omega
  · show (notesV c m.Log).length ≤ 64
    unfold notesV
    have : ∀ l : List GEntry, (l.flatMap (noteV c)).length ≤ l.length := by
      intro l
      induction l with
      | nil => simp
      | cons x l ih => have := note_len c x; simp only [List.flatMap_cons, List.length_append, List.length_cons]; omega
    have := this (m.Log.drop (m.Log.length - 64))
    rw [List.length_drop] at this
    omega
  · intro e he
    have he : e ∈ notesV c m.Log := he
    unfold notesV at he
    obtain ⟨x, _, hx⟩ := List.mem_flatMap.1 he
    unfold noteV at hx
    split at hx
    · rename_i h
      rw [List.mem_singleton.1 hx]
      exact ⟨h, mod_fine _ _ (by omega)⟩
    · cases hx
theorem row_id (s : List UInt8) (n last : Int) (hn : 0 < n) (h : s = [] ∨ (s.length : Int) = n ∧ ∀ b ∈ s, dg last b = b) : rowV s n last = s := by
  unfold rowV
  rcases h with h | ⟨h1, h2⟩
  · subst h; split <;> rfl
  · rw [if_neg (fun e => e h1)]
    exact (List.map_congr_left h2).trans (List.map_id' s)
theorem mark_id (s : List UInt8) (n : Int) (h : (s.length : Int) = n ∧ ∀ b ∈ s, b = 48 ∨ b = 49) : markV s n = s := by
  unfold markV
  apply List.ext_getElem
  · simp; omega
  · intro k h1 h2
    simp only [List.getElem_map, List.getElem_range, markAt, List.getElem?_eq_getElem h2, Option.some.injEq]
    rcases h.2 _ (List.getElem_mem h2) with e | e
    · rw [e]; rfl
    · rw [e]; rfl
theorem mod_id (n b : Int) (h : 0 ≤ n ∧ n < b) : n % b = n := Int.emod_eq_of_lt h.1 h.2
theorem fine_mend (c : GConf) (m : GMem) (hp : Pl c) (h : Fine c m) : mendV c m = m := by
  have hl := lenV_in c hp
  obtain ⟨n0, n1, d0, d1, m0, m1, f0, f1, a, b, p0, p1, t0, t1⟩ := pl_in c hp
  obtain ⟨h1, h2, h3, h4, h5, h6, h7, h8, h9, h10, h11, h12, h13, h14, h15, h16, h17, h18, h19⟩ := h
  cases m
  rename_i v1 v2 v3 v4 v5 v6 v7 v8 v9 v10 v11 v12 v13 v14 v15 v16 v17 v18 v19
  cases v19
  simp only at h1 h2 h3 h4 h5 h6 h7 h8 h9 h10 h11 h12 h13 h14 h15 h16 h17 h18 h19
  simp only [mendV, GMem.mk.injEq]
  refine ⟨mod_id _ _ h1, mod_id _ _ h2, clamp_id _ _ _ h3.1 h3.2, ?_, clamp_id _ _ _ h5.1 h5.2, row_id _ _ _ (by omega) h6, row_id _ _ _ (by omega) h7, mod_id _ _ h8, clamp_id _ _ _ h9.1 h9.2,
    mark_id _ _ h10, mark_id _ _ h11, mark_id _ _ ⟨by rw [h12.1], h12.2⟩, mark_id _ _ ⟨by rw [h13.1], h13.2⟩, List.take_of_length_le h14, List.take_of_length_le h15, ?_, ?_, ?_, ?_⟩
  · unfold pipeV
    apply List.ext_getElem
    · simp; omega
    · intro k g1 g2
      simp only [List.getElem_map, List.getElem_range, dgAt, List.getElem?_eq_getElem g2]
      exact h4.2 _ (List.getElem_mem g2)
  · unfold portsV
    rw [if_neg (fun e => e h16.1)]
    refine (List.map_congr_left fun p hpp => ?_).trans (List.map_id' _)
    obtain ⟨g1, g2, g3, g4⟩ := h16.2 p hpp
    cases p
    simp only at g1 g2 g3 g4
    simp only [portV, GPort.mk.injEq]
    exact ⟨List.take_of_length_le g1, mod_id _ _ g2, clamp_id _ _ _ g3 g4⟩
  · unfold holdV
    rw [if_neg (fun e => e h17.1)]
    exact (List.map_congr_left fun p hpp => List.take_of_length_le (h17.2 p hpp)).trans (List.map_id' _)
  · unfold notesV
    rw [show v18.length - 64 = 0 by have := h18.1; omega, List.drop_zero]
    have : ∀ l : List GEntry, (∀ e ∈ l, (0 ≤ e.From ∧ e.From < c.N) ∧ 0 ≤ e.At ∧ e.At < 65536) → l.flatMap (noteV c) = l := by
      intro l
      induction l with
      | nil => intro _; rfl
      | cons x l ih =>
        intro hh
        rw [List.flatMap_cons, ih fun e he => hh e (List.mem_cons_of_mem _ he)]
        have hx := hh x (List.mem_cons_self ..)
        unfold noteV
        rw [if_pos hx.1, mod_id _ _ hx.2]
        rfl
    exact this _ h18.2
  · simp only [diagV, Ar6.mk.injEq]
    obtain ⟨g0, g1, g2, g3, g4, g5⟩ := h19
    exact ⟨clamp_id _ _ _ g0.1 g0.2, clamp_id _ _ _ g1.1 g1.2, clamp_id _ _ _ g2.1 g2.2, clamp_id _ _ _ g3.1 g3.2, clamp_id _ _ _ g4.1 g4.2, clamp_id _ _ _ g5.1 g5.2⟩
end Go.Proofs.Ytnbmaoendgafbaa

set_option linter.unusedVariables false
set_option linter.unusedSimpArgs false
namespace Go.Proofs.Ytnbmaoendgafbaa
open Go.Proofs.PF
open Classical in
noncomputable def mendW (c : GConf) (m : GMem) : GMem := if Pl c then mendV c m else noMem
structure Sm (m : GMem) : Prop where
  pipe : m.Pipe.length < 10000
  ports : m.Ports.length < 10000
  hold : m.Hold.length < 10000
  log : m.Log.length < 10000
theorem Sm.m {m : GMem} (h : Sm m) : MIn m := ⟨by have := h.pipe; omega, by have := h.log; omega⟩
theorem Sm.l {m : GMem} (h : Sm m) : LIn m := ⟨by have := h.ports; omega, by have := h.hold; omega, by have := h.log; omega⟩
theorem noMem_sm : Sm noMem := ⟨by decide, by decide, by decide, by decide⟩
theorem fine_sm (c : GConf) (m : GMem) (hp : Pl c) (h : Fine c m) : Sm m := by
  have hl := lenV_in c hp
  obtain ⟨n0, n1, d0, d1, m0, m1, f0, f1, a, b, p0, p1, t0, t1⟩ := pl_in c hp
  exact ⟨by have := h.pipe.1; omega, by have := h.ports.1; omega, by have := h.hold.1; omega, by have := h.log.1; omega⟩
theorem mendW_sm (c : GConf) (m : GMem) : Sm (mendW c m) := by
  unfold mendW
  split
  · rename_i hp; exact fine_sm c _ hp (mend_fine c m hp)
  · exact noMem_sm
theorem mend_w (c : GConf) (m : GMem) (hc : CIn c) (hm : Sm m) : mem_Mend c m = some (mendW c m) := by
  unfold mendW
  by_cases hp : Pl c
  · rw [if_pos hp, mend_eq c m hc hp hm.m]
  · rw [if_neg hp]
    unfold mem_Mend
    rw [conf_plain c hc, Option.bind_some, if_pos (fun e => hp ((plain_zero c).1 e))]; rfl
theorem mend_w' (c : GConf) (m : GMem) (hc : CIn c) (hm : Sm m) : r28_Mend c m = some (mendW c m) := by
  unfold mendW
  by_cases hp : Pl c
  · rw [if_pos hp, mend_eq' c m hc hp hm.m]
  · rw [if_neg hp]
    unfold r28_Mend
    rw [r03_plain c hc, Option.bind_some, if_pos (fun e => hp ((plain_zero c).1 e))]; rfl
open Classical in
noncomputable def wellV (c : GConf) (m : GMem) : Bool := if Pl c then decide (m = mendV c m) else false
theorem well_eq' (c : GConf) (m : GMem) (hc : CIn c) (hm : Sm m) : r28_Well c m = some (wellV c m) := by
  unfold r28_Well wellV
  rw [r03_plain c hc, Option.bind_some]
  by_cases hp : Pl c
  · rw [if_pos ((plain_zero c).2 hp), if_pos hp, mend_eq' c m hc hp hm.m, Option.bind_some, same_eq' _ _ (fine_sm c _ hp (mend_fine c m hp)).l, Option.bind_some]
    exact some_dec (by rw [decide_eq_true_iff]; exact eq_comm)
  · rw [if_neg (fun e => hp ((plain_zero c).1 e)), if_neg hp]
noncomputable def blankV (c : GConf) : GMem := if plainV c = 0 then { mendW c noMem with Since := c.Period } else mendW c noMem
theorem blankV_sm (c : GConf) : Sm (blankV c) := by
  have h := mendW_sm c noMem
  unfold blankV
  split
  · exact ⟨h.pipe, h.ports, h.hold, h.log⟩
  · exact h
theorem blank_w' (c : GConf) (hc : CIn c) : r28_Blank c = some (blankV c) := by
  have e : r28_Mend c noMem = some (mendW c noMem) := mend_w' c _ hc noMem_sm
  unfold r28_Blank blankV
  rw [show r28_Mend c (GMem.mk 0 0 0 ([] : List UInt8) 0 ([] : List UInt8) ([] : List UInt8) 0 0 ([] : List UInt8) ([] : List UInt8) ([] : List UInt8) ([] : List UInt8) ([] : List UInt8) ([] : List UInt8) ([] : List GPort) ([] : List (List UInt8)) ([] : List GEntry) (Ar6.mk 0 0 0 0 0 0)) = _ from e, Option.bind_some, r03_plain c hc, Option.bind_some]
  split <;> rfl
noncomputable def hostV (c : GConf) (m : GMem) (t : List UInt8) : GMem × Int := if plainV c ≠ 0 then (noMem, plainV c) else if (16 : Int) < t.length then (noMem, 15) else ({ m with Out := t }, 0)
theorem hostV_sm (c : GConf) (m : GMem) (t : List UInt8) (hm : Sm m) : Sm (hostV c m t).1 := by
  unfold hostV
  split
  · exact noMem_sm
  · split
    · exact noMem_sm
    · exact ⟨hm.pipe, hm.ports, hm.hold, hm.log⟩
theorem few_sm (m : GMem) (hm : Lens m) : ∃ b, r28_Few m = some b ∧ (b = true → Sm m) := by
  obtain ⟨b, h1, h2⟩ := few_eq m hm
  exact ⟨b, h1, fun h => have ⟨a, b, c, d⟩ := h2 h; ⟨a, b, c, by omega⟩⟩
theorem same_self' (m : GMem) (h : Sm m) : r28_Same m m = some true := by rw [same_eq' _ _ h.l, decide_eq_true rfl]
theorem cin_zero : CIn (GConf.mk 0 0 0 0 0 0 0 0 0 0 ([] : List Int)) := ⟨by unfold I; decide, by unfold I; decide, by unfold I; decide, by unfold I; decide, by unfold I; decide, by unfold I; decide, by decide, by simp⟩
theorem wellV_fine (c : GConf) (m : GMem) (hp : Pl c) (h : Fine c m) : wellV c m = true := by
  unfold wellV
  rw [if_pos hp, fine_mend c m hp h]
  simp
end Go.Proofs.Ytnbmaoendgafbaa

set_option linter.unusedVariables false
set_option linter.unusedSimpArgs false
namespace Go.Proofs.Ytnbmaoendgafbaa
open Go.Proofs.PF
theorem no_stp {p : Prop} [Decidable p] {r : Option Bool} (h : ¬ p) (hr : r = some true) : (if p then some false else r) = some true := by rw [if_neg h, hr]
theorem GPort.dec {cs : List AV} (h : wfcs [.s, .i .i64, .i .i64] cs) : ∃ p : GPort, mkE true cs = p.av ∧ True := by
  obtain ⟨_, _, rfl, h0, h⟩ := wfcs_cons h
  obtain ⟨_, _, rfl, h1, h⟩ := wfcs_cons h
  obtain ⟨_, _, rfl, h2, h⟩ := wfcs_cons h
  obtain rfl := wfcs_nil h
  obtain ⟨x0, rfl, i0⟩ := wfc_s h0
  obtain ⟨x1, rfl, i1⟩ := wfc_i64 h1
  obtain ⟨x2, rfl, i2⟩ := wfc_i64 h2
  exact ⟨⟨x0, x1, x2⟩, rfl, trivial⟩
theorem GEntry.dec {cs : List AV} (h : wfcs [.i .i64, .i .i64] cs) : ∃ p : GEntry, mkE true cs = p.av ∧ True := by
  obtain ⟨_, _, rfl, h0, h⟩ := wfcs_cons h
  obtain ⟨_, _, rfl, h1, h⟩ := wfcs_cons h
  obtain rfl := wfcs_nil h
  obtain ⟨x0, rfl, i0⟩ := wfc_i64 h0
  obtain ⟨x1, rfl, i1⟩ := wfc_i64 h1
  exact ⟨⟨x0, x1⟩, rfl, trivial⟩
theorem GConf.dec {cs : List AV} (h : wfcs [.i .i64, .i .i64, .i .i64, .i .i64, .i .i64, .i .i64, .i .i64, .i .i64, .i .i64, .i .i64, .l [.i .i64] false] cs) : ∃ c : GConf, mkE true cs = c.av ∧ CIn c := by
  obtain ⟨_, _, rfl, h0, h⟩ := wfcs_cons h
  obtain ⟨_, _, rfl, h1, h⟩ := wfcs_cons h
  obtain ⟨_, _, rfl, h2, h⟩ := wfcs_cons h
  obtain ⟨_, _, rfl, h3, h⟩ := wfcs_cons h
  obtain ⟨_, _, rfl, h4, h⟩ := wfcs_cons h
  obtain ⟨_, _, rfl, h5, h⟩ := wfcs_cons h
  obtain ⟨_, _, rfl, h6, h⟩ := wfcs_cons h
  obtain ⟨_, _, rfl, h7, h⟩ := wfcs_cons h
  obtain ⟨_, _, rfl, h8, h⟩ := wfcs_cons h
  obtain ⟨_, _, rfl, h9, h⟩ := wfcs_cons h
  obtain ⟨_, _, rfl, h10, h⟩ := wfcs_cons h
  obtain rfl := wfcs_nil h
  obtain ⟨x0, rfl, i0⟩ := wfc_i64 h0
  obtain ⟨x1, rfl, i1⟩ := wfc_i64 h1
  obtain ⟨x2, rfl, i2⟩ := wfc_i64 h2
  obtain ⟨x3, rfl, i3⟩ := wfc_i64 h3
  obtain ⟨x4, rfl, i4⟩ := wfc_i64 h4
  obtain ⟨x5, rfl, i5⟩ := wfc_i64 h5
  obtain ⟨x6, rfl, i6⟩ := wfc_i64 h6
  obtain ⟨x7, rfl, i7⟩ := wfc_i64 h7
  obtain ⟨x8, rfl, i8⟩ := wfc_i64 h8
  obtain ⟨x9, rfl, i9⟩ := wfc_i64 h9
  obtain ⟨x10, rfl, i10, j10⟩ := wfc_list iav I (fun cs h => by obtain ⟨n, e, hn⟩ := wfc_i64 (wfcs_one h); exact ⟨n, e, hn⟩) h10
  exact ⟨⟨x0, x1, x2, x3, x4, x5, x6, x7, x8, x9, x10⟩, rfl, ⟨i0, i1, i2, i3, i4, i5, by show ((x10.length : Nat) : Int) ≤ _; omega, i10⟩⟩
theorem GMem.dec {cs : List AV} (h : wfcs [.i .i64, .i .i64, .i .i64, .s, .i .i64, .s, .s, .i .i64, .i .i64, .s, .s, .s, .s, .s, .s, .l [.s, .i .i64, .i .i64] true, .l [.s] false, .l [.i .i64, .i .i64] true, .i .i64, .i .i64, .i .i64, .i .i64, .i .i64, .i .i64] cs) : ∃ m : GMem, mkE true cs = m.av ∧ Lens m := by
  obtain ⟨_, _, rfl, h0, h⟩ := wfcs_cons h
  obtain ⟨_, _, rfl, h1, h⟩ := wfcs_cons h
  obtain ⟨_, _, rfl, h2, h⟩ := wfcs_cons h
  obtain ⟨_, _, rfl, h3, h⟩ := wfcs_cons h
  obtain ⟨_, _, rfl, h4, h⟩ := wfcs_cons h
  obtain ⟨_, _, rfl, h5, h⟩ := wfcs_cons h
  obtain ⟨_, _, rfl, h6, h⟩ := wfcs_cons h
  obtain ⟨_, _, rfl, h7, h⟩ := wfcs_cons h
  obtain ⟨_, _, rfl, h8, h⟩ := wfcs_cons h
  obtain ⟨_, _, rfl, h9, h⟩ := wfcs_cons h
  obtain ⟨_, _, rfl, h10, h⟩ := wfcs_cons h
  obtain ⟨_, _, rfl, h11, h⟩ := wfcs_cons h
  obtain ⟨_, _, rfl, h12, h⟩ := wfcs_cons h
  obtain ⟨_, _, rfl, h13, h⟩ := wfcs_cons h
  obtain ⟨_, _, rfl, h14, h⟩ := wfcs_cons h
  obtain ⟨_, _, rfl, h15, h⟩ := wfcs_cons h
  obtain ⟨_, _, rfl, h16, h⟩ := wfcs_cons h
  obtain ⟨_, _, rfl, h17, h⟩ := wfcs_cons h
  obtain ⟨_, _, rfl, h18, h⟩ := wfcs_cons h
  obtain ⟨_, _, rfl, h19, h⟩ := wfcs_cons h
  obtain ⟨_, _, rfl, h20, h⟩ := wfcs_cons h
  obtain ⟨_, _, rfl, h21, h⟩ := wfcs_cons h
  obtain ⟨_, _, rfl, h22, h⟩ := wfcs_cons h
  obtain ⟨_, _, rfl, h23, h⟩ := wfcs_cons h
  obtain rfl := wfcs_nil h
  obtain ⟨x0, rfl, i0⟩ := wfc_i64 h0
  obtain ⟨x1, rfl, i1⟩ := wfc_i64 h1
  obtain ⟨x2, rfl, i2⟩ := wfc_i64 h2
  obtain ⟨x3, rfl, i3⟩ := wfc_s h3
  obtain ⟨x4, rfl, i4⟩ := wfc_i64 h4
  obtain ⟨x5, rfl, i5⟩ := wfc_s h5
  obtain ⟨x6, rfl, i6⟩ := wfc_s h6
  obtain ⟨x7, rfl, i7⟩ := wfc_i64 h7
  obtain ⟨x8, rfl, i8⟩ := wfc_i64 h8
  obtain ⟨x9, rfl, i9⟩ := wfc_s h9
  obtain ⟨x10, rfl, i10⟩ := wfc_s h10
  obtain ⟨x11, rfl, i11⟩ := wfc_s h11
  obtain ⟨x12, rfl, i12⟩ := wfc_s h12
  obtain ⟨x13, rfl, i13⟩ := wfc_s h13
  obtain ⟨x14, rfl, i14⟩ := wfc_s h14
  obtain ⟨x15, rfl, i15, j15⟩ := wfc_list GPort.av (fun _ => True) (fun cs h => GPort.dec h) h15
  obtain ⟨x16, rfl, i16, j16⟩ := wfc_list sav (fun _ => True) (fun cs h => by obtain ⟨n, e, hn⟩ := wfc_s (wfcs_one h); exact ⟨n, e, trivial⟩) h16
  obtain ⟨x17, rfl, i17, j17⟩ := wfc_list GEntry.av (fun _ => True) (fun cs h => GEntry.dec h) h17
  obtain ⟨x18, rfl, i18⟩ := wfc_i64 h18
  obtain ⟨x19, rfl, i19⟩ := wfc_i64 h19
  obtain ⟨x20, rfl, i20⟩ := wfc_i64 h20
  obtain ⟨x21, rfl, i21⟩ := wfc_i64 h21
  obtain ⟨x22, rfl, i22⟩ := wfc_i64 h22
  obtain ⟨x23, rfl, i23⟩ := wfc_i64 h23
  exact ⟨⟨x0, x1, x2, x3, x4, x5, x6, x7, x8, x9, x10, x11, x12, x13, x14, x15, x16, x17, ⟨x18, x19, x20, x21, x22, x23⟩⟩, rfl, ⟨by show ((x15.length : Nat) : Int) ≤ _; omega, by show ((x16.length : Nat) : Int) ≤ _; omega⟩⟩
end Go.Proofs.Ytnbmaoendgafbaa


set_option linter.unusedVariables false
set_option linter.unusedSimpArgs false
namespace Go.Proofs.Ytnbmaoendgafbaa
open Go.Proofs.PF
/-- A number in one byte; in two. -/
def n1 (z : Int) : List UInt8 := [UInt8.ofNat z.toNat]
def n2 (z : Int) : List UInt8 := [UInt8.ofNat (z % 256).toNat, UInt8.ofNat (z / 256).toNat]
/-- A text behind its length; one that may be none. -/
def tx (s : List UInt8) : List UInt8 := n1 s.length ++ s
def mb (s : List UInt8) : List UInt8 := if s = [] then n1 0 else n1 1 ++ s
def pt (p : GPort) : List UInt8 := tx p.Text ++ (n1 p.Cycle ++ n1 p.Age)
def en (e : GEntry) : List UInt8 := n1 e.From ++ n2 e.At
theorem n1_len (z : Int) : (n1 z).length = 1 := rfl
theorem n2_len (z : Int) : (n2 z).length = 2 := rfl
theorem tx_len (s : List UInt8) : (tx s).length = 1 + s.length := by simp [tx, n1]; omega
theorem mb_len (s : List UInt8) : (mb s).length ≤ 1 + s.length := by unfold mb; split <;> simp [n1]; omega
theorem ints_len (s : List UInt8) : (intsOf s).length = s.length := by simp [intsOf]
theorem ints_app (a b : List UInt8) : intsOf (a ++ b) = intsOf a ++ intsOf b := by simp [intsOf]
theorem bytes_ints (s : List UInt8) : bytesOf (intsOf s) = s := by
  simp only [bytesOf, intsOf, List.map_map]
  refine (List.map_congr_left fun b _ => ?_).trans (List.map_id s)
  simp
theorem w8_mod (n : Int) : w8 n = n % 256 := by
  unfold w8
  simp only [IntKind.wrap, IntKind.bits, IntKind.signed]
  simp
theorem shr_0 (z : Int) : shrI .i64 z 0 = z := by
  show z.fdiv (2 ^ min (0 : Int).toNat IntKind.i64.bits) = z
  rw [show (2 : Int) ^ min (0 : Int).toNat IntKind.i64.bits = 1 by decide]
  exact Int.fdiv_one z
theorem shr_8 (z : Int) (h : 0 ≤ z) : shrI .i64 z 8 = z / 256 := by
  show z.fdiv (2 ^ min (8 : Int).toNat IntKind.i64.bits) = _
  rw [show (2 : Int) ^ min (8 : Int).toNat IntKind.i64.bits = 256 by decide, Int.fdiv_eq_ediv_of_nonneg _ (by decide)]
theorem shr_16 (z : Int) (h : 0 ≤ z) : shrI .i64 z 16 = z / 65536 := by
  show z.fdiv (2 ^ min (16 : Int).toNat IntKind.i64.bits) = _
  rw [show (2 : Int) ^ min (16 : Int).toNat IntKind.i64.bits = 65536 by decide, Int.fdiv_eq_ediv_of_nonneg _ (by decide)]
theorem put1 (z : Int) (h0 : 0 ≤ z) (h1 : z < 256) : num_Put z 1 = some (n1 z, 0) := by
  have e : num_Put_0 z (Int.toNat 1) 1 0 (List.replicate (Int.toNat 1) 0) = some [z] := by
    unfold num_Put_0
    rw [loopO_inl (t := (1, [z])), loopO_inr]
    · simp only [num_Put_0_step]; rw [if_neg (by omega)]
    · simp only [num_Put_0_step]
      rw [if_pos (by omega), show wr (8 * 0) = 0 from wrI (by decide) (by decide), if_neg (by decide), if_pos (by decide), shr_0, w8_mod, show wr (0 + 1) = 1 from wrI (by decide) (by decide)]
      simp [mod?]; omega
  unfold num_Put num_fits
  rw [if_pos (by decide), Option.bind_some, if_neg (by decide), if_neg (by omega), show wr (8 * 1) = 8 from wrI (by decide) (by decide), if_neg (by decide), shr_8 z h0, if_neg (by simp; omega), if_pos (by decide), e, Option.bind_some]
  rfl
theorem put2 (z : Int) (h0 : 0 ≤ z) (h1 : z < 65536) : num_Put z 2 = some (n2 z, 0) := by
  have e : num_Put_0 z (Int.toNat 2) 2 0 (List.replicate (Int.toNat 2) 0) = some [z % 256, z / 256] := by
    unfold num_Put_0
    rw [loopO_inl (t := (1, [z % 256, 0])), loopO_inl (t := (2, [z % 256, z / 256])), loopO_inr]
    · simp only [num_Put_0_step]; rw [if_neg (by omega)]
    · simp only [num_Put_0_step]
      rw [if_pos (by omega), show wr (8 * 1) = 8 from wrI (by decide) (by decide), if_neg (by decide), if_pos (by decide), shr_8 z h0, w8_mod, show wr (1 + 1) = 2 from wrI (by decide) (by decide)]
      simp [mod?]; omega
    · simp only [num_Put_0_step]
      rw [if_pos (by omega), show wr (8 * 0) = 0 from wrI (by decide) (by decide), if_neg (by decide), if_pos (by decide), shr_0, w8_mod, show wr (0 + 1) = 1 from wrI (by decide) (by decide)]
      simp [mod?]
  unfold num_Put num_fits
  rw [if_pos (by decide), Option.bind_some, if_neg (by decide), if_neg (by omega), show wr (8 * 2) = 16 from wrI (by decide) (by decide), if_neg (by decide), shr_16 z h0, if_neg (by simp; omega), if_pos (by decide), e, Option.bind_some]
  rfl
/-- Bytes that are written. -/
abbrev Wm (out : List Int) : Gimage_memory := Gimage_memory.mk (Gimage_writer.mk out)
theorem lenMax_eq : lenMax = 4294967296 := rfl
/-- A loop that writes an item a round. -/
theorem loopW {α : Type} {f : Int × Gimage_memory → Option ((Int × Gimage_memory) ⊕ Gimage_memory)} (l : List α) (g : α → List UInt8) (m B : Nat) (hg : ∀ x ∈ l, (g x).length ≤ m)
    (h : ∀ (k : Nat) (x : α) (out : List Int), k < l.length → l[k]? = some x → x ∈ l → out.length + m ≤ B → f ((k : Int), Wm out) = some (.inl ((k : Int) + 1, Wm (out ++ intsOf (g x)))))
    (he : ∀ out, f ((l.length : Int), Wm out) = some (.inr (Wm out))) (out : List Int) (ho : out.length + l.length * m ≤ B) :
    loopO f (0, Wm out) = some (Wm (out ++ intsOf (l.flatMap g))) := by
  have : ∀ (j k : Nat) (out : List Int), k + j = l.length → out.length + j * m ≤ B → loopO f ((k : Int), Wm out) = some (Wm (out ++ intsOf ((l.drop k).flatMap g))) := by
    intro j
    induction j with
    | zero =>
      intro k out hk _
      have : k = l.length := by omega
      subst this
      rw [loopO_inr (he out), List.drop_length]
      simp [intsOf]
    | succ j ih =>
      intro k out hk ho
      have hlt : k < l.length := by omega
      have hm := hg l[k] (List.getElem_mem hlt)
      have : (j + 1) * m = j * m + m := Nat.succ_mul j m
      rw [loopO_inl (h k _ out hlt (List.getElem?_eq_getElem hlt) (List.getElem_mem hlt) (by omega)), show ((k : Int) + 1) = ((k + 1 : Nat) : Int) by omega,
        ih (k + 1) _ (by omega) (by rw [List.length_append, ints_len]; omega), List.drop_eq_getElem_cons hlt, List.flatMap_cons, ints_app, List.append_assoc]
  exact this l.length 0 out (by omega) ho
theorem raw_eq (l : List (List UInt8)) (m : Nat) (hm : ∀ s ∈ l, s.length ≤ m) (hl : l.length ≤ 100) (out : List Int) (ho : out.length + l.length * m ≤ 4294967296) :
    image_writer_raw l (Wm out) = some (Wm (out ++ intsOf l.flatten)) := by
  unfold image_writer_raw image_writer_raw_0
  rw [loopW l id m 4294967296 hm (fun k x out hk hx _ hb => ?_) (fun out => ?_) out ho]
  · simp [List.flatMap_id]
  · have := hm x (List.mem_of_getElem? hx)
    simp only [image_writer_raw_0_step]
    rw [if_pos (by omega), idx_get hx, Option.bind_some, if_pos (by rw [ints_len, lenMax_eq]; omega), wrI (by omega) (by omega)]
    rfl
  · simp only [image_writer_raw_0_step]; rw [if_neg (by omega)]
theorem raw1 (s : List UInt8) (out : List Int) (ho : out.length + s.length ≤ 4294967296) : image_writer_raw [s] (Wm out) = some (Wm (out ++ intsOf s)) := by
  rw [raw_eq [s] s.length (by simp) (by simp) out (by simpa using ho)]; simp
theorem number_eq (w : Int) (g : Int → List UInt8) (l : List Int) (hg : ∀ z ∈ l, num_Put z w = some (g z, 0) ∧ (g z).length ≤ 2) (hl : l.length ≤ 100) (out : List Int) (ho : out.length ≤ 4000000000) :
    image_writer_number w l (Wm out) = some (Wm (out ++ intsOf (l.flatMap g))) := by
  unfold image_writer_number image_writer_number_0
  rw [loopW l g 2 4294967296 (fun z hz => (hg z hz).2) (fun k x out hk hx hm hb => ?_) (fun out => ?_) out (by omega)]
  · rfl
  · have := hg x hm
    simp only [image_writer_number_0_step]
    rw [if_pos (by omega), idx_get hx, Option.bind_some, this.1, Option.bind_some, if_pos (by rw [ints_len, lenMax_eq]; have := this.2; simp only; omega), wrI (by omega) (by omega)]
  · simp only [image_writer_number_0_step]; rw [if_neg (by omega)]
/-- Fit for one byte; for two. -/
abbrev B1 (z : Int) : Prop := 0 ≤ z ∧ z < 256
abbrev B2 (z : Int) : Prop := 0 ≤ z ∧ z < 65536
theorem nums1 (l : List Int) (h : ∀ z ∈ l, B1 z) (hl : l.length ≤ 100) (out : List Int) (ho : out.length ≤ 4000000000) : image_writer_number 1 l (Wm out) = some (Wm (out ++ intsOf (l.flatMap n1))) :=
  number_eq 1 n1 l (fun z hz => ⟨put1 z (h z hz).1 (h z hz).2, by simp [n1]⟩) hl out ho
theorem nums2 (l : List Int) (h : ∀ z ∈ l, B2 z) (hl : l.length ≤ 100) (out : List Int) (ho : out.length ≤ 4000000000) : image_writer_number 2 l (Wm out) = some (Wm (out ++ intsOf (l.flatMap n2))) :=
  number_eq 2 n2 l (fun z hz => ⟨put2 z (h z hz).1 (h z hz).2, by simp [n2]⟩) hl out ho
theorem num1 (z : Int) (h : B1 z) (out : List Int) (ho : out.length ≤ 4000000000) : image_writer_number 1 [z] (Wm out) = some (Wm (out ++ intsOf (n1 z))) := by
  rw [nums1 [z] (by simpa using h) (by simp) out ho]; simp
theorem num2 (z : Int) (h : B2 z) (out : List Int) (ho : out.length ≤ 4000000000) : image_writer_number 2 [z] (Wm out) = some (Wm (out ++ intsOf (n2 z))) := by
  rw [nums2 [z] (by simpa using h) (by simp) out ho]; simp
theorem wr_succ (k n : Nat) (h : k < n) (hn : n ≤ 1000) : wr ((k : Int) + 1) = (k : Int) + 1 := wrI (by omega) (by omega)
theorem maybe_eq (l : List (List UInt8)) (hm : ∀ s ∈ l, s.length ≤ 255) (hl : l.length ≤ 100) (out : List Int) (ho : out.length ≤ 3000000000) :
    image_writer_maybe l (Wm out) = some (Wm (out ++ intsOf (l.flatMap mb))) := by
  unfold image_writer_maybe image_writer_maybe_0
  rw [loopW l mb 256 4000000000 (fun s hs => by have := mb_len s; have := hm s hs; omega) (fun k x out hk hx hx2 hb => ?_) (fun out => ?_) out (by omega)]
  · rfl
  · have := hm x hx2
    simp only [image_writer_maybe_0_step]
    rw [if_pos (by omega), idx_get hx, Option.bind_some, wr_succ k _ hk (by omega)]
    by_cases e : x = []
    · subst e
      rw [if_pos rfl, num1 0 (by decide) out (by omega), Option.bind_some]
      rfl
    · rw [if_neg e, num1 1 (by decide) out (by omega), Option.bind_some, raw1 x _ (by rw [List.length_append, ints_len, n1_len]; omega), Option.bind_some]
      unfold mb
      rw [if_neg e, ints_app, List.append_assoc]
  · simp only [image_writer_maybe_0_step]; rw [if_neg (by omega)]
theorem text_step (x : List UInt8) (out : List Int) (hx : x.length ≤ 255) (ho : out.length ≤ 4000000000) :
    ((image_writer_number 1 [(List.length x : Int)] (Wm out)).bind fun r0 => image_writer_raw [x] r0) = some (Wm (out ++ intsOf (tx x))) := by
  rw [num1 _ ⟨by omega, by omega⟩ out ho, Option.bind_some, raw1 x _ (by rw [List.length_append, ints_len, n1_len]; omega), tx, ints_app, List.append_assoc]
theorem text_eq (l : List (List UInt8)) (hm : ∀ s ∈ l, s.length ≤ 255) (hl : l.length ≤ 100) (out : List Int) (ho : out.length ≤ 3000000000) :
    image_writer_text l (Wm out) = some (Wm (out ++ intsOf (l.flatMap tx))) := by
  unfold image_writer_text image_writer_text_0
  rw [loopW l tx 256 4000000000 (fun s hs => by have := tx_len s; have := hm s hs; omega) (fun k x out hk hx hx2 hb => ?_) (fun out => ?_) out (by omega)]
  · rfl
  · have := text_step x out (hm x hx2) (by omega)
    simp only [image_writer_text_0_step]
    rw [if_pos (by omega), idx_get hx, Option.bind_some, wr_succ k _ hk (by omega), ← Option.bind_assoc, this]
    rfl
  · simp only [image_writer_text_0_step]; rw [if_neg (by omega)]
theorem text_v1_eq (l : List (List UInt8)) (hm : ∀ s ∈ l, s.length ≤ 255) (hl : l.length ≤ 100) (out : List Int) (ho : out.length ≤ 3000000000) :
    image_writer_text_v1 l (Wm out) = some (Wm (out ++ intsOf (l.flatMap tx))) := text_eq l hm hl out ho
def dgs (d : Ar6 Int) : List Int := [d.a0, d.a1, d.a2, d.a3, d.a4, d.a5]
theorem dgs_get (d : Ar6 Int) (k : Nat) (x : Int) (h : (dgs d)[k]? = some x) : (Ar6.mk d.a0 d.a1 d.a2 d.a3 d.a4 d.a5).get? k = some x := by
  have hk : k < 6 := by have := (List.getElem?_eq_some_iff.1 h).1; simpa [dgs] using this
  rcases (by omega : k = 0 ∨ k = 1 ∨ k = 2 ∨ k = 3 ∨ k = 4 ∨ k = 5) with rfl | rfl | rfl | rfl | rfl | rfl <;> exact h
theorem number_v1_eq (m : GMem) (h : ∀ z ∈ dgs m.Diag, B2 z) (out : List Int) (ho : out.length ≤ 4000000000) :
    image_writer_number_v1 2 (Wm out) m = some (Wm (out ++ intsOf ((dgs m.Diag).flatMap n2)), m) := by
  unfold image_writer_number_v1 image_writer_number_v1_0
  rw [loopW (dgs m.Diag) n2 2 4294967296 (fun z _ => by simp [n2]) (fun k x out hk hx hm hb => ?_) (fun out => ?_) out (by simp [dgs]; omega)]
  · rfl
  · have hk6 : k < 6 := by simpa [dgs] using hk
    have := put2 x (h x hm).1 (h x hm).2
    simp only [image_writer_number_v1_0_step]
    rw [if_pos (by omega), if_pos (by omega), Int.toNat_natCast, dgs_get m.Diag k x hx, Option.bind_some, this, Option.bind_some, if_pos (by rw [ints_len, lenMax_eq, n2_len]; omega), wr_succ k 6 hk6 (by omega)]
  · simp only [image_writer_number_v1_0_step]; rw [if_neg (by simp [dgs])]
theorem lists_0_eq (l : List GPort) (m : GMem) (h : ∀ p ∈ l, p.Text.length ≤ 255 ∧ B1 p.Cycle ∧ B1 p.Age) (hl : l.length ≤ 100) (out : List Int) (ho : out.length ≤ 2000000000) :
    image_memory_lists_0 l (l.length : Int) m 0 (Wm out) = some (Wm (out ++ intsOf (l.flatMap pt))) := by
  unfold image_memory_lists_0
  rw [loopW l pt 258 2500000000 (fun p hp => by have := tx_len p.Text; have := (h p hp).1; simp only [pt, List.length_append, n1_len]; omega) (fun k x out hk hx hx2 hb => ?_) (fun out => ?_) out (by omega)]
  · obtain ⟨h1, h2, h3⟩ := h x hx2
    simp only [image_memory_lists_0_step]
    rw [if_pos (by omega), idx_get hx, Option.bind_some, wr_succ k _ hk (by omega), text_eq [x.Text] (by simpa using h1) (by simp) out (by omega), Option.bind_some,
      nums1 [x.Cycle, x.Age] (by intro z hz; simp at hz; rcases hz with rfl | rfl <;> assumption) (by simp) _ (by have := tx_len x.Text; simp only [List.flatMap_cons, List.flatMap_nil, List.append_nil, List.length_append, ints_len]; omega), Option.bind_some]
    simp [pt, ints_app]
  · simp only [image_memory_lists_0_step]; rw [if_neg (by omega)]
theorem lists_1_eq (l : List GEntry) (m : GMem) (h : ∀ e ∈ l, B1 e.From ∧ B2 e.At) (hl : l.length ≤ 100) (out : List Int) (ho : out.length ≤ 2600000000) :
    image_memory_lists_1 l (l.length : Int) m 0 (Wm out) = some (Wm (out ++ intsOf (l.flatMap en))) := by
  unfold image_memory_lists_1
  rw [loopW l en 3 2700000000 (fun p hp => by simp [en, n1, n2]) (fun k x out hk hx hx2 hb => ?_) (fun out => ?_) out (by omega)]
  · obtain ⟨h1, h2⟩ := h x hx2
    simp only [image_memory_lists_1_step]
    rw [if_pos (by omega), idx_get hx, Option.bind_some, wr_succ k _ hk (by omega), num1 _ h1 out (by omega), Option.bind_some,
      num2 _ h2 _ (by rw [List.length_append, ints_len, n1_len]; omega), Option.bind_some]
    simp [en, ints_app]
  · simp only [image_memory_lists_1_step]; rw [if_neg (by omega)]
/-- What the image of a memory that is fine has behind its texts; and all of it. -/
def lsV (m : GMem) : List UInt8 := m.Ports.flatMap pt ++ (m.Hold.flatMap tx ++ (n1 m.Log.length ++ (m.Log.flatMap en ++ (dgs m.Diag).flatMap n2)))
def imV (m : GMem) : List UInt8 := n2 m.Clock ++ (n2 m.Anchor ++ (n2 m.Since ++ (n1 m.Age ++ (n1 m.Number ++ (n1 m.Regular ++ (m.Pipe ++ (mb m.Vec ++ (mb m.Agreed ++ (m.Members ++ (m.Seen ++ (m.Heard ++ (m.Sent ++ (tx m.Out ++ (tx m.Line ++ lsV m))))))))))))))
theorem flat_len {α : Type} (l : List α) (g : α → List UInt8) (m : Nat) (h : ∀ x ∈ l, (g x).length ≤ m) : (l.flatMap g).length ≤ l.length * m := by
  induction l with
  | nil => simp
  | cons x l ih =>
    have h1 := h x List.mem_cons_self
    have h2 := ih fun y hy => h y (List.mem_cons_of_mem _ hy)
    rw [List.flatMap_cons, List.length_append, List.length_cons, Nat.succ_mul]
    omega
/-- Numbers that fit, lists that are short. -/
structure Fit (m : GMem) : Prop where
  clock : B2 m.Clock
  anchor : B2 m.Anchor
  since : B2 m.Since
  age : B1 m.Age
  number : B1 m.Number
  regular : B1 m.Regular
  pipe : m.Pipe.length ≤ 60
  vec : m.Vec.length ≤ 21
  agreed : m.Agreed.length ≤ 21
  members : m.Members.length ≤ 13
  seen : m.Seen.length ≤ 13
  heard : m.Heard.length ≤ 32
  sent : m.Sent.length ≤ 32
  out : m.Out.length ≤ 16
  line : m.Line.length ≤ 16
  ports : m.Ports.length ≤ 13 ∧ ∀ p ∈ m.Ports, p.Text.length ≤ 16 ∧ B1 p.Cycle ∧ B1 p.Age
  hold : m.Hold.length ≤ 52 ∧ ∀ s ∈ m.Hold, s.length ≤ 40
  log : m.Log.length ≤ 64 ∧ ∀ e ∈ m.Log, B1 e.From ∧ B2 e.At
  diag : ∀ z ∈ dgs m.Diag, B2 z
theorem pt_len (p : GPort) (h : p.Text.length ≤ 16) : (pt p).length ≤ 19 := by have := tx_len p.Text; simp only [pt, List.length_append, n1_len]; omega
theorem lists_eq' (m : GMem) (h : Fit m) (out : List Int) (ho : out.length ≤ 1000) : image_memory_lists m (Wm out) = some (Wm (out ++ intsOf (lsV m))) := by
  have p1 := flat_len m.Ports pt 19 fun p hp => pt_len p (h.ports.2 p hp).1
  have p2 := flat_len m.Hold tx 41 fun s hs => by have := tx_len s; have := h.hold.2 s hs; omega
  have p3 := flat_len m.Log en 3 fun e he => by simp [en, n1, n2]
  have q1 := h.ports.1
  have q2 := h.hold.1
  have q3 := h.log.1
  have m1 : m.Ports.length * 19 ≤ 1000 := by omega
  have m2 : m.Hold.length * 41 ≤ 3000 := by omega
  have m3 : m.Log.length * 3 ≤ 300 := by omega
  unfold image_memory_lists
  rw [lists_0_eq m.Ports m (fun p hp => ⟨by have := (h.ports.2 p hp).1; omega, (h.ports.2 p hp).2⟩) (by omega) out (by omega), Option.bind_some,
    text_v1_eq m.Hold (fun s hs => by have := h.hold.2 s hs; omega) (by omega) _ (by rw [List.length_append, ints_len]; omega), Option.bind_some,
    num1 _ ⟨by omega, by omega⟩ _ (by simp only [List.length_append, ints_len]; omega), Option.bind_some,
    lists_1_eq m.Log m h.log.2 (by omega) _ (by simp only [List.length_append, ints_len, n1_len]; omega), Option.bind_some,
    number_v1_eq m h.diag _ (by simp only [List.length_append, ints_len, n1_len]; omega), Option.bind_some]
  simp only [lsV, ints_app, List.append_assoc]
theorem fine_fit (c : GConf) (m : GMem) (hp : Pl c) (h : Fine c m) : Fit m := by
  have hl := lenV_in c hp
  have hpp := hp
  obtain ⟨n0, n1', d0, d1, m0, m1, f0, f1, a, b, p0, p1, t0, t1⟩ := pl_in c hp
  have ht : c.Table.length ≤ 32 := hpp.2.2.2.2.1
  have hper : c.Period ≤ 400 := hpp.2.2.1.2.1
  refine ⟨h.clock, h.anchor, ⟨h.since.1, by have := h.since.2; omega⟩, ⟨h.age.1, by have := h.age.2; omega⟩, ⟨h.number.1, by have := h.number.2; omega⟩, ⟨h.regular.1, by have := h.regular.2; omega⟩,
    by have := h.pipe.1; omega, ?_, ?_, by have := h.members.1; omega, by have := h.seen.1; omega, by have := h.heard.1; omega, by have := h.sent.1; omega, h.out, h.line,
    ⟨by have := h.ports.1; omega, fun p hp => ?_⟩, ⟨by have := h.hold.1; omega, h.hold.2⟩, ⟨h.log.1, fun e he => ?_⟩, fun z hz => ?_⟩
  · rcases h.vec with e | e
    · rw [e]; simp
    · omega
  · rcases h.agreed with e | e
    · rw [e]; simp
    · omega
  · obtain ⟨a1, a2, a3⟩ := h.ports.2 p hp
    exact ⟨a1, ⟨a2.1, by omega⟩, ⟨a3.1, by omega⟩⟩
  · obtain ⟨a1, a2⟩ := h.log.2 e he
    exact ⟨⟨a1.1, by omega⟩, a2⟩
  · obtain ⟨e0, e1, e2, e3, e4, e5⟩ := h.diag
    simp only [dgs, List.mem_cons, List.not_mem_nil, or_false] at hz
    rcases hz with rfl | rfl | rfl | rfl | rfl | rfl <;> exact ⟨by omega, by omega⟩
/-- The program's image of a memory. -/
theorem write_eq (c : GConf) (m : GMem) (hc : CIn c) (hm : Sm m) : image_Write c m = some (if plainV c = 0 then imV (mendV c m) else []) := by
  unfold image_Write
  rw [conf_plain c hc, Option.bind_some]
  by_cases h0 : plainV c = 0
  · rw [if_neg (by simpa using h0), if_pos h0]
    have hp := (plain_zero c).1 h0
    rw [mend_eq c m hc hp hm.m, Option.bind_some]
    generalize hM : mendV c m = x
    have h := fine_fit c x hp (hM ▸ mend_fine c m hp)
    have k1 := h.pipe
    have k2 := h.vec
    have k3 := h.agreed
    have k4 := h.members
    have k5 := h.seen
    have k6 := h.heard
    have k7 := h.sent
    have k8 := h.out
    have k9 := h.line
    have l1 := mb_len x.Vec
    have l2 := mb_len x.Agreed
    have l3 := tx_len x.Out
    have l4 := tx_len x.Line
    rw [nums2 [x.Clock, x.Anchor, x.Since] (by intro z hz; simp at hz; rcases hz with rfl | rfl | rfl; exact h.clock; exact h.anchor; exact h.since) (by simp) [] (by simp), Option.bind_some,
      nums1 [x.Age, x.Number, x.Regular] (by intro z hz; simp at hz; rcases hz with rfl | rfl | rfl; exact h.age; exact h.number; exact h.regular) (by simp) _ (by simp [ints_len, n2]), Option.bind_some,
      raw1 x.Pipe _ (by simp [ints_len, n2, n1]; omega), Option.bind_some,
      maybe_eq [x.Vec, x.Agreed] (by intro z hz; simp at hz; rcases hz with rfl | rfl <;> omega) (by simp) _ (by simp [ints_len, n2, n1]; omega), Option.bind_some,
      raw_eq [x.Members, x.Seen, x.Heard, x.Sent] 32 (by intro z hz; simp at hz; rcases hz with rfl | rfl | rfl | rfl <;> omega) (by simp) _ (by simp [ints_len, n2, n1]; omega), Option.bind_some,
      text_eq [x.Out, x.Line] (by intro z hz; simp at hz; rcases hz with rfl | rfl <;> omega) (by simp) _ (by simp [ints_len, n2, n1]; omega), Option.bind_some,
      lists_eq' x h _ (by simp [ints_len, n2, n1]; omega), Option.bind_some]
    show some (bytesOf _) = _
    rw [← bytes_ints (imV x)]
    congr 2
    simp only [imV, ints_app, List.append_assoc, List.flatMap_cons, List.flatMap_nil, List.flatten_cons, List.flatten_nil, List.append_nil, List.nil_append]
  · rw [if_pos (by simpa using h0), if_neg h0]
end Go.Proofs.Ytnbmaoendgafbaa

set_option linter.unusedVariables false
set_option linter.unusedSimpArgs false
namespace Go.Proofs.Ytnbmaoendgafbaa
open Go.Proofs.PF
def pB (t : List UInt8) : Int × List UInt8 := (((t.headD 0).toNat : Int), t.tail)
def pW (t : List UInt8) : Int × List UInt8 := ((pB t).1 + 256 * (pB t.tail).1, t.tail.tail)
def pR (n : Nat) (t : List UInt8) : List UInt8 × List UInt8 := ((t ++ List.replicate n 0).take n, t.drop n)
def pM (n : Nat) (t : List UInt8) : List UInt8 × List UInt8 := if (pB t).1 % 2 = 0 then ([], t.tail) else pR n t.tail
def pT (b : Int) (t : List UInt8) : List UInt8 × List UInt8 := pR ((pB t).1 % b).toNat t.tail
def pN {α : Type} (p : List UInt8 → α × List UInt8) : Nat → List UInt8 → List α × List UInt8
  | 0, t => ([], t)
  | n + 1, t => ((p t).1 :: (pN p n (p t).2).1, (pN p n (p t).2).2)
def pP (t : List UInt8) : GPort × List UInt8 := (⟨(pT 17 t).1, (pB (pT 17 t).2).1, (pB (pB (pT 17 t).2).2).1⟩, (pB (pB (pT 17 t).2).2).2)
def pE (n : Int) (t : List UInt8) : GEntry × List UInt8 := (⟨(pB t).1 % n, (pW t.tail).1⟩, (pW t.tail).2)
theorem pB_in (t : List UInt8) : 0 ≤ (pB t).1 ∧ (pB t).1 < 256 := by
  have := (t.headD 0).toNat_lt
  exact ⟨by simp only [pB]; omega, by simp only [pB]; omega⟩
theorem pW_in (t : List UInt8) : 0 ≤ (pW t).1 ∧ (pW t).1 < 65536 := by
  have := pB_in t
  have := pB_in t.tail
  exact ⟨by simp only [pW]; omega, by simp only [pW]; omega⟩
/-- From place a on to place b a thing is read. -/
def Step {α : Type} (s : List UInt8) (p : List UInt8 → α × List UInt8) (K a b : Nat) : Prop := s.drop b = (p (s.drop a)).2 ∧ b ≤ a + K
theorem tail_drop (s : List UInt8) (a : Nat) : (s.drop a).tail = s.drop (a + 1) := by rw [List.tail_drop]
theorem Step.b {s : List UInt8} {a : Nat} : Step s pB 1 a (a + 1) := ⟨(tail_drop s a).symm, Nat.le_refl _⟩
theorem Step.w {s : List UInt8} {a : Nat} : Step s pW 2 a (a + 2) := ⟨by simp only [pW, tail_drop], Nat.le_refl _⟩
theorem Step.r {s : List UInt8} {a n : Nat} : Step s (pR n) n a (a + n) := ⟨by simp only [pR, List.drop_drop], Nat.le_refl _⟩
theorem pR_snoc (s : List UInt8) (a k : Nat) : (pR (k + 1) (s.drop a)).1 = (pR k (s.drop a)).1 ++ [(s.drop (a + k)).headD 0] := by
  simp only [pR]
  have e : ∀ (l : List UInt8) (n : Nat), (l ++ List.replicate n 0).take n = (List.range n).map fun i => (l[i]?).getD 0 := by
    intro l n
    apply List.ext_getElem
    · simp
    · intro i h1 h2
      simp only [List.length_take, List.length_append, List.length_replicate, List.length_map, List.length_range] at h1 h2
      rw [List.getElem_take, List.getElem_map, List.getElem_range]
      by_cases hi : i < l.length
      · rw [List.getElem_append_left hi, List.getElem?_eq_getElem hi]; rfl
      · rw [List.getElem_append_right (by omega), List.getElem?_eq_none (by omega)]; simp
  rw [e, e, List.range_succ, List.map_append]
  congr 1
  simp only [List.map_cons, List.map_nil, List.getElem?_drop]
  congr 1
  rw [List.headD_eq_head?_getD, List.head?_drop]
theorem pR_len (n : Nat) (t : List UInt8) : (pR n t).1.length = n := by simp [pR]
/-- Bytes that are read, from a place on. -/
abbrev Rm (s : List UInt8) (a : Nat) (c : GConf) : Gimage_recall := Gimage_recall.mk (Gimage_reader.mk s (a : Int)) c
abbrev Lim : Nat := 1000000000000
theorem or0 (z : Int) (h : 0 ≤ z) (h1 : z < 256) : orI .i64 0 z = z := by
  show IntKind.wrap .i64 _ = z
  rw [show BitVec.ofInt IntKind.i64.bits 0 ||| BitVec.ofInt IntKind.i64.bits z = BitVec.ofInt IntKind.i64.bits z from by simp, BitVec.toNat_ofInt,
    show (z % ((2 ^ IntKind.i64.bits : Nat) : Int)) = z from Int.emod_eq_of_lt h (by show z < ((2 ^ 64 : Nat) : Int); omega), wrap64 ⟨by omega, by omega⟩]
  omega
theorem shl0 (z : Int) (h : 0 ≤ z) (h1 : z < 256) : shlI .i64 z 0 = z := by
  show IntKind.wrap .i64 _ = z
  rw [show z * 2 ^ min (0 : Int).toNat IntKind.i64.bits = z from by simp, wrap64 ⟨by omega, by omega⟩]
theorem byte_eq (s : List UInt8) (a : Nat) (c : GConf) (hs : s.length ≤ Lim) (ha : a ≤ Lim) : image_reader_byte (Rm s a c) = some ((pB (s.drop a)).1, Rm s (a + 1) c) := by
  have hw : wr ((a : Int) + 1) = ((a + 1 : Nat) : Int) := by rw [wrI (by omega) (by unfold Lim at ha; omega)]; omega
  have hg : ∃ r, num_Get s (a : Int) 1 = some r ∧ (if r.2 ≠ 0 then (0 : Int) else r.1) = (pB (s.drop a)).1 := by
    unfold num_Get num_fits
    rw [if_pos (by decide), Option.bind_some, if_neg (by decide), if_neg (by omega)]
    by_cases h1 : (s.length : Int) < a
    · rw [if_pos h1]
      exact ⟨_, rfl, by rw [List.drop_eq_nil_of_le (by omega)]; rfl⟩
    · rw [if_neg h1, wrI (by omega) (by unfold Lim at hs; omega)]
      by_cases h2 : (s.length : Int) - a < 1
      · rw [if_pos h2]
        exact ⟨_, rfl, by rw [List.drop_eq_nil_of_le (by omega)]; rfl⟩
      · rw [if_neg h2]
        have hlt : a < s.length := by omega
        have hb := (s[a]).toNat_lt
        have e : num_Get_0 s (a : Int) 1 0 0 = some (((s[a]).toNat : Nat) : Int) := by
          unfold num_Get_0
          rw [loopO_inl (t := ((((s[a]).toNat : Nat) : Int), 1)), loopO_inr]
          · simp only [num_Get_0_step]; rw [if_neg (by omega)]
          · simp only [num_Get_0_step]
            rw [if_pos (by omega), show wr ((a : Int) + 0) = (a : Int) from by rw [Int.add_zero]; exact wrI (by omega) (by unfold Lim at ha; omega), idx_get (List.getElem?_eq_getElem hlt), Option.bind_some,
              show wr (8 * 0) = 0 from wrI (by decide) (by decide), if_neg (by decide), show wr (0 + 1) = 1 from wrI (by decide) (by decide), wrI (n := (((s[a]).toNat : Nat) : Int)) (by omega) (by omega),
              shl0 _ (by omega) (by omega), or0 _ (by omega) (by omega)]
        rw [e, Option.bind_some]
        refine ⟨_, rfl, ?_⟩
        rw [if_neg (by simp), List.drop_eq_getElem_cons hlt]
        rfl
  obtain ⟨r, e1, e2⟩ := hg
  unfold image_reader_byte
  rw [e1, Option.bind_some]
  simp only [hw]
  by_cases h : r.2 ≠ 0
  · rw [if_pos h] at e2 ⊢; rw [← e2]
  · rw [if_neg h] at e2 ⊢; rw [← e2]
theorem word_eq (s : List UInt8) (a : Nat) (c : GConf) (hs : s.length ≤ Lim) (ha : a + 2 ≤ Lim) : image_reader_word (Rm s a c) = some ((pW (s.drop a)).1, Rm s (a + 2) c) := by
  have h1 := pB_in (s.drop a)
  have h2 := pB_in (s.drop (a + 1))
  unfold image_reader_word
  rw [byte_eq s a c hs (by omega), Option.bind_some, byte_eq s (a + 1) c hs (by omega), Option.bind_some]
  simp only
  rw [wrI (n := 256 * (pB (s.drop (a + 1))).1) (by omega) (by omega), wrI (by omega) (by omega)]
  simp only [pW, tail_drop]
theorem raw_loop (s : List UInt8) (c : GConf) (n a : Nat) (hs : s.length ≤ Lim) (ha : a + n ≤ Lim) : ∀ (j k : Nat), k + j = n →
    loopO (fun x : Int × (List Int) × Gimage_recall => image_reader_raw_0_step n (n : Int) x.1 x.2.1 x.2.2) ((k : Int), intsOf (pR k (s.drop a)).1 ++ List.replicate j 0, Rm s (a + k) c)
      = some (intsOf (pR n (s.drop a)).1, Rm s (a + n) c)
  | 0, k, hk => by
    have : k = n := by omega
    subst this
    rw [loopO_inr]
    simp only [image_reader_raw_0_step]
    rw [if_neg (by omega)]
    simp
  | j + 1, k, hk => by
    have h1 := pB_in (s.drop (a + k))
    rw [loopO_inl (t := (((k + 1 : Nat) : Int), intsOf (pR (k + 1) (s.drop a)).1 ++ List.replicate j 0, Rm s (a + (k + 1)) c)), raw_loop s c n a hs ha j (k + 1) (by omega)]
    simp only [image_reader_raw_0_step]
    rw [if_pos (by omega), byte_eq s (a + k) c hs (by omega), Option.bind_some, if_pos (by omega), List.replicate_succ, Int.toNat_natCast, mod_mid _ _ _ _ _ (by rw [ints_len, pR_len]), Option.bind_some,
      wrI (n := (k : Int) + 1) (by omega) (by unfold Lim at ha; omega), w8_mod, Int.emod_eq_of_lt h1.1 h1.2, pR_snoc, ints_app, List.append_assoc]
    rfl
theorem rraw_eq (s : List UInt8) (a n : Nat) (c : GConf) (hs : s.length ≤ Lim) (ha : a + n ≤ Lim) (hn : n ≤ 4000000000) : image_reader_raw (n : Int) (Rm s a c) = some ((pR n (s.drop a)).1, Rm s (a + n) c) := by
  unfold image_reader_raw
  have := raw_loop s c n a hs ha n 0 (by omega)
  have e : image_reader_raw_0 (Int.toNat (n : Int)) (((Int.toNat (n : Int)) : Nat) : Int) 0 (List.replicate (Int.toNat (n : Int)) 0) (Rm s a c) = some (intsOf (pR n (s.drop a)).1, Rm s (a + n) c) := by
    rw [Int.toNat_natCast]
    unfold image_reader_raw_0
    simpa [pR, intsOf] using this
  rw [if_pos ⟨by omega, by rw [lenMax_eq]; omega⟩, e, Option.bind_some, Int.toNat_natCast, sub_all _ _ (by rw [ints_len, pR_len]), Option.bind_some, bytes_ints]
theorem rmaybe_eq (s : List UInt8) (a n : Nat) (c : GConf) (hs : s.length ≤ Lim) (ha : a + 1 + n ≤ Lim) (hn : n ≤ 4000000000) :
    ∃ b, image_reader_maybe (n : Int) (Rm s a c) = some ((pM n (s.drop a)).1, Rm s b c) ∧ Step s (pM n) (n + 1) a b := by
  unfold image_reader_maybe
  rw [byte_eq s a c hs (by omega), Option.bind_some]
  have h1 := pB_in (s.drop a)
  simp only [Step, pM, tail_drop]
  rw [Int.tmod_eq_emod_of_nonneg h1.1]
  by_cases h : (pB (s.drop a)).1 % 2 = 0
  · rw [if_pos h, if_pos h]
    exact ⟨a + 1, rfl, rfl, by omega⟩
  · rw [if_neg h, if_neg h, rraw_eq s (a + 1) n c hs (by omega) hn, Option.bind_some]
    exact ⟨a + 1 + n, rfl, by simp only [pR, List.drop_drop], by omega⟩
theorem rtext_eq (s : List UInt8) (a : Nat) (m : Int) (c : GConf) (hs : s.length ≤ Lim) (ha : a + 300 ≤ Lim) (hm : 0 ≤ m ∧ m ≤ 200) :
    ∃ b, image_reader_text m (Rm s a c) = some ((pT (m + 1) (s.drop a)).1, Rm s b c) ∧ Step s (pT (m + 1)) (m.toNat + 1) a b := by
  have hw : wr (m + 1) = m + 1 := wrI (by omega) (by omega)
  have h1 := pB_in (s.drop a)
  have h2 := Int.emod_nonneg (pB (s.drop a)).1 (show m + 1 ≠ 0 by omega)
  have h3 := Int.emod_lt_of_pos (pB (s.drop a)).1 (show 0 < m + 1 by omega)
  unfold image_reader_text
  rw [byte_eq s a c hs (by omega), Option.bind_some, hw, if_neg (by omega)]
  simp only [Step, pT, tail_drop]
  rw [Int.tmod_eq_emod_of_nonneg h1.1]
  obtain ⟨k, hk⟩ := Int.eq_ofNat_of_zero_le h2
  rw [hk, Int.toNat_natCast]
  have hk2 : (k : Int) < m + 1 := by rw [← hk]; exact h3
  rw [rraw_eq s (a + 1) k c hs (by omega) (by omega), Option.bind_some]
  exact ⟨a + 1 + k, rfl, by simp only [pR, List.drop_drop], by omega⟩
/-- A loop that reads a thing a round. -/
theorem loopR {α : Type} {f : Int × Gimage_recall × GMem → Option ((Int × Gimage_recall × GMem) ⊕ (Gimage_recall × GMem))} (s : List UInt8) (c : GConf) (n K : Nat) (p : List UInt8 → α × List UInt8) (put : List α → GMem)
    (h : ∀ (k a : Nat) (xs : List α), k < n → xs.length = k → a ≤ 1000000 → ∃ b, f ((k : Int), Rm s a c, put xs) = some (.inl ((k : Int) + 1, Rm s b c, put (xs ++ [(p (s.drop a)).1]))) ∧ Step s p K a b)
    (he : ∀ o m, f ((n : Int), o, m) = some (.inr (o, m))) : ∀ (j k a : Nat) (xs : List α), k + j = n → xs.length = k → a + j * K ≤ 1000000 →
    ∃ b, loopO f ((k : Int), Rm s a c, put xs) = some (Rm s b c, put (xs ++ (pN p j (s.drop a)).1)) ∧ Step s (pN p j) (j * K) a b
  | 0, k, a, xs, hk, hl, ha => by
    have : k = n := by omega
    subst this
    exact ⟨a, by rw [loopO_inr (he _ _)]; simp [pN], rfl, by omega⟩
  | j + 1, k, a, xs, hk, hl, ha => by
    have e : (j + 1) * K = j * K + K := Nat.succ_mul j K
    obtain ⟨b, h1, h2, h3⟩ := h k a xs (by omega) hl (by omega)
    obtain ⟨d, h4, h5, h6⟩ := loopR s c n K p put h he j (k + 1) b (xs ++ [(p (s.drop a)).1]) (by omega) (by simp; omega) (by omega)
    refine ⟨d, ?_, ?_, by omega⟩
    · rw [loopO_inl h1, show ((k : Int) + 1) = ((k + 1 : Nat) : Int) by omega, h4]
      simp only [pN, h2, List.append_assoc, List.singleton_append]
    · rw [h5, h2]; rfl
theorem rports (s : List UInt8) (c : GConf) (m : GMem) (a : Nat) (hs : s.length ≤ Lim) (ha : a ≤ 100000) (hN : 0 ≤ c.N ∧ c.N ≤ 13) (hm : m.Ports = []) :
    ∃ b, image_recall_lists_0 c.N 0 (Rm s a c) m = some (Rm s b c, { m with Ports := (pN pP c.N.toNat (s.drop a)).1 }) ∧ Step s (pN pP c.N.toNat) (c.N.toNat * 19) a b := by
  obtain ⟨n, hn⟩ := Int.eq_ofNat_of_zero_le hN.1
  rw [hn, Int.toNat_natCast]
  have hn13 : n ≤ 13 := by omega
  unfold image_recall_lists_0
  refine Exists.imp (fun b hb => ?_) (loopR s c n 19 pP (fun xs => { m with Ports := xs }) (f := fun x => image_recall_lists_0_step (n : Int) x.1 x.2.1 x.2.2) (fun k a xs hk hl ha => ?_) (fun o m => ?_) n 0 a [] (by omega) rfl (by omega))
  · obtain ⟨h1, h2⟩ := hb
    refine ⟨?_, h2⟩
    have hm' : ({ m with Ports := [] } : GMem) = m := by cases m; simp at hm; subst hm; rfl
    rw [hm'] at h1
    exact h1
  · obtain ⟨b, e1, e2, e3⟩ := rtext_eq s a 16 c hs (by unfold Lim; omega) (by omega)
    refine ⟨b + 1 + 1, ?_, ?_, by have : (16 : Int).toNat = 16 := rfl; omega⟩
    · simp only [image_recall_lists_0_step]
      rw [if_pos (by omega), e1, Option.bind_some, byte_eq s b c hs (by have : (16 : Int).toNat = 16 := rfl; unfold Lim; omega), Option.bind_some, byte_eq s (b + 1) c hs (by have : (16 : Int).toNat = 16 := rfl; unfold Lim; omega), Option.bind_some,
        if_pos (by rw [lenMax_eq]; simp; omega), wrI (by omega) (by omega)]
      simp only [show (16 : Int) + 1 = 17 from rfl] at e2 ⊢
      rw [← tail_drop s b]
      simp only [pP, ← e2]
      rfl
    · simp only [show (16 : Int) + 1 = 17 from rfl] at e2
      rw [← tail_drop, ← tail_drop, e2]; rfl
  · simp only [image_recall_lists_0_step]; rw [if_neg (by omega)]
theorem rhold (s : List UInt8) (c : GConf) (m : GMem) (a : Nat) (q : Int) (hs : s.length ≤ Lim) (ha : a ≤ 100000) (hq : 0 ≤ q ∧ q ≤ 52) (hm : m.Hold = []) :
    ∃ b, image_recall_lists_1 q 0 (Rm s a c) m = some (Rm s b c, { m with Hold := (pN (pT 41) q.toNat (s.drop a)).1 }) ∧ Step s (pN (pT 41) q.toNat) (q.toNat * 41) a b := by
  obtain ⟨n, hn⟩ := Int.eq_ofNat_of_zero_le hq.1
  rw [hn, Int.toNat_natCast]
  have hn13 : n ≤ 52 := by omega
  unfold image_recall_lists_1
  refine Exists.imp (fun b hb => ?_) (loopR s c n 41 (pT 41) (fun xs => { m with Hold := xs }) (f := fun x => image_recall_lists_1_step (n : Int) x.1 x.2.1 x.2.2) (fun k a xs hk hl ha => ?_) (fun o m => ?_) n 0 a [] (by omega) rfl (by omega))
  · obtain ⟨h1, h2⟩ := hb
    refine ⟨?_, h2⟩
    have hm' : ({ m with Hold := [] } : GMem) = m := by cases m; simp at hm; subst hm; rfl
    rw [hm'] at h1
    exact h1
  · obtain ⟨b, e1, e2, e3⟩ := rtext_eq s a 40 c hs (by unfold Lim; omega) (by omega)
    refine ⟨b, ?_, e2, by have : (40 : Int).toNat = 40 := rfl; omega⟩
    simp only [image_recall_lists_1_step]
    rw [if_pos (by omega), e1, Option.bind_some, if_pos (by rw [lenMax_eq]; simp; omega), wrI (by omega) (by omega)]
    rfl
  · simp only [image_recall_lists_1_step]; rw [if_neg (by omega)]
theorem rlog (s : List UInt8) (c : GConf) (m : GMem) (a : Nat) (q : Int) (hs : s.length ≤ Lim) (ha : a ≤ 100000) (hq : 0 ≤ q ∧ q ≤ 64) (hN : 4 ≤ c.N ∧ c.N ≤ 13) (hm : m.Log = []) :
    ∃ b, image_recall_lists_2 q 0 (Rm s a c) m = some (Rm s b c, { m with Log := (pN (pE c.N) q.toNat (s.drop a)).1 }) ∧ Step s (pN (pE c.N) q.toNat) (q.toNat * 3) a b := by
  obtain ⟨n, hn⟩ := Int.eq_ofNat_of_zero_le hq.1
  rw [hn, Int.toNat_natCast]
  have hn13 : n ≤ 64 := by omega
  unfold image_recall_lists_2
  refine Exists.imp (fun b hb => ?_) (loopR s c n 3 (pE c.N) (fun xs => { m with Log := xs }) (f := fun x => image_recall_lists_2_step (n : Int) x.1 x.2.1 x.2.2) (fun k a xs hk hl ha => ?_) (fun o m => ?_) n 0 a [] (by omega) rfl (by omega))
  · obtain ⟨h1, h2⟩ := hb
    refine ⟨?_, h2⟩
    have hm' : ({ m with Log := [] } : GMem) = m := by cases m; simp at hm; subst hm; rfl
    rw [hm'] at h1
    exact h1
  · refine ⟨a + 1 + 2, ?_, ?_, by omega⟩
    · simp only [image_recall_lists_2_step]
      rw [if_pos (by omega), byte_eq s a c hs (by unfold Lim; omega), Option.bind_some, if_pos rfl, if_neg (by simp only; omega), word_eq s (a + 1) c hs (by unfold Lim; omega), Option.bind_some,
        if_pos (by rw [lenMax_eq]; simp; omega), wrI (by omega) (by omega), Int.tmod_eq_emod_of_nonneg (pB_in _).1, ← tail_drop]
      rfl
    · rw [Nat.add_assoc, ← List.drop_drop]
      simp only [pE, pW, List.drop_drop, tail_drop]
  · simp only [image_recall_lists_2_step]; rw [if_neg (by omega)]
def dset (xs : List Int) : Ar6 Int := ⟨xs.getD 0 0, xs.getD 1 0, xs.getD 2 0, xs.getD 3 0, xs.getD 4 0, xs.getD 5 0⟩
theorem dset_set (xs : List Int) (k : Nat) (v : Int) (hk : k < 6) (hl : xs.length = k) : (dset xs).set? k v = some (dset (xs ++ [v])) := by
  rcases (by omega : k = 0 ∨ k = 1 ∨ k = 2 ∨ k = 3 ∨ k = 4 ∨ k = 5) with rfl | rfl | rfl | rfl | rfl | rfl
  · obtain rfl := List.eq_nil_of_length_eq_zero hl; rfl
  · obtain ⟨x, rfl⟩ := List.length_eq_one_iff.1 hl; rfl
  · rcases xs with _ | ⟨x, _ | ⟨y, _ | ⟨z, r⟩⟩⟩ <;> first | rfl | (simp at hl)
  · rcases xs with _ | ⟨x, _ | ⟨y, _ | ⟨z, _ | ⟨w, r⟩⟩⟩⟩ <;> first | rfl | (simp at hl)
  · rcases xs with _ | ⟨x, _ | ⟨y, _ | ⟨z, _ | ⟨w, _ | ⟨u, r⟩⟩⟩⟩⟩ <;> first | rfl | (simp at hl)
  · rcases xs with _ | ⟨x, _ | ⟨y, _ | ⟨z, _ | ⟨w, _ | ⟨u, _ | ⟨t, r⟩⟩⟩⟩⟩⟩ <;> first | rfl | (simp at hl)
theorem rdiag (s : List UInt8) (c : GConf) (m : GMem) (a : Nat) (hs : s.length ≤ Lim) (ha : a ≤ 100000) (hm : m.Diag = ⟨0, 0, 0, 0, 0, 0⟩) :
    ∃ b, image_recall_lists_3 0 (Rm s a c) m = some (Rm s b c, { m with Diag := dset (pN pW 6 (s.drop a)).1 }) := by
  unfold image_recall_lists_3
  refine Exists.imp (fun b hb => ?_) (loopR s c 6 2 pW (fun xs => { m with Diag := dset xs }) (f := fun x => image_recall_lists_3_step x.1 x.2.1 x.2.2) (fun k a xs hk hl ha => ?_) (fun o m => ?_) 6 0 a [] (by omega) rfl (by omega))
  · obtain ⟨h1, h2⟩ := hb
    have hm' : ({ m with Diag := dset [] } : GMem) = m := by cases m; simp at hm; subst hm; rfl
    rw [hm'] at h1
    exact h1
  · refine ⟨a + 2, ?_, Step.w⟩
    simp only [image_recall_lists_3_step]
    rw [if_pos (by omega), word_eq s a c hs (by unfold Lim; omega), Option.bind_some, if_pos (by omega), Int.toNat_natCast, dset_set xs k _ hk hl, Option.bind_some, wrI (by omega) (by omega)]
  · simp only [image_recall_lists_3_step]; rw [if_neg (by omega)]
theorem rrawZ (s : List UInt8) (a : Nat) (z : Int) (c : GConf) (hs : s.length ≤ Lim) (ha : a ≤ 1000000) (hz : 0 ≤ z ∧ z ≤ 1000) : image_reader_raw z (Rm s a c) = some ((pR z.toNat (s.drop a)).1, Rm s (a + z.toNat) c) := by
  obtain ⟨n, rfl⟩ := Int.eq_ofNat_of_zero_le hz.1
  rw [rraw_eq s a n c hs (by unfold Lim; omega) (by omega), Int.toNat_natCast]
theorem rmaybeZ (s : List UInt8) (a : Nat) (z : Int) (c : GConf) (hs : s.length ≤ Lim) (ha : a ≤ 1000000) (hz : 0 ≤ z ∧ z ≤ 1000) :
    ∃ b, image_reader_maybe z (Rm s a c) = some ((pM z.toNat (s.drop a)).1, Rm s b c) ∧ Step s (pM z.toNat) (z.toNat + 1) a b := by
  obtain ⟨n, rfl⟩ := Int.eq_ofNat_of_zero_le hz.1
  rw [Int.toNat_natCast]
  exact rmaybe_eq s a n c hs (by unfold Lim; omega) (by omega)
/-- The memory of any bytes, before it is mended: its numbers, texts, lists. -/
def qNums (m : GMem) (t : List UInt8) : GMem × List UInt8 :=
  let clock := pW t; let anchor := pW clock.2; let since := pW anchor.2; let age := pB since.2; let number := pB age.2; let regular := pB number.2
  (⟨clock.1, anchor.1, since.1, m.Pipe, age.1, m.Vec, m.Agreed, number.1, regular.1, m.Members, m.Seen, m.Heard, m.Sent, m.Out, m.Line, m.Ports, m.Hold, m.Log, m.Diag⟩, regular.2)
def qTexts (c : GConf) (m : GMem) (t : List UInt8) : GMem × List UInt8 :=
  let pipe := pR (lenV c).toNat t; let vec := pM (8 + c.N).toNat pipe.2; let agreed := pM (8 + c.N).toNat vec.2; let members := pR c.N.toNat agreed.2; let seen := pR c.N.toNat members.2
  let heard := pR c.Table.length seen.2; let sent := pR c.Table.length heard.2; let out := pT 17 sent.2; let line := pT 17 out.2
  (⟨m.Clock, m.Anchor, m.Since, pipe.1, m.Age, vec.1, agreed.1, m.Number, m.Regular, members.1, seen.1, heard.1, sent.1, out.1, line.1, m.Ports, m.Hold, m.Log, m.Diag⟩, line.2)
def qLists (c : GConf) (m : GMem) (t : List UInt8) : GMem :=
  let ports := pN pP c.N.toNat t; let hold := pN (pT 41) (c.N * c.D).toNat ports.2; let count := pB hold.2; let log := pN (pE c.N) (count.1 % 65).toNat count.2; let diag := pN pW 6 log.2
  ⟨m.Clock, m.Anchor, m.Since, m.Pipe, m.Age, m.Vec, m.Agreed, m.Number, m.Regular, m.Members, m.Seen, m.Heard, m.Sent, m.Out, m.Line, ports.1, hold.1, log.1, dset diag.1⟩
def pMem (c : GConf) (t : List UInt8) : GMem := qLists c (qTexts c (qNums noMem t).1 (qNums noMem t).2).1 (qTexts c (qNums noMem t).1 (qNums noMem t).2).2
theorem rnumbers (s : List UInt8) (c : GConf) (m : GMem) (hs : s.length ≤ Lim) : image_recall_numbers (Rm s 0 c) m = some (Rm s 9 c, (qNums m (s.drop 0)).1) ∧ s.drop 9 = (qNums m (s.drop 0)).2 := by
  unfold image_recall_numbers
  rw [word_eq s 0 c hs (by unfold Lim; omega), Option.bind_some, word_eq s _ c hs (by unfold Lim; omega), Option.bind_some, word_eq s _ c hs (by unfold Lim; omega), Option.bind_some,
    byte_eq s _ c hs (by unfold Lim; omega), Option.bind_some, byte_eq s _ c hs (by unfold Lim; omega), Option.bind_some, byte_eq s _ c hs (by unfold Lim; omega), Option.bind_some]
  constructor
  · simp only [qNums, pW, pB, tail_drop]
  · simp only [qNums, pW, pB, tail_drop]
theorem rtexts (s : List UInt8) (c : GConf) (m : GMem) (a : Nat) (hs : s.length ≤ Lim) (hc : CIn c) (hp : Pl c) (ha : a ≤ 100) :
    ∃ b, image_recall_texts (Rm s a c) m = some (Rm s b c, (qTexts c m (s.drop a)).1) ∧ s.drop b = (qTexts c m (s.drop a)).2 ∧ b ≤ 1000 := by
  have hl := lenV_in c hp
  obtain ⟨n0, n1', d0, d1, m0, m1, f0, f1, x, y, p0, p1, t0, t1⟩ := pl_in c hp
  have ht : c.Table.length ≤ 32 := hp.2.2.2.2.1
  have l1 : (lenV c).toNat ≤ 60 := by omega
  have l2 : (8 + c.N).toNat ≤ 21 := by omega
  have l3 : c.N.toNat ≤ 13 := by omega
  obtain ⟨b1, e1, s1, k1⟩ := rmaybeZ s (a + (lenV c).toNat) (8 + c.N) c hs (by omega) (by omega)
  obtain ⟨b2, e2, s2, k2⟩ := rmaybeZ s b1 (8 + c.N) c hs (by omega) (by omega)
  have k16 : (16 : Int).toNat = 16 := rfl
  obtain ⟨b3, e3, s3, k3⟩ := rtext_eq s (b2 + c.N.toNat + c.N.toNat + c.Table.length + c.Table.length) 16 c hs (by unfold Lim; omega) (by omega)
  obtain ⟨b4, e4, s4, k4⟩ := rtext_eq s b3 16 c hs (by unfold Lim; omega) (by omega)
  refine ⟨b4, ?_, ?_, by omega⟩
  · unfold image_recall_texts
    rw [length_eq c hc hp, Option.bind_some, rrawZ s a _ c hs (by omega) (by omega), Option.bind_some, bits_eq c hc hp, Option.bind_some, e1, Option.bind_some, bits_eq c hc hp, Option.bind_some, e2, Option.bind_some,
      rrawZ s b2 _ c hs (by omega) (by simp only; omega), Option.bind_some, rrawZ s _ _ c hs (by simp only; omega) (by simp only; omega), Option.bind_some,
      rrawZ s _ _ c hs (by simp only; omega) (by simp only; omega), Option.bind_some, rrawZ s _ _ c hs (by simp only [Int.toNat_natCast]; omega) (by simp only; omega), Option.bind_some]
    simp only [Int.toNat_natCast]
    rw [e3, Option.bind_some, e4, Option.bind_some]
    simp only [show (16 : Int) + 1 = 17 from rfl] at s3 s4 ⊢
    simp only [qTexts, ← (Step.r (s := s)).1, ← s1, ← s2, ← s3, ← s4]
  · simp only [show (16 : Int) + 1 = 17 from rfl] at s3 s4 ⊢
    simp only [qTexts, ← (Step.r (s := s)).1, ← s1, ← s2, ← s3, ← s4]
theorem rlists (s : List UInt8) (c : GConf) (m : GMem) (a : Nat) (hs : s.length ≤ Lim) (hp : Pl c) (ha : a ≤ 1000) (h1 : m.Ports = []) (h2 : m.Hold = []) (h3 : m.Log = []) (h4 : m.Diag = ⟨0, 0, 0, 0, 0, 0⟩) :
    ∃ b, image_recall_lists (Rm s a c) m = some (Rm s b c, qLists c m (s.drop a)) := by
  obtain ⟨n0, n1', d0, d1, m0, m1, f0, f1, x, y, p0, p1, t0, t1⟩ := pl_in c hp
  have l3 : c.N.toNat ≤ 13 := by omega
  have l4 : (c.N * c.D).toNat ≤ 52 := by omega
  have w1 : c.N.toNat * 19 ≤ 300 := by omega
  have w2 : (c.N * c.D).toNat * 41 ≤ 3000 := by omega
  obtain ⟨b1, e1, s1, k1⟩ := rports s c m a hs (by omega) (by omega) h1
  obtain ⟨b2, e2, s2, k2⟩ := rhold s c { m with Ports := (pN pP c.N.toNat (s.drop a)).1 } b1 (c.N * c.D) hs (by omega) (by omega) h2
  have hb := pB_in (s.drop b2)
  have hq1 := Int.emod_nonneg (pB (s.drop b2)).1 (show (65 : Int) ≠ 0 by omega)
  have hq2 := Int.emod_lt_of_pos (pB (s.drop b2)).1 (show (0 : Int) < 65 by omega)
  obtain ⟨b3, e3, s3, k3⟩ := rlog s c { m with Ports := (pN pP c.N.toNat (s.drop a)).1, Hold := (pN (pT 41) (c.N * c.D).toNat (s.drop b1)).1 } (b2 + 1) ((pB (s.drop b2)).1 % 65) hs (by omega) ⟨hq1, by omega⟩ ⟨n0, n1'⟩ h3
  have w3 : ((pB (s.drop b2)).1 % 65).toNat * 3 ≤ 300 := by omega
  obtain ⟨b4, e4⟩ := rdiag s c { m with Ports := (pN pP c.N.toNat (s.drop a)).1, Hold := (pN (pT 41) (c.N * c.D).toNat (s.drop b1)).1, Log := (pN (pE c.N) ((pB (s.drop b2)).1 % 65).toNat (s.drop (b2 + 1))).1 } b3 hs (by omega) h4
  refine ⟨b4, ?_⟩
  unfold image_recall_lists
  rw [e1, Option.bind_some, wrI (by simp only; omega) (by simp only; omega), e2, Option.bind_some, byte_eq s b2 c hs (by unfold Lim; omega), Option.bind_some, Int.tmod_eq_emod_of_nonneg hb.1, e3, Option.bind_some, e4, Option.bind_some]
  simp only [qLists, ← s1, ← s2, ← (Step.b (s := s)).1, ← s3]
theorem pN_len {α : Type} (p : List UInt8 → α × List UInt8) : ∀ (n : Nat) (t : List UInt8), (pN p n t).1.length = n
  | 0, t => rfl
  | n + 1, t => by simp only [pN, List.length_cons, pN_len p n]
theorem pMem_sm (c : GConf) (t : List UInt8) (hp : Pl c) : Sm (pMem c t) := by
  have hl := lenV_in c hp
  obtain ⟨n0, n1', d0, d1, m0, m1, f0, f1, x, y, p0, p1, t0, t1⟩ := pl_in c hp
  have h2 : ∀ z : Int, (z % 65).toNat < 65 := fun z => by have := Int.emod_nonneg z (show (65 : Int) ≠ 0 by omega); have := Int.emod_lt_of_pos z (show (0 : Int) < 65 by omega); omega
  refine ⟨?_, ?_, ?_, ?_⟩
  · show (pR (lenV c).toNat _).1.length < 10000; rw [pR_len]; omega
  · show (pN pP c.N.toNat _).1.length < 10000; rw [pN_len]; omega
  · show (pN (pT 41) (c.N * c.D).toNat _).1.length < 10000; rw [pN_len]; omega
  · show (pN (pE c.N) ((pB (pN (pT 41) (c.N * c.D).toNat (pN pP c.N.toNat (qTexts c (qNums noMem t).1 (qNums noMem t).2).2).2).2).1 % 65).toNat _).1.length < 10000; rw [pN_len]; have := h2 (pB (pN (pT 41) (c.N * c.D).toNat (pN pP c.N.toNat (qTexts c (qNums noMem t).1 (qNums noMem t).2).2).2).2).1; omega
/-- The program's memory of any bytes. -/
theorem read_eq (c : GConf) (s : List UInt8) (hc : CIn c) (hs : s.length ≤ 1000000000) : image_Read c s = some (if plainV c = 0 then mendV c (pMem c s) else noMem) := by
  have hs' : s.length ≤ Lim := by unfold Lim; omega
  unfold image_Read
  rw [conf_plain c hc, Option.bind_some]
  by_cases h0 : plainV c = 0
  · rw [if_neg (by simpa using h0), if_pos h0]
    have hp := (plain_zero c).1 h0
    obtain ⟨a1, a2⟩ := rnumbers s c noMem hs'
    obtain ⟨b, b1, b2, b3⟩ := rtexts s c (qNums noMem (s.drop 0)).1 9 hs' hc hp (by omega)
    obtain ⟨d, d1⟩ := rlists s c (qTexts c (qNums noMem (s.drop 0)).1 (s.drop 9)).1 b hs' hp b3 rfl rfl rfl rfl
    have e1 : image_recall_numbers (Gimage_recall.mk (Gimage_reader.mk s 0) c) noMem = some (Rm s 9 c, (qNums noMem (s.drop 0)).1) := a1
    have e2 : qLists c (qTexts c (qNums noMem (s.drop 0)).1 (s.drop 9)).1 (s.drop b) = pMem c s := by rw [b2, a2]; rfl
    rw [e2] at d1
    show ((image_recall_numbers _ noMem).bind _) = _
    rw [e1, Option.bind_some, b1, Option.bind_some, d1, Option.bind_some]
    simp only
    rw [mend_eq c _ hc hp (pMem_sm c s hp).m, Option.bind_some]
  · rw [if_pos (by simpa using h0), if_neg h0]; rfl
end Go.Proofs.Ytnbmaoendgafbaa

set_option linter.unusedVariables false
set_option linter.unusedSimpArgs false
namespace Go.Proofs.Ytnbmaoendgafbaa
open Go.Proofs.PF
theorem pB_n1 (z : Int) (h : B1 z) (t : List UInt8) : pB (n1 z ++ t) = (z, t) := by
  have h0 := h.1
  have h1 := h.2
  show (((UInt8.ofNat z.toNat).toNat : Int), t) = (z, t)
  rw [UInt8.toNat_ofNat']
  congr 1
  omega
theorem pW_n2 (z : Int) (h : B2 z) (t : List UInt8) : pW (n2 z ++ t) = (z, t) := by
  have h0 := h.1
  have h1 := h.2
  show (((UInt8.ofNat (z % 256).toNat).toNat : Int) + 256 * ((UInt8.ofNat (z / 256).toNat).toNat : Int), t) = (z, t)
  rw [UInt8.toNat_ofNat', UInt8.toNat_ofNat']
  congr 1
  omega
theorem pR_app (x t : List UInt8) (n : Nat) (h : x.length = n) : pR n (x ++ t) = (x, t) := by
  subst h
  simp [pR, List.append_assoc]
theorem pM_mb (x t : List UInt8) (n : Nat) (h : x = [] ∨ x.length = n) : pM n (mb x ++ t) = (x, t) := by
  unfold pM mb
  by_cases e : x = []
  · subst e
    rw [if_pos rfl, pB_n1 0 (by decide), if_pos (by simp)]; rfl
  · rw [if_neg e, List.append_assoc, pB_n1 1 (by decide), if_neg (by simp)]
    exact pR_app x t n (h.elim (fun h => absurd h e) id)
theorem pT_tx (x t : List UInt8) (b : Int) (h : (x.length : Int) < b) (hb : b ≤ 256) : pT b (tx x ++ t) = (x, t) := by
  unfold pT tx
  rw [List.append_assoc, pB_n1 _ ⟨by omega, by omega⟩]
  show pR (((x.length : Nat) : Int) % b).toNat (x ++ t) = _
  rw [Int.emod_eq_of_lt (by omega) h]
  exact pR_app x t _ (by simp)
theorem pN_fm {α : Type} (p : List UInt8 → α × List UInt8) (g : α → List UInt8) : ∀ (l : List α) (n : Nat), n = l.length → (∀ x ∈ l, ∀ t, p (g x ++ t) = (x, t)) → ∀ t, pN p n (l.flatMap g ++ t) = (l, t)
  | [], n, hn, _, t => by subst hn; rfl
  | x :: l, n, hn, h, t => by
    subst hn
    have e := h x List.mem_cons_self
    have i := pN_fm p g l l.length rfl (fun y hy => h y (List.mem_cons_of_mem _ hy)) t
    simp only [List.length_cons, pN, List.flatMap_cons, List.append_assoc, e, i]
theorem pP_pt (p : GPort) (h : p.Text.length ≤ 16) (h1 : B1 p.Cycle) (h2 : B1 p.Age) (t : List UInt8) : pP (pt p ++ t) = (p, t) := by
  have e : ∀ t, pT 17 (tx p.Text ++ t) = (p.Text, t) := fun t => pT_tx p.Text t 17 (by omega) (by omega)
  simp only [pP, pt, List.append_assoc, e, pB_n1 _ h1, pB_n1 _ h2]
theorem pE_en (e : GEntry) (n : Int) (h : 0 ≤ e.From ∧ e.From < n) (hn : n ≤ 256) (h2 : B2 e.At) (t : List UInt8) : pE n (en e ++ t) = (e, t) := by
  have a := pB_n1 e.From ⟨h.1, by omega⟩ (n2 e.At ++ t)
  have b : (n1 e.From ++ (n2 e.At ++ t)).tail = n2 e.At ++ t := rfl
  simp only [pE, en, List.append_assoc, a, b, pW_n2 _ h2, Int.emod_eq_of_lt h.1 h.2]
/-- Whatever stands behind an image, it is read as the memory that was written. -/
theorem trip (c : GConf) (m : GMem) (more : List UInt8) (hp : Pl c) (h : Fine c m) : pMem c (imV m ++ more) = m := by
  have f := fine_fit c m hp h
  have hl := lenV_in c hp
  obtain ⟨n0, n1', d0, d1, m0, m1, f0, f1, x, y, p0, p1, t0, t1⟩ := pl_in c hp
  have e1 : ∀ t, pR (lenV c).toNat (m.Pipe ++ t) = (m.Pipe, t) := fun t => pR_app _ t _ (by have := h.pipe.1; omega)
  have e2 : ∀ t, pM (8 + c.N).toNat (mb m.Vec ++ t) = (m.Vec, t) := fun t => pM_mb _ t _ (h.vec.imp id fun h => by have := h.1; omega)
  have e3 : ∀ t, pM (8 + c.N).toNat (mb m.Agreed ++ t) = (m.Agreed, t) := fun t => pM_mb _ t _ (h.agreed.imp id fun h => by have := h.1; omega)
  have e4 : ∀ t, pR c.N.toNat (m.Members ++ t) = (m.Members, t) := fun t => pR_app _ t _ (by have := h.members.1; omega)
  have e5 : ∀ t, pR c.N.toNat (m.Seen ++ t) = (m.Seen, t) := fun t => pR_app _ t _ (by have := h.seen.1; omega)
  have e6 : ∀ t, pR c.Table.length (m.Heard ++ t) = (m.Heard, t) := fun t => pR_app _ t _ h.heard.1
  have e7 : ∀ t, pR c.Table.length (m.Sent ++ t) = (m.Sent, t) := fun t => pR_app _ t _ h.sent.1
  have e8 : ∀ t, pT 17 (tx m.Out ++ t) = (m.Out, t) := fun t => pT_tx _ t 17 (by have := h.out; omega) (by omega)
  have e9 : ∀ t, pT 17 (tx m.Line ++ t) = (m.Line, t) := fun t => pT_tx _ t 17 (by have := h.line; omega) (by omega)
  have g1 : ∀ t, pN pP c.N.toNat (m.Ports.flatMap pt ++ t) = (m.Ports, t) := pN_fm pP pt m.Ports _ (by have := h.ports.1; omega) fun p hp t => pP_pt p (f.ports.2 p hp).1 (f.ports.2 p hp).2.1 (f.ports.2 p hp).2.2 t
  have g2 : ∀ t, pN (pT 41) (c.N * c.D).toNat (m.Hold.flatMap tx ++ t) = (m.Hold, t) := pN_fm (pT 41) tx m.Hold _ (by have := h.hold.1; omega) fun s hs t => pT_tx s t 41 (by have := h.hold.2 s hs; omega) (by omega)
  have g3 : ∀ t, pB (n1 (m.Log.length : Int) ++ t) = ((m.Log.length : Int), t) := fun t => pB_n1 _ ⟨by omega, by have := h.log.1; omega⟩ t
  have g4 : ∀ t, pN (pE c.N) ((m.Log.length : Int) % 65).toNat (m.Log.flatMap en ++ t) = (m.Log, t) := pN_fm (pE c.N) en m.Log _ (by have := h.log.1; omega) fun e he t => pE_en e c.N (h.log.2 e he).1 (by omega) (h.log.2 e he).2 t
  have g5 : ∀ t, pN pW 6 ((dgs m.Diag).flatMap n2 ++ t) = (dgs m.Diag, t) := pN_fm pW n2 (dgs m.Diag) 6 rfl fun z hz t => pW_n2 z (f.diag z hz) t
  have g6 : dset (dgs m.Diag) = m.Diag := rfl
  unfold pMem
  simp only [qNums, qTexts, qLists, imV, lsV, List.append_assoc, pW_n2 _ f.clock, pW_n2 _ f.anchor, pW_n2 _ f.since, pB_n1 _ f.age, pB_n1 _ f.number, pB_n1 _ f.regular, e1, e2, e3, e4, e5, e6, e7, e8, e9, g1, g2, g3, g4, g5, g6]
theorem im_len (m : GMem) (f : Fit m) : (imV m).length ≤ 4000 := by
  have k1 := f.pipe
  have k2 := f.vec
  have k3 := f.agreed
  have k4 := f.members
  have k5 := f.seen
  have k6 := f.heard
  have k7 := f.sent
  have k8 := f.out
  have k9 := f.line
  have l1 := mb_len m.Vec
  have l2 := mb_len m.Agreed
  have l3 := tx_len m.Out
  have l4 := tx_len m.Line
  have q1 := f.log.1
  have p1 := flat_len m.Ports pt 19 fun p hp => pt_len p (f.ports.2 p hp).1
  have p2 := flat_len m.Hold tx 41 fun s hs => by have := tx_len s; have := f.hold.2 s hs; omega
  have p3 := flat_len m.Log en 3 fun e he => by simp [en, n1, n2]
  have p4 := flat_len (dgs m.Diag) n2 2 fun e he => by simp [n2]
  have r1 := f.ports.1
  have r2 := f.hold.1
  have r3 : (dgs m.Diag).length = 6 := rfl
  have m1 : m.Ports.length * 19 ≤ 250 := by omega
  have m2 : m.Hold.length * 41 ≤ 2200 := by omega
  have m3 : m.Log.length * 3 ≤ 200 := by omega
  simp only [imV, lsV, List.length_append, n1_len, n2_len]
  rw [r3] at p4
  generalize (m.Ports.flatMap pt).length = A1 at *
  generalize (m.Hold.flatMap tx).length = A2 at *
  generalize (m.Log.flatMap en).length = A3 at *
  generalize ((dgs m.Diag).flatMap n2).length = A4 at *
  generalize (mb m.Vec).length = A5 at *
  generalize (mb m.Agreed).length = A6 at *
  generalize (tx m.Out).length = A7 at *
  generalize (tx m.Line).length = A8 at *
  have p1 := Nat.le_trans p1 m1
  have p2 := Nat.le_trans p2 m2
  have p3 := Nat.le_trans p3 m3
  have l1 : A5 ≤ 22 := by omega
  have l2 : A6 ≤ 22 := by omega
  have l3 : A7 ≤ 17 := by omega
  have l4 : A8 ≤ 17 := by omega
  have h := Nat.add_le_add k1 (Nat.add_le_add l1 (Nat.add_le_add l2 (Nat.add_le_add k4 (Nat.add_le_add k5 (Nat.add_le_add k6 (Nat.add_le_add k7 (Nat.add_le_add l3 (Nat.add_le_add l4 (Nat.add_le_add p1 (Nat.add_le_add p2 (Nat.add_le_add_left (Nat.add_le_add p3 p4) 1)))))))))))
  exact Nat.le_trans (Nat.add_le_add_left (Nat.add_le_add_left (Nat.add_le_add_left (Nat.add_le_add_left (Nat.add_le_add_left (Nat.add_le_add_left h 1) 1) 1) 2) 2) 2) (by decide)
theorem back_eq (c : GConf) (m : GMem) (more : List UInt8) (hc : CIn c) (hp : Pl c) (h : Fine c m) (hm : more.length ≤ 1000) : image_Read c (imV m ++ more) = some m := by
  have := im_len m (fine_fit c m hp h)
  rw [read_eq c _ hc (by rw [List.length_append]; omega), if_pos ((plain_zero c).2 hp), trip c m more hp h, fine_mend c m hp h]
theorem ImageBack_true (c : GConf) (m : GMem) (hc : CIn c) (hm : Lens m) : l29_ImageBack c m = some true := by
  unfold l29_ImageBack
  have hk : l29_known = some true := rfl
  rw [r03_plain c hc, Option.bind_some, hk]
  by_cases h0 : plainV c ≠ 0
  · rw [if_pos h0]; rfl
  · rw [if_neg h0]
    have h0' : plainV c = 0 := Classical.not_not.1 h0
    have hp := (plain_zero c).1 h0'
    obtain ⟨b, hb, hs⟩ := few_sm m hm
    rw [hb, Option.bind_some]
    cases b with
    | false => rfl
    | true =>
      have hf := mend_fine c m hp
      have e := back_eq c (mendV c m) [] hc hp hf (by simp)
      rw [List.append_nil] at e
      rw [if_neg (by decide), write_eq c m hc (hs rfl), if_pos h0', Option.bind_some, e, Option.bind_some, mend_eq' c m hc hp (hs rfl).m, Option.bind_some, same_self' _ (fine_sm c _ hp hf), Option.bind_some, if_pos rfl,
        if_pos (by have := im_len _ (fine_fit c _ hp hf); omega)]
      rfl
theorem ImageAny_true (c : GConf) (s more : List UInt8) (hc : CIn c) : l29_ImageAny c s more = some true := by
  unfold l29_ImageAny
  have hk : l29_known = some true := rfl
  rw [r03_plain c hc, Option.bind_some, hk]
  by_cases h0 : plainV c ≠ 0
  · rw [if_pos h0]; rfl
  · rw [if_neg h0]
    have h0' : plainV c = 0 := Classical.not_not.1 h0
    have hp := (plain_zero c).1 h0'
    by_cases h1 : 8000 < (s.length : Int)
    · rw [if_pos h1]; rfl
    · rw [if_neg h1]
      by_cases h2 : 100 < (more.length : Int)
      · rw [if_pos h2]; rfl
      · rw [if_neg h2, read_eq c s hc (by omega), if_pos h0', Option.bind_some]
        have hf := mend_fine c (pMem c s) hp
        generalize mendV c (pMem c s) = m at hf
        have e := back_eq c m [] hc hp hf (by simp)
        rw [List.append_nil] at e
        have hl := im_len m (fine_fit c m hp hf)
        have hsm := fine_sm c m hp hf
        rw [write_eq c m hc hsm, if_pos h0', fine_mend c m hp hf, Option.bind_some, well_eq' c m hc hsm, wellV_fine c m hp hf, Option.bind_some, if_pos rfl, e, Option.bind_some, same_self' _ hsm, Option.bind_some, if_pos rfl,
          if_pos (by omega), back_eq c m more hc hp hf (by omega), Option.bind_some, same_self' _ hsm, Option.bind_some, if_pos rfl]
        rfl
end Go.Proofs.Ytnbmaoendgafbaa
namespace Go.Proofs.Ytnbmaoendgafbaa
open Go.Proofs.PF
theorem ImageBack_law (l : List AV) (h : ArgsOf [([.i .i64, .i .i64, .i .i64, .i .i64, .i .i64, .i .i64, .i .i64, .i .i64, .i .i64, .i .i64, .l [.i .i64] false], true), ([.i .i64, .i .i64, .i .i64, .s, .i .i64, .s, .s, .i .i64, .i .i64, .s, .s, .s, .s, .s, .s, .l [.s, .i .i64, .i .i64] true, .l [.s] false, .l [.i .i64, .i .i64] true, .i .i64, .i .i64, .i .i64, .i .i64, .i .i64, .i .i64], true)] l) : LM.call n_l29_ImageBack l [] = some (.bool true, []) := by
  obtain ⟨_, _, rfl, h0, h⟩ := args_cons h
  obtain ⟨_, _, rfl, h1, h⟩ := args_cons h
  obtain rfl := args_nil h
  obtain ⟨y0, e0, p0⟩ := GConf.dec h0
  obtain ⟨y1, e1, p1⟩ := GMem.dec h1
  rw [e0, e1]
  obtain ⟨q, e, rfl⟩ := l29_ImageBack_sim y0 y1 true (ImageBack_true y0 y1 p0 p1)
  exact e
theorem ImageAny_law (l : List AV) (h : ArgsOf [([.i .i64, .i .i64, .i .i64, .i .i64, .i .i64, .i .i64, .i .i64, .i .i64, .i .i64, .i .i64, .l [.i .i64] false], true), ([.s], false), ([.s], false)] l) : LM.call n_l29_ImageAny l [] = some (.bool true, []) := by
  obtain ⟨_, _, rfl, h0, h⟩ := args_cons h
  obtain ⟨_, _, rfl, h1, h⟩ := args_cons h
  obtain ⟨_, _, rfl, h2, h⟩ := args_cons h
  obtain rfl := args_nil h
  obtain ⟨y0, e0, p0⟩ := GConf.dec h0
  obtain ⟨y1, e1, p1⟩ := wfc_s (wfcs_one h1)
  obtain ⟨y2, e2, p2⟩ := wfc_s (wfcs_one h2)
  rw [e0, e1, e2]
  obtain ⟨q, e, rfl⟩ := l29_ImageAny_sim y0 y1 y2 true (ImageAny_true y0 y1 y2 p0)
  exact e
end Go.Proofs.Ytnbmaoendgafbaa
