/-
  Plain laws: what the functions compute, and that the laws say true. Conditions: none beyond each theorem's own.
-/
import Derived.Test.YtockahdfbagmgaaPFe
import Derived.Test.YtockahdfbagmgaaDa
set_option linter.unusedVariables false
set_option linter.unusedSimpArgs false
namespace Go.Proofs.PF
open Classical in
/-- A loop that ends with false at the first place that fails. -/
theorem loopO_all {f : Int → Option (Int ⊕ (Bool ⊕ Unit))} (n : Nat) (p : Nat → Prop)
    (h : ∀ k : Nat, k < n → f (k : Int) = some (if p k then .inl ((k : Int) + 1) else .inr (.inl false))) (he : f (n : Int) = some (.inr (.inr ()))) :
    loopO f 0 = some (if ∀ k, k < n → p k then .inr () else .inl false) := by
  have : ∀ m k : Nat, k + m = n → loopO f (k : Int) = some (if ∀ j, k ≤ j → j < n → p j then .inr () else .inl false) := by
    intro m
    induction m with
    | zero =>
      intro k hk
      have : k = n := by omega
      subst this
      rw [loopO_inr he, if_pos (fun j h1 h2 => absurd h1 (by omega))]
    | succ m ih =>
      intro k hk
      have h1 := h k (by omega)
      by_cases hp : p k
      · rw [if_pos hp] at h1
        rw [loopO_inl h1]
        have := ih (k + 1) (by omega)
        rw [show ((k : Int) + 1) = ((k + 1 : Nat) : Int) by omega, this]
        by_cases ha : ∀ j, k + 1 ≤ j → j < n → p j
        · rw [if_pos ha, if_pos]
          intro j h1 h2
          by_cases e : j = k
          · subst e; exact hp
          · exact ha j (by omega) h2
        · rw [if_neg ha, if_neg]
          intro hh
          exact ha fun j h1 h2 => hh j (by omega) h2
      · rw [if_neg hp] at h1
        rw [loopO_inr h1, if_neg]
        intro hh
        exact hp (hh k (Nat.le_refl _) (by omega))
  have := this n 0 (by omega)
  simpa using this
open Classical in
/-- A loop that ends with a value at the first place that holds. -/
theorem loopO_any {β : Type} {f : Int → Option (Int ⊕ (β ⊕ Unit))} (n : Nat) (p : Nat → Prop) (b : β)
    (h : ∀ k : Nat, k < n → f (k : Int) = some (if p k then .inr (.inl b) else .inl ((k : Int) + 1))) (he : f (n : Int) = some (.inr (.inr ()))) :
    loopO f 0 = some (if ∃ k, k < n ∧ p k then .inl b else .inr ()) := by
  have : ∀ m k : Nat, k + m = n → loopO f (k : Int) = some (if ∃ j, k ≤ j ∧ j < n ∧ p j then .inl b else .inr ()) := by
    intro m
    induction m with
    | zero =>
      intro k hk
      have : k = n := by omega
      subst this
      rw [loopO_inr he, if_neg (fun ⟨j, h1, h2, _⟩ => absurd h1 (by omega))]
    | succ m ih =>
      intro k hk
      have h1 := h k (by omega)
      by_cases hp : p k
      · rw [if_pos hp] at h1
        rw [loopO_inr h1, if_pos ⟨k, Nat.le_refl _, by omega, hp⟩]
      · rw [if_neg hp] at h1
        rw [loopO_inl h1]
        have := ih (k + 1) (by omega)
        rw [show ((k : Int) + 1) = ((k + 1 : Nat) : Int) by omega, this]
        by_cases ha : ∃ j, k + 1 ≤ j ∧ j < n ∧ p j
        · obtain ⟨j, h1, h2, h3⟩ := ha
          rw [if_pos ⟨j, h1, h2, h3⟩, if_pos ⟨j, by omega, h2, h3⟩]
        · rw [if_neg ha, if_neg]
          rintro ⟨j, h1, h2, h3⟩
          by_cases e : j = k
          · subst e; exact hp h3
          · exact ha ⟨j, by omega, h2, h3⟩
  have := this n 0 (by omega)
  simpa using this
/-- A list grown place by place. -/
theorem loopO_grow {α : Type} {f : List α × Int → Option ((List α × Int) ⊕ List α)} (n : Nat) (g : Nat → List α)
    (h : ∀ k : Nat, k < n → f ((List.range k).flatMap g, (k : Int)) = some (.inl ((List.range k).flatMap g ++ g k, (k : Int) + 1)))
    (he : f ((List.range n).flatMap g, (n : Int)) = some (.inr ((List.range n).flatMap g))) :
    loopO f ([], 0) = some ((List.range n).flatMap g) := by
  refine loopO_for (inv := fun k => ((List.range k).flatMap g, (k : Int))) n (fun k hk => ?_) he
  rw [h k hk]
  simp [List.range_succ]
theorem grow_len {α : Type} (g : Nat → List α) (m : Nat) (hg : ∀ k, (g k).length ≤ m) : ∀ k, ((List.range k).flatMap g).length ≤ k * m
  | 0 => by simp
  | k + 1 => by
    have := grow_len g m hg k
    have := hg k
    simp only [List.range_succ, List.flatMap_append, List.flatMap_cons, List.flatMap_nil, List.append_nil, List.length_append, Nat.add_mul, Nat.one_mul]
    omega
/-- A list turned place by place. -/
theorem loopO_turn {α : Type} {f : Int × List α → Option ((Int × List α) ⊕ List α)} (l : List α) (g : Nat → α)
    (h : ∀ (k : Nat) (pre post : List α) (x : α), k < l.length → pre.length = k → l[k]? = some x → f ((k : Int), pre ++ x :: post) = some (.inl ((k : Int) + 1, pre ++ g k :: post)))
    (he : ∀ l', f ((l.length : Int), l') = some (.inr l')) :
    loopO f (0, l) = some ((List.range l.length).map g) := by
  have : ∀ m k : Nat, k + m = l.length → loopO f ((k : Int), (List.range k).map g ++ l.drop k) = some ((List.range l.length).map g) := by
    intro m
    induction m with
    | zero =>
      intro k hk
      have hk : k = l.length := by omega
      subst hk
      rw [loopO_inr (he _)]
      simp
    | succ m ih =>
      intro k hk
      have hlt : k < l.length := by omega
      rw [List.drop_eq_getElem_cons hlt, loopO_inl (h k _ _ _ hlt (by simp) (List.getElem?_eq_getElem hlt))]
      have := ih (k + 1) (by omega)
      rw [List.range_succ, List.map_append] at this
      simpa using this
  have := this l.length 0 (by omega)
  simpa using this
theorem mod_mid {α : Type} (pre post : List α) (x : α) (k : Nat) (u : α → α) (hk : pre.length = k) : mod? (pre ++ x :: post) k u = some (pre ++ u x :: post) := by
  subst hk
  rw [mod_some _ _ _ (by simp)]
  simp
theorem idx_get {α : Type} {l : List α} {k : Nat} {x : α} (h : l[k]? = some x) : idx? l (k : Int) = some x := by
  obtain ⟨hk, e⟩ := List.getElem?_eq_some_iff.1 h
  rw [idx_nat _ _ hk, e]
open Classical in
theorem loopO_alls {α : Type} {f : Int → Option (Int ⊕ (Bool ⊕ Unit))} (l : List α) (p : α → Prop)
    (h : ∀ (k : Nat) (x : α), k < l.length → l[k]? = some x → f (k : Int) = some (if p x then .inl ((k : Int) + 1) else .inr (.inl false)))
    (he : f (l.length : Int) = some (.inr (.inr ()))) : loopO f 0 = some (if ∀ x ∈ l, p x then .inr () else .inl false) := by
  rw [loopO_all l.length (fun k => ∀ x, l[k]? = some x → p x) (fun k hk => ?_) he]
  · have : (∀ k, k < l.length → ∀ x, l[k]? = some x → p x) ↔ ∀ x ∈ l, p x := by
      constructor
      · intro h x hx
        obtain ⟨k, hk, e⟩ := List.getElem_of_mem hx
        exact h k hk x (List.getElem?_eq_some_iff.2 ⟨hk, e⟩)
      · intro h k hk x hx
        exact h x (List.mem_of_getElem? hx)
    by_cases hp : ∀ x ∈ l, p x
    · rw [if_pos hp, if_pos (this.2 hp)]
    · rw [if_neg hp, if_neg fun hh => hp (this.1 hh)]
  · have e := List.getElem?_eq_getElem hk
    rw [h k _ hk e]
    by_cases hp : p l[k]
    · rw [if_pos hp, if_pos (fun x hx => by rw [e] at hx; cases hx; exact hp)]
    · rw [if_neg hp, if_neg (fun hh => hp (hh _ e))]
open Classical in
theorem loopO_anys {α β : Type} {f : Int → Option (Int ⊕ (β ⊕ Unit))} (l : List α) (p : α → Prop) (b : β)
    (h : ∀ (k : Nat) (x : α), k < l.length → l[k]? = some x → f (k : Int) = some (if p x then .inr (.inl b) else .inl ((k : Int) + 1)))
    (he : f (l.length : Int) = some (.inr (.inr ()))) : loopO f 0 = some (if ∃ x ∈ l, p x then .inl b else .inr ()) := by
  rw [loopO_any l.length (fun k => ∃ x, l[k]? = some x ∧ p x) b (fun k hk => ?_) he]
  · have : (∃ k, k < l.length ∧ ∃ x, l[k]? = some x ∧ p x) ↔ ∃ x ∈ l, p x := by
      constructor
      · rintro ⟨k, hk, x, hx, hp⟩
        exact ⟨x, List.mem_of_getElem? hx, hp⟩
      · rintro ⟨x, hx, hp⟩
        obtain ⟨k, hk, e⟩ := List.getElem_of_mem hx
        exact ⟨k, hk, x, List.getElem?_eq_some_iff.2 ⟨hk, e⟩, hp⟩
    by_cases hp : ∃ x ∈ l, p x
    · rw [if_pos hp, if_pos (this.2 hp)]
    · rw [if_neg hp, if_neg fun hh => hp (this.1 hh)]
  · have e := List.getElem?_eq_getElem hk
    rw [h k _ hk e]
    by_cases hp : p l[k]
    · rw [if_pos hp, if_pos ⟨_, e, hp⟩]
    · rw [if_neg hp, if_neg]
      rintro ⟨x, hx, hh⟩
      rw [e] at hx; cases hx; exact hp hh
/-- A list grown out of another one's places, from a place on. -/
theorem loopO_growl {α β : Type} {f : List β × Int → Option ((List β × Int) ⊕ List β)} (l : List α) (g : α → List β) (hg : ∀ x, (g x).length ≤ 1)
    (h : ∀ (k : Nat) (x : α) (out : List β), k < l.length → l[k]? = some x → out.length ≤ k → f (out, (k : Int)) = some (.inl (out ++ g x, (k : Int) + 1)))
    (he : ∀ out, f (out, (l.length : Int)) = some (.inr out)) :
    ∀ (m k : Nat) (out : List β), k + m = l.length → out.length ≤ k → loopO f (out, (k : Int)) = some (out ++ (l.drop k).flatMap g)
  | 0, k, out, hk, ho => by
    have hk : k = l.length := by omega
    subst hk
    rw [loopO_inr (he _)]; simp
  | m + 1, k, out, hk, ho => by
    have hlt : k < l.length := by omega
    rw [loopO_inl (h k _ _ hlt (List.getElem?_eq_getElem hlt) ho), List.drop_eq_getElem_cons hlt, List.flatMap_cons]
    have := loopO_growl l g hg h he m (k + 1) (out ++ g l[k]) (by omega) (by have := hg l[k]; simp only [List.length_append]; omega)
    rw [show ((k : Int) + 1) = ((k + 1 : Nat) : Int) by omega, this, List.append_assoc]
open Classical in
/-- Two lists held against one another. -/
theorem loopO_eqs {α : Type} {f : Int → Option (Int ⊕ (Bool ⊕ Unit))} (l1 l2 : List α) (hl : l1.length = l2.length)
    (h : ∀ (k : Nat) (x y : α), k < l1.length → l1[k]? = some x → l2[k]? = some y → f (k : Int) = some (if x = y then .inl ((k : Int) + 1) else .inr (.inl false)))
    (he : f (l1.length : Int) = some (.inr (.inr ()))) : loopO f 0 = some (if l1 = l2 then .inr () else .inl false) := by
  have e := loopO_all (f := f) l1.length (fun k => l1[k]? = l2[k]?) (fun k hk => ?_) he
  · rw [e]
    by_cases hh : l1 = l2
    · subst hh
      rw [if_pos rfl, if_pos fun k hk => rfl]
    · rw [if_neg hh, if_neg]
      intro ha
      apply hh
      apply List.ext_getElem hl
      intro k h1 h2
      have := ha k h1
      rw [List.getElem?_eq_getElem h1, List.getElem?_eq_getElem h2] at this
      exact Option.some.inj this
  · have h1 := List.getElem?_eq_getElem hk
    have h2 := List.getElem?_eq_getElem (show k < l2.length by omega)
    rw [h k _ _ hk h1 h2, h1, h2]
    by_cases hh : l1[k] = l2[k]
    · rw [if_pos hh, if_pos (by rw [hh])]
    · rw [if_neg hh, if_neg (fun e => hh (Option.some.inj e))]
end Go.Proofs.PF
set_option linter.unusedVariables false
set_option linter.unusedSimpArgs false
namespace Go.Proofs.Ytockahdfbagmgaa
open Go.Proofs.PF
theorem wrI {n : Int} (h : -9223372036854775808 ≤ n) (h' : n ≤ 9223372036854775807) : wr n = n := wr_eq ⟨h, h'⟩
theorem lenMax_eq : lenMax = 4294967296 := rfl
def clampV (n a b : Int) : Int := if n < a then a else if b < a then a else min n b
theorem clamp_eq (n a b : Int) : num_Clamp n a b = some (clampV n a b) := by
  unfold num_Clamp clampV
  by_cases h1 : n < a
  · rw [if_pos h1, if_pos h1]
  · rw [if_neg h1, if_neg h1]
    by_cases h2 : b < a
    · rw [if_pos h2, if_pos h2]
    · rw [if_neg h2, if_neg h2]
      by_cases h3 : b < n
      · rw [if_pos h3]; congr 1; omega
      · rw [if_neg h3]; congr 1; omega
theorem clamp_eq' (n a b : Int) : r01_Clamp n a b = some (clampV n a b) := by
  unfold r01_Clamp clampV
  by_cases h1 : n < a
  · rw [if_pos h1, if_pos h1]
  · rw [if_neg h1, if_neg h1]
    by_cases h2 : b < a
    · rw [if_pos h2, if_pos h2]
    · rw [if_neg h2, if_neg h2]
theorem clamp_in (n a b : Int) (h : a ≤ b) : a ≤ clampV n a b ∧ clampV n a b ≤ b := by unfold clampV; omega
theorem clamp_id (n a b : Int) (h : a ≤ n) (h' : n ≤ b) : clampV n a b = n := by unfold clampV; omega
/-! ### Few -/
theorem few_loop (t : GNet) (hl : t.Links.length ≤ 200) : ∀ (j k : Nat) (n : Int), k + j = t.Links.length → 0 ≤ n → n ≤ 6000 →
    ∃ r, loopO (fun s : Int × Int => r32_Few_0_step t s.1 s.2) (n, (k : Int)) = some r ∧ n ≤ r ∧ (r < 3000 → ∀ l ∈ t.Links.drop k, l.Queue.length < 3000)
  | 0, k, n, hk, h1, h2 => ⟨n, loopO_inr (by simp only [r32_Few_0_step]; rw [if_neg (by omega)]), by omega, fun _ l hl => by rw [List.drop_eq_nil_of_le (by omega)] at hl; cases hl⟩
  | j + 1, k, n, hk, h1, h2 => by
    have hlt : k < t.Links.length := by omega
    have hg := List.getElem?_eq_getElem hlt
    by_cases ht : n < 3000
    · have hw : wr (n + min (t.Links[k].Queue.length : Int) 3000) = n + min (t.Links[k].Queue.length : Int) 3000 := wrI (by omega) (by omega)
      obtain ⟨r, e, a, b⟩ := few_loop t hl j (k + 1) (n + min (t.Links[k].Queue.length : Int) 3000) (by omega) (by omega) (by omega)
      refine ⟨r, ?_, by omega, fun hr l hl => ?_⟩
      · rw [loopO_inl (t := (n + min (t.Links[k].Queue.length : Int) 3000, ((k + 1 : Nat) : Int))) ?_, e]
        simp only [r32_Few_0_step]
        rw [if_pos (by omega), if_pos ht, idx_get hg, Option.bind_some, hw, wrI (n := (k : Int) + 1) (by omega) (by omega)]
        rfl
      · rw [List.drop_eq_getElem_cons hlt] at hl
        rcases List.mem_cons.1 hl with e | e
        · rw [e]; omega
        · exact b hr l e
    · exact ⟨n, loopO_inr (by simp only [r32_Few_0_step]; rw [if_pos (by omega), if_neg ht]), by omega, fun hr => absurd hr ht⟩
/-- Nets of few links, and few items on each. -/
structure Fw (t : GNet) : Prop where
  links : t.Links.length ≤ 200
  queue : ∀ l ∈ t.Links, l.Queue.length < 3000
theorem few_eq (t : GNet) : ∃ b, r32_Few t = some b ∧ (b = true → Fw t) := by
  unfold r32_Few
  by_cases h : 200 < (t.Links.length : Int)
  · rw [if_pos h]; exact ⟨_, rfl, fun hb => Bool.noConfusion hb⟩
  · rw [if_neg h]
    obtain ⟨r, e, a, b⟩ := few_loop t (by omega) t.Links.length 0 0 (by omega) (by omega) (by omega)
    have e' : r32_Few_0 t 0 0 = some r := e
    rw [e', Option.bind_some]
    exact ⟨_, rfl, fun hb => ⟨by omega, b (of_decide_eq_true hb)⟩⟩
/-! ### Nets -/
def newV (n : Int) : GNet := ⟨clampV n 0 13, List.replicate (clampV n 0 13 * clampV n 0 13).toNat ⟨[], 0⟩⟩
/-- As many links as there are. -/
def Sound (t : GNet) : Prop := 0 ≤ t.N ∧ t.N ≤ 13 ∧ (t.Links.length : Int) = t.N * t.N
open Classical in
noncomputable def openV (t : GNet) : GNet := if Sound t then t else newV t.N
theorem sq_in (n : Int) (h : 0 ≤ n) (h' : n ≤ 13) : 0 ≤ n * n ∧ n * n ≤ 169 := by
  obtain ⟨k, rfl⟩ := Int.eq_ofNat_of_zero_le h
  have hk : k ≤ 13 := by omega
  have := Nat.mul_le_mul hk hk
  omega
theorem new_sound (n : Int) : Sound (newV n) := by
  have h := clamp_in n 0 13 (by omega)
  have := sq_in _ h.1 h.2
  refine ⟨h.1, h.2, ?_⟩
  simp only [newV, List.length_replicate]
  omega
theorem open_sound (t : GNet) : Sound (openV t) := by
  unfold openV
  split
  · assumption
  · exact new_sound _
theorem open_id (t : GNet) (h : Sound t) : openV t = t := by unfold openV; rw [if_pos h]
theorem open_fw (t : GNet) (h : Fw t) : Fw (openV t) := by
  unfold openV
  split
  · exact h
  · have hc := clamp_in t.N 0 13 (by omega)
    have := sq_in _ hc.1 hc.2
    refine ⟨by simp only [newV, List.length_replicate]; omega, fun l hl => ?_⟩
    simp only [newV] at hl
    rw [List.eq_of_mem_replicate hl]; simp
theorem up_pl (x : GLink) : (GLink_g.up x).pl = x := rfl
theorem new_eq (n : Int) : net_New n = some ((newV n).N, (newV n).Links.length, List.replicate (newV n).Links.length (GLink_g.mk (Gr.full, ([] : List GItem)) 0)) := by
  have h := clamp_in n 0 13 (by omega)
  have h2 := sq_in _ h.1 h.2
  unfold net_New
  rw [clamp_eq, Option.bind_some, wrI (by omega) (by omega), if_pos ⟨h2.1, by rw [lenMax_eq]; omega⟩]
  simp only [newV, List.length_replicate]
theorem new_eq' (n : Int) : r32_New n = some (newV n) := by
  have h := clamp_in n 0 13 (by omega)
  have h2 := sq_in _ h.1 h.2
  unfold r32_New
  rw [clamp_eq', Option.bind_some]
  generalize hc : clampV n 0 13 = c at h h2
  have e : r32_New_0 c (GNet.mk 0 ([] : List GLink)) 0 (GNet.mk c ([] : List GLink)) = some (newV n) := by
    unfold r32_New_0
    refine loopO_for (inv := fun k => ((k : Int), GNet.mk c (List.replicate k ⟨[], 0⟩))) (c * c).toNat (fun k hk => ?_) ?_
    · simp only [r32_New_0_step]
      rw [wrI (n := c * c) (by omega) (by omega), if_pos (by omega), if_pos (by rw [lenMax_eq]; simp; omega), wrI (by omega) (by omega), List.replicate_succ']
      rfl
    · simp only [r32_New_0_step]
      rw [wrI (n := c * c) (by omega) (by omega), if_neg (by omega)]
      simp only [newV, hc]
  rw [e]; rfl
theorem sound_eq (t : GNet) : net_sound t = some (@decide (Sound t) (Classical.propDecidable _)) := by
  unfold net_sound
  by_cases h1 : 0 ≤ t.N
  · rw [if_pos h1]
    by_cases h2 : t.N ≤ 13
    · have := sq_in _ h1 h2
      rw [if_pos h2, wrI (by omega) (by omega)]
      congr 1
      by_cases h3 : (t.Links.length : Int) = t.N * t.N
      · rw [decide_eq_true h3, @decide_eq_true _ (Classical.propDecidable _) ⟨h1, h2, h3⟩]
      · rw [decide_eq_false h3, @decide_eq_false _ (Classical.propDecidable _) (fun h => h3 h.2.2)]
    · rw [if_neg h2, @decide_eq_false _ (Classical.propDecidable _) (fun h => h2 h.2.1)]
  · rw [if_neg h1, @decide_eq_false _ (Classical.propDecidable _) (fun h => h1 h.1)]
theorem clone_eq (l : List GItem) (h : l.length ≤ 4294967296) : slices_Clone_api_Item_api_Item l = some l := by unfold slices_Clone_api_Item_api_Item; rw [if_pos (by rw [lenMax_eq]; exact h)]
theorem open_eq (t : GNet) (h : Fw t) : ∃ L : List GLink_g, net_open t = some ((openV t).N, L.length, L) ∧ L.map GLink_g.pl = (openV t).Links := by
  have hl := h.links
  unfold net_open
  rw [sound_eq, Option.bind_some]
  by_cases hs : Sound t
  · rw [@decide_eq_true _ (Classical.propDecidable _) hs, if_neg (by decide), if_pos ⟨by omega, by rw [lenMax_eq]; omega⟩, open_id t hs]
    have e : net_open_0 t.Links (t.Links.length : Int) t.N (Int.toNat (t.Links.length : Int)) (GNet.mk 0 ([] : List GLink)) t 0 (List.replicate (Int.toNat (t.Links.length : Int)) (GLink_g.mk (Gr.full, ([] : List GItem)) 0))
        = some ((List.range t.Links.length).map fun k => GLink_g.up (t.Links.getD k ⟨[], 0⟩)) := by
      unfold net_open_0
      rw [Int.toNat_natCast]
      have := loopO_turn (f := fun s : Int × (List GLink_g) => net_open_0_step t.Links (t.Links.length : Int) t.N t.Links.length (GNet.mk 0 ([] : List GLink)) t s.1 s.2) (List.replicate t.Links.length (GLink_g.mk (Gr.full, ([] : List GItem)) 0))
        (fun k => GLink_g.up (t.Links.getD k ⟨[], 0⟩)) (fun k pre post x hk hp hx => ?_) (fun l' => ?_)
      · rw [List.length_replicate] at this; exact this
      · rw [List.length_replicate] at hk
        have hg := List.getElem?_eq_getElem hk
        simp only [net_open_0_step]
        rw [if_pos (by omega), idx_get hg, Option.bind_some, clone_eq _ (by have := h.queue _ (List.getElem_mem hk); omega), Option.bind_some, if_pos (by omega), Int.toNat_natCast, mod_mid _ _ _ _ _ hp, Option.bind_some,
          wrI (by omega) (by omega), List.getD_eq_getElem?_getD, hg]
        rfl
      · rw [List.length_replicate]
        simp only [net_open_0_step]
        rw [if_neg (by omega)]
    rw [e, Option.bind_some]
    refine ⟨_, by rw [List.length_map, List.length_range, Int.toNat_natCast], ?_⟩
    rw [List.map_map]
    apply List.ext_getElem
    · simp
    · intro i h1 h2
      simp only [List.getElem_map, List.getElem_range, Function.comp_apply, up_pl, List.getD_eq_getElem?_getD, List.getElem?_eq_getElem h2, Option.getD_some]
  · rw [@decide_eq_false _ (Classical.propDecidable _) hs, if_pos (by decide), new_eq, Option.bind_some]
    have : openV t = newV t.N := by unfold openV; rw [if_neg hs]
    rw [this]
    refine ⟨List.replicate (newV t.N).Links.length (GLink_g.mk (Gr.full, ([] : List GItem)) 0), by rw [List.length_replicate], ?_⟩
    rw [List.map_replicate]
    simp only [newV, List.length_replicate]
theorem well_eq (t : GNet) : r32_well t = some (openV t) := by
  unfold r32_well openV
  rw [new_eq']
  by_cases h1 : t.N < 0
  · rw [if_pos h1, if_neg (fun h => by have := h.1; omega)]; rfl
  · rw [if_neg h1]
    by_cases h2 : 13 < t.N
    · rw [if_pos h2, if_neg (fun h => by have := h.2.1; omega)]; rfl
    · have := sq_in t.N (by omega) (by omega)
      rw [if_neg h2, wrI (by omega) (by omega)]
      by_cases h3 : (t.Links.length : Int) = t.N * t.N
      · rw [if_neg (by omega), if_pos ⟨by omega, by omega, h3⟩]
      · rw [if_pos h3, if_neg (fun h => h3 h.2.2)]; rfl
/-! ### Links -/
def pushV (l : GLink) (x : GItem) : GLink := ⟨(l.Queue ++ [x]).drop (l.Queue.length + 1 - 8), min (clampV l.Lost 0 65535 + ((l.Queue.length + 1 - 8 : Nat) : Int)) 65535⟩
def sendV (l : GLink) (b : List UInt8) (d : Int) : GLink := if b = [] then l else pushV l ⟨0, clampV d 1 8, b⟩
theorem qpush_eq (q : List GItem) (x : GItem) (h : q.length ≤ 1000000) : queue_Push q [x] = some ((q ++ [x]).drop (q.length + 1 - 8), ((q.length + 1 - 8 : Nat) : Int)) := by
  have e : max 0 (wr ((List.length (q ++ [x]) : Int) - 8)) = ((q.length + 1 - 8 : Nat) : Int) := by
    rw [List.length_append, wrI (by omega) (by simp; omega)]
    simp only [List.length_cons, List.length_nil]; omega
  unfold queue_Push
  rw [e, wrI (by simp; omega) (by simp; omega), if_pos ⟨by omega, by rw [lenMax_eq]; simp; omega⟩, if_pos (by rw [lenMax_eq]; simp; omega), if_pos (by rw [lenMax_eq]; simp; omega),
    if_pos ⟨by omega, by rw [List.length_append]; simp; omega⟩, Int.toNat_natCast]
theorem qpush_loop : ∀ (j : Nat) (out : List GItem) (g : Int), out.length - 8 = j → out.length ≤ 2000000 → 0 ≤ g → g + j ≤ 3000000 →
    loopO (fun s : (List GItem) × Int => r08_Push_0_step s.1 s.2) (out, g) = some (out.drop j, g + j)
  | 0, out, g, hj, h1, h2, h3 => by
    rw [loopO_inr (r := (out, g))]
    · simp
    · simp only [r08_Push_0_step]; rw [if_neg (by omega)]
  | j + 1, out, g, hj, h1, h2, h3 => by
    rw [loopO_inl (t := (out.drop 1, g + 1)), qpush_loop j _ _ (by simp; omega) (by simp; omega) (by omega) (by omega), List.drop_drop, Nat.add_comm 1 j]
    · congr 2; omega
    · simp only [r08_Push_0_step]
      rw [if_pos (by omega), if_pos ⟨by omega, by omega⟩, wrI (by omega) (by omega)]
      rfl
theorem qpush_eq' (q : List GItem) (x : GItem) (h : q.length ≤ 1000000) : r08_Push q [x] = some ((q ++ [x]).drop (q.length + 1 - 8), ((q.length + 1 - 8 : Nat) : Int)) := by
  have e := qpush_loop ((q ++ [x]).length - 8) (q ++ [x]) 0 rfl (by simp; omega) (by omega) (by simp; omega)
  have e' : r08_Push_0 (q ++ [x]) 0 = some ((q ++ [x]).drop (q.length + 1 - 8), ((q.length + 1 - 8 : Nat) : Int)) := by
    unfold r08_Push_0
    rw [e, Int.zero_add, List.length_append]; rfl
  unfold r08_Push
  rw [if_pos (by rw [lenMax_eq]; simp; omega), if_pos (by rw [lenMax_eq]; simp; omega), e', Option.bind_some]
theorem send_eq (l : GLink) (b : List UInt8) (d : Int) (h : l.Queue.length ≤ 1000000) : link_Send l b d = some (sendV l b d) := by
  have hc := clamp_in l.Lost 0 65535 (by omega)
  unfold link_Send link_open sendV
  rw [clone_eq _ (by omega), Option.bind_some, Option.bind_some]
  by_cases hb : b = []
  · rw [if_neg (by simpa using hb), if_pos hb]
  · rw [if_pos hb, if_neg hb, clamp_eq, Option.bind_some]
    unfold link_line_push
    simp only
    rw [qpush_eq _ _ h, Option.bind_some, clamp_eq, Option.bind_some, Option.bind_some]
    simp only
    rw [wrI (by omega) (by omega)]
    rfl
theorem send_eq' (l : GLink) (b : List UInt8) (d : Int) (h : l.Queue.length ≤ 1000000) : r31_Send l b d = some (sendV l b d) := by
  have hc := clamp_in l.Lost 0 65535 (by omega)
  unfold r31_Send sendV
  by_cases hb : b = []
  · rw [if_pos hb, if_pos hb]
  · rw [if_neg hb, if_neg hb, clamp_eq', Option.bind_some, if_pos (by rw [lenMax_eq]; simp), qpush_eq' _ _ h, Option.bind_some, clamp_eq', Option.bind_some]
    simp only
    rw [wrI (by omega) (by omega)]
    rfl
end Go.Proofs.Ytockahdfbagmgaa
set_option linter.unusedVariables false
set_option linter.unusedSimpArgs false
namespace Go.Proofs.Ytockahdfbagmgaa
open Go.Proofs.PF
def InR (t : GNet) (f g : Int) : Prop := 0 ≤ f ∧ f < t.N ∧ 0 ≤ g ∧ g < t.N
instance (t : GNet) (f g : Int) : Decidable (InR t f g) := by unfold InR; infer_instance
def ixV (t : GNet) (f g : Int) : Nat := (f * t.N + g).toNat
theorem ix_in (t : GNet) (f g : Int) (hs : Sound t) (h : InR t f g) : f * t.N + g = (ixV t f g : Int) ∧ ixV t f g < t.Links.length ∧ 0 ≤ f * t.N ∧ f * t.N + g < 169 := by
  obtain ⟨h1, h2, h3⟩ := hs
  obtain ⟨a, b, c, d⟩ := h
  have e1 := Int.mul_le_mul_of_nonneg_right (show f ≤ t.N - 1 by omega) h1
  have e2 : (t.N - 1) * t.N = t.N * t.N - t.N := by rw [Int.sub_mul, Int.one_mul]
  have e3 := Int.mul_nonneg a h1
  have e4 := sq_in t.N h1 h2
  have e5 : f * t.N + g = (ixV t f g : Int) := by unfold ixV; omega
  exact ⟨e5, by omega, e3, by omega⟩
theorem at_eq (t : GNet) (f g : Int) (hs : Sound t) : net_at t f g = some (if InR t f g then ((ixV t f g : Int), true) else (0, false)) := by
  unfold net_at
  by_cases h1 : f < 0
  · rw [if_pos h1, if_neg (fun h => by have := h.1; omega)]
  · rw [if_neg h1]
    by_cases h2 : t.N ≤ f
    · rw [if_pos h2, if_neg (fun h => by have := h.2.1; omega)]
    · rw [if_neg h2]
      by_cases h3 : g < 0
      · rw [if_pos h3, if_neg (fun h => by have := h.2.2.1; omega)]
      · rw [if_neg h3]
        by_cases h4 : t.N ≤ g
        · rw [if_pos h4, if_neg (fun h => by have := h.2.2.2; omega)]
        · have hr : InR t f g := ⟨by omega, by omega, by omega, by omega⟩
          obtain ⟨a, b, c, d⟩ := ix_in t f g hs hr
          rw [if_neg h4, if_pos hr, wrI (n := f * t.N) (by omega) (by omega), wrI (by omega) (by omega), a]
theorem has_eq (t : GNet) (n : Int) : r32_has t n = some (decide (0 ≤ n ∧ n < t.N)) := by
  unfold r32_has
  by_cases h : 0 ≤ n
  · rw [if_pos h]; simp [h]
  · rw [if_neg h]; simp [h]
def putV (t : GNet) (s : GSend) : List GLink := if InR t s.From s.To then t.Links.set (ixV t s.From s.To) (sendV (t.Links.getD (ixV t s.From s.To) ⟨[], 0⟩) s.Bytes s.Delay) else t.Links
def sendN (t : GNet) (s : GSend) : GNet := ⟨t.N, putV t s⟩
theorem send_len (l : GLink) (b : List UInt8) (d : Int) : (sendV l b d).Queue.length ≤ max l.Queue.length 8 := by
  unfold sendV
  split
  · omega
  · simp only [pushV, List.length_drop, List.length_append, List.length_cons, List.length_nil]; omega
theorem put_len (t : GNet) (s : GSend) : (putV t s).length = t.Links.length := by unfold putV; split <;> simp
theorem sendN_sound (t : GNet) (s : GSend) (h : Sound t) : Sound (sendN t s) := ⟨h.1, h.2.1, by have := h.2.2; show ((putV t s).length : Int) = _; rw [put_len]; exact this⟩
theorem sendN_fw (t : GNet) (s : GSend) (h : Fw t) : Fw (sendN t s) := by
  refine ⟨by show (putV t s).length ≤ 200; rw [put_len]; exact h.links, fun l hl => ?_⟩
  have hl : l ∈ putV t s := hl
  unfold putV at hl
  split at hl
  · rcases List.mem_or_eq_of_mem_set hl with e | e
    · exact h.queue l e
    · rw [e]
      have := send_len (t.Links.getD (ixV t s.From s.To) ⟨[], 0⟩) s.Bytes s.Delay
      have h2 : (t.Links.getD (ixV t s.From s.To) ⟨[], 0⟩).Queue.length < 3000 := by
        rw [List.getD_eq_getElem?_getD]
        cases hg : t.Links[ixV t s.From s.To]? with
        | none => simp
        | some z => exact h.queue z (List.mem_of_getElem? hg)
      omega
  · exact h.queue l hl
theorem put_eq (t : GNet) (s : GSend) (L : List GLink_g) (hL : L.map GLink_g.pl = t.Links) (hs : Sound t) (hf : Fw t) : ∃ L', net_put t.N L.length s L = some L' ∧ L'.map GLink_g.pl = putV t s ∧ L'.length = L.length := by
  have hlen : L.length = t.Links.length := by rw [← hL, List.length_map]
  have ht : GNet.mk t.N (L.map GLink_g.pl) = t := by rw [hL]
  unfold net_put
  rw [sub_all L _ rfl, Option.bind_some, ht, at_eq t _ _ hs, Option.bind_some]
  unfold putV
  by_cases hr : InR t s.From s.To
  · obtain ⟨a, b, c, d⟩ := ix_in t _ _ hs hr
    rw [if_pos hr, if_pos hr]
    simp only [if_true]
    have hlt : ixV t s.From s.To < L.length := by omega
    have hg : t.Links[ixV t s.From s.To]? = some (L[ixV t s.From s.To]).pl := by rw [← hL, List.getElem?_map, List.getElem?_eq_getElem hlt]; rfl
    have hq := hf.queue _ (List.mem_of_getElem? hg)
    rw [if_pos ⟨by omega, by omega⟩, Int.toNat_natCast, List.getElem?_eq_getElem hlt, Option.bind_some]
    rw [show (GLink.mk L[ixV t s.From s.To].Queue.2 L[ixV t s.From s.To].Lost) = (L[ixV t s.From s.To]).pl from rfl, send_eq _ _ _ (by omega), Option.bind_some, if_pos ⟨by omega, by omega⟩, mod_some _ _ _ hlt, Option.bind_some]
    refine ⟨_, rfl, ?_, by simp⟩
    rw [List.map_set, hL, List.getD_eq_getElem?_getD, hg]
    rfl
  · rw [if_neg hr, if_neg hr]
    exact ⟨L, rfl, hL, rfl⟩
theorem Send_eq (t : GNet) (s : GSend) (h : Fw t) : net_Send t s = some (sendN (openV t) s) := by
  obtain ⟨L, e1, e2⟩ := open_eq t h
  obtain ⟨L', e3, e4, e5⟩ := put_eq (openV t) s L e2 (open_sound t) (open_fw t h)
  unfold net_Send
  rw [e1, Option.bind_some]
  simp only
  rw [e3, Option.bind_some, sub_all _ _ e5.symm, Option.bind_some, e4]
  rfl
theorem Send_eq' (t : GNet) (s : GSend) (h : Fw t) : r32_Send t s = some (sendN (openV t) s) := by
  have hs := open_sound t
  have hf := open_fw t h
  unfold r32_Send
  rw [well_eq, Option.bind_some]
  generalize openV t = u at hs hf
  rw [has_eq, Option.bind_some, has_eq, Option.bind_some]
  unfold sendN putV
  by_cases h1 : 0 ≤ s.From ∧ s.From < u.N
  · rw [decide_eq_true h1, if_neg (by decide)]
    by_cases h2 : 0 ≤ s.To ∧ s.To < u.N
    · have hr : InR u s.From s.To := ⟨h1.1, h1.2, h2.1, h2.2⟩
      obtain ⟨a, b, c, d⟩ := ix_in u _ _ hs hr
      have hll := hf.links
      have hlt : ixV u s.From s.To < (([] : List GLink_g) ++ u.Links.map GLink_g.up).length := by simp; exact b
      have hg : (([] : List GLink_g) ++ u.Links.map GLink_g.up)[ixV u s.From s.To]? = some (GLink_g.up u.Links[ixV u s.From s.To]) := by
        rw [List.nil_append, List.getElem?_map, List.getElem?_eq_getElem b]; rfl
      have hq := hf.queue _ (List.getElem_mem b)
      rw [decide_eq_true h2, if_neg (by decide), if_pos hr, if_pos (by rw [lenMax_eq]; simp; omega), wrI (n := s.From * u.N) (by omega) (by omega), wrI (n := s.From * u.N + s.To) (by omega) (by omega), a,
        if_pos ⟨by omega, by omega⟩, Int.toNat_natCast, hg, Option.bind_some]
      rw [show (GLink.mk (GLink_g.up u.Links[ixV u s.From s.To]).Queue.2 (GLink_g.up u.Links[ixV u s.From s.To]).Lost) = u.Links[ixV u s.From s.To] from rfl, send_eq' _ _ _ (by omega), Option.bind_some, if_pos ⟨by omega, by omega⟩,
        mod_some _ _ _ hlt, Option.bind_some, sub_all _ _ (by simp), Option.bind_some, List.map_set, List.nil_append, List.map_map]
      have e : (GLink_g.pl ∘ GLink_g.up) = id := rfl
      rw [e, List.map_id, List.getD_eq_getElem?_getD, List.getElem?_eq_getElem b]
      rfl
    · rw [decide_eq_false h2, if_pos (by decide), if_neg (fun hr => h2 ⟨hr.2.2.1, hr.2.2.2⟩)]
  · rw [decide_eq_false h1, if_pos (by decide), if_neg (fun hr => h1 ⟨hr.1, hr.2.1⟩)]
/-! ### To all -/
def castN (t : GNet) (f : Int) (b : List UInt8) (ds : List Int) : Nat → GNet
  | 0 => t
  | k + 1 => sendN (castN t f b ds k) ⟨f, (k : Int), ds.getD k 1, b⟩
theorem castN_ok (t : GNet) (f : Int) (b : List UInt8) (ds : List Int) (hs : Sound t) (hf : Fw t) : ∀ k, Sound (castN t f b ds k) ∧ Fw (castN t f b ds k) ∧ (castN t f b ds k).N = t.N
  | 0 => ⟨hs, hf, rfl⟩
  | k + 1 => by
    obtain ⟨a, b', c⟩ := castN_ok t f b ds hs hf k
    exact ⟨sendN_sound _ _ a, sendN_fw _ _ b', c⟩
theorem cast_loop (t r x : GNet) (f : Int) (b : List UInt8) (ds : List Int) (n : Nat) (hn : t.N = n) (hd : ds.length ≤ 40) (hs : Sound t) (hf : Fw t) (len : Nat) : ∀ (j k : Nat) (L : List GLink_g), k + j = n → L.length = len → L.map GLink_g.pl = (castN t f b ds k).Links →
    ∃ L', loopO (fun s : Int × (List GLink_g) => net_Cast_0_step f b ds t.N t.N len r x s.1 s.2) ((k : Int), L) = some L' ∧ L'.length = len ∧ L'.map GLink_g.pl = (castN t f b ds n).Links
  | 0, k, L, hk, hl, hL => ⟨L, loopO_inr (by simp only [net_Cast_0_step]; rw [if_neg (by omega)]), hl, by rw [hL, show n = k by omega]⟩
  | j + 1, k, L, hk, hl, hL => by
    obtain ⟨q1, q2, q3⟩ := castN_ok t f b ds hs hf k
    have h13 := hs.2.1
    obtain ⟨L1, e1, e2, e3⟩ := put_eq (castN t f b ds k) ⟨f, (k : Int), ds.getD k 1, b⟩ L hL q1 q2
    rw [q3, hl] at e1
    obtain ⟨L', a1, a2, a3⟩ := cast_loop t r x f b ds n hn hd hs hf len j (k + 1) L1 (by omega) (by omega) e2
    refine ⟨L', ?_, a2, a3⟩
    rw [loopO_inl (t := (((k + 1 : Nat) : Int), L1)), a1]
    simp only [net_Cast_0_step]
    rw [if_pos (by omega), wrI (by omega) (by omega)]
    by_cases h1 : (k : Int) < (ds.length : Int)
    · have hg := List.getElem?_eq_getElem (show k < ds.length by omega)
      rw [List.getD_eq_getElem?_getD, hg] at e1
      rw [if_pos h1, idx_get hg, Option.bind_some]
      simp only [Option.getD_some] at e1
      rw [e1, Option.bind_some]; rfl
    · rw [List.getD_eq_getElem?_getD, List.getElem?_eq_none (by omega)] at e1
      rw [if_neg h1]
      simp only [Option.getD_none] at e1
      rw [e1, Option.bind_some]; rfl
theorem Cast_eq (t : GNet) (f : Int) (b : List UInt8) (ds : List Int) (h : Fw t) (hd : ds.length ≤ 40) : net_Cast t f b ds = some (castN (openV t) f b ds (openV t).N.toNat) := by
  obtain ⟨L, e1, e2⟩ := open_eq t h
  have hs := open_sound t
  have hN : (openV t).N = ((openV t).N.toNat : Int) := by have := hs.1; omega
  obtain ⟨L', a1, a2, a3⟩ := cast_loop (openV t) (GNet.mk 0 ([] : List GLink)) t f b ds (openV t).N.toNat hN hd hs (open_fw t h) L.length (openV t).N.toNat 0 L (by omega) rfl e2
  have a1' : net_Cast_0 f b ds (openV t).N (openV t).N L.length (GNet.mk 0 ([] : List GLink)) t 0 L = some L' := a1
  unfold net_Cast
  rw [e1, Option.bind_some]
  simp only
  rw [a1', Option.bind_some, sub_all _ _ a2.symm, Option.bind_some, a3]
  have := (castN_ok (openV t) f b ds hs (open_fw t h) (openV t).N.toNat).2.2
  congr 1
  cases hc : castN (openV t) f b ds (openV t).N.toNat with
  | mk n l => rw [hc] at this; simp only at this; rw [← this]
theorem Cast_eq' (t : GNet) (f : Int) (b : List UInt8) (ds : List Int) (h : Fw t) (hd : ds.length ≤ 40) : r32_Cast t f b ds = some (castN (openV t) f b ds (openV t).N.toNat) := by
  have hs := open_sound t
  have hf := open_fw t h
  unfold r32_Cast
  rw [well_eq, Option.bind_some]
  generalize openV t = u at hs hf
  have h13 := hs.2.1
  have h0 := hs.1
  have e : r32_Cast_0 f b ds (GNet.mk 0 ([] : List GLink)) t 0 u = some (castN u f b ds u.N.toNat) := by
    unfold r32_Cast_0
    refine loopO_for (inv := fun k => ((k : Int), castN u f b ds k)) u.N.toNat (fun k hk => ?_) ?_
    · obtain ⟨q1, q2, q3⟩ := castN_ok u f b ds hs hf k
      have es := Send_eq' (castN u f b ds k) ⟨f, (k : Int), ds.getD k 1, b⟩ q2
      rw [open_id _ q1] at es
      simp only [r32_Cast_0_step]
      rw [if_pos (by omega), wrI (by omega) (by omega)]
      by_cases h1 : (k : Int) < (ds.length : Int)
      · have hg := List.getElem?_eq_getElem (show k < ds.length by omega)
        rw [List.getD_eq_getElem?_getD, hg] at es
        simp only [Option.getD_some] at es
        rw [if_pos h1, idx_get hg, Option.bind_some, es, Option.bind_some]
        simp only [castN, List.getD_eq_getElem?_getD, hg, Option.getD_some]
        rfl
      · rw [List.getD_eq_getElem?_getD, List.getElem?_eq_none (by omega)] at es
        simp only [Option.getD_none] at es
        rw [if_neg h1, es, Option.bind_some]
        simp only [castN, List.getD_eq_getElem?_getD, List.getElem?_eq_none (show ds.length ≤ k by omega), Option.getD_none]
        rfl
    · have := (castN_ok u f b ds hs hf u.N.toNat).2.2
      simp only [r32_Cast_0_step]
      rw [if_neg (by omega)]
  rw [e]; rfl
/-! ### One link -/
def linkV (t : GNet) (f g : Int) : GLink := if InR t f g then t.Links.getD (ixV t f g) ⟨[], 0⟩ else ⟨[], 0⟩
theorem Link_eq (t : GNet) (f g : Int) (h : Fw t) : net_Link t f g = some (linkV (openV t) f g) := by
  obtain ⟨L, e1, e2⟩ := open_eq t h
  have hs := open_sound t
  unfold net_Link
  rw [e1, Option.bind_some]
  simp only
  rw [sub_all L _ rfl, Option.bind_some, e2]
  have ht : GNet.mk (openV t).N (openV t).Links = openV t := rfl
  rw [ht, at_eq _ _ _ hs, Option.bind_some]
  unfold linkV
  by_cases hr : InR (openV t) f g
  · obtain ⟨a, b, c, d⟩ := ix_in _ _ _ hs hr
    rw [if_pos hr, if_pos hr, if_neg (by simp), idx_get (List.getElem?_eq_getElem b), Option.bind_some, List.getD_eq_getElem?_getD, List.getElem?_eq_getElem b]; rfl
  · rw [if_neg hr, if_neg hr, if_pos (by simp)]
theorem Link_eq' (t : GNet) (f g : Int) (h : Fw t) : r32_Link t f g = some (linkV (openV t) f g) := by
  have hs := open_sound t
  unfold r32_Link
  rw [well_eq, Option.bind_some]
  generalize openV t = u at hs
  rw [has_eq, Option.bind_some, has_eq, Option.bind_some]
  unfold linkV
  by_cases h1 : 0 ≤ f ∧ f < u.N
  · rw [decide_eq_true h1, if_neg (by decide)]
    by_cases h2 : 0 ≤ g ∧ g < u.N
    · have hr : InR u f g := ⟨h1.1, h1.2, h2.1, h2.2⟩
      obtain ⟨a, b, c, d⟩ := ix_in u _ _ hs hr
      rw [decide_eq_true h2, if_neg (by decide), if_pos hr, wrI (n := f * u.N) (by omega) (by omega), wrI (by omega) (by omega), a, idx_get (List.getElem?_eq_getElem b), Option.bind_some, List.getD_eq_getElem?_getD, List.getElem?_eq_getElem b]; rfl
    · rw [decide_eq_false h2, if_pos (by decide), if_neg (fun hr => h2 ⟨hr.2.2.1, hr.2.2.2⟩)]
  · rw [decide_eq_false h1, if_pos (by decide), if_neg (fun hr => h1 ⟨hr.1, hr.2.1⟩)]
/-! ### The same -/
theorem qsame (q : List GItem) (h : q.length ≤ 1000000) : r08_Same q q = some true := by
  have e : r08_Same_0 q q 0 = some (.inr ()) := by
    unfold r08_Same_0
    refine loopO_for (inv := fun k => (k : Int)) q.length (fun k hk => ?_) ?_
    · have hg := List.getElem?_eq_getElem hk
      simp only [r08_Same_0_step]
      rw [if_pos (by omega), idx_get hg, Option.bind_some, Option.bind_some, if_neg (by simp), wrI (by omega) (by omega)]
      rfl
    · simp only [r08_Same_0_step]; rw [if_neg (by omega)]
  unfold r08_Same
  rw [if_neg (by simp), e]; rfl
theorem lsame (l : GLink) (h : l.Queue.length ≤ 1000000) : r31_Same l l = some true := by
  unfold r31_Same
  rw [if_pos rfl, qsame _ h]; rfl
theorem nsame (t : GNet) (h : Fw t) : r32_Same t t = some true := by
  have hl := h.links
  have e : r32_Same_0 t t 0 = some (.inr ()) := by
    unfold r32_Same_0
    refine loopO_for (inv := fun k => (k : Int)) t.Links.length (fun k hk => ?_) ?_
    · have hg := List.getElem?_eq_getElem hk
      simp only [r32_Same_0_step]
      rw [if_pos (by omega), idx_get hg, Option.bind_some, Option.bind_some, lsame _ (by have := h.queue _ (List.getElem_mem hk); omega), Option.bind_some, if_neg (by decide), wrI (by omega) (by omega)]
      rfl
    · simp only [r32_Same_0_step]; rw [if_neg (by omega)]
  unfold r32_Same
  rw [if_neg (by simp), if_neg (by simp), e]; rfl
theorem new_fw (n : Int) : Fw (newV n) := by
  have hc := clamp_in n 0 13 (by omega)
  have := sq_in _ hc.1 hc.2
  refine ⟨by simp only [newV, List.length_replicate]; omega, fun l hl => ?_⟩
  simp only [newV] at hl
  rw [List.eq_of_mem_replicate hl]; simp
theorem link_fw (t : GNet) (f g : Int) (h : Fw t) : (linkV t f g).Queue.length < 3000 := by
  unfold linkV
  split
  · rw [List.getD_eq_getElem?_getD]
    cases hg : t.Links[ixV t f g]? with
    | none => simp
    | some z => exact h.queue z (List.mem_of_getElem? hg)
  · simp
theorem NetMoves_true (t : GNet) (s : GSend) (ds : List Int) : l32_NetMoves t s ds = some true := by
  unfold l32_NetMoves
  have hk : l32_known = some true := rfl
  obtain ⟨b, hb, hf⟩ := few_eq t
  rw [hb, Option.bind_some, hk]
  cases b with
  | false => rfl
  | true =>
    have hf := hf rfl
    rw [if_neg (by decide)]
    by_cases hd : 40 < (ds.length : Int)
    · rw [if_pos hd]; rfl
    · have hso := open_sound t
      have hfo := open_fw t hf
      have en : GNet.mk (newV t.N).N (List.map GLink_g.pl (List.replicate (newV t.N).Links.length (GLink_g.mk (Gr.full, ([] : List GItem)) 0))) = newV t.N := by
        rw [List.map_replicate]; simp only [newV, List.length_replicate]
      rw [if_neg hd, new_eq, Option.bind_some]
      simp only
      rw [sub_all _ _ (by rw [List.length_replicate]), Option.bind_some, new_eq', Option.bind_some, en, nsame _ (new_fw _), Option.bind_some, if_pos rfl, Link_eq t _ _ hf, Option.bind_some, Link_eq' t _ _ hf, Option.bind_some,
        lsame _ (by have := link_fw (openV t) s.From s.To hfo; omega), Option.bind_some, if_pos rfl, Send_eq t s hf, Option.bind_some, Send_eq' t s hf, Option.bind_some, nsame _ (sendN_fw _ _ hfo), Option.bind_some, if_pos rfl,
        Cast_eq t _ _ ds hf (by omega), Option.bind_some, Cast_eq' t _ _ ds hf (by omega), Option.bind_some, nsame _ (castN_ok _ _ _ _ hso hfo _).2.1, Option.bind_some, if_pos rfl]
      rfl
end Go.Proofs.Ytockahdfbagmgaa
set_option linter.unusedVariables false
set_option linter.unusedSimpArgs false
namespace Go.Proofs.Ytockahdfbagmgaa
open Go.Proofs.PF
theorem GItem.dec {cs : List AV} (h : wfcs [.i .i64, .i .i64, .s] cs) : ∃ p : GItem, mkE true cs = p.av ∧ True := by
  obtain ⟨_, _, rfl, h0, h⟩ := wfcs_cons h
  obtain ⟨_, _, rfl, h1, h⟩ := wfcs_cons h
  obtain ⟨_, _, rfl, h2, h⟩ := wfcs_cons h
  obtain rfl := wfcs_nil h
  obtain ⟨x0, rfl, i0⟩ := wfc_i64 h0
  obtain ⟨x1, rfl, i1⟩ := wfc_i64 h1
  obtain ⟨x2, rfl, i2⟩ := wfc_s h2
  exact ⟨⟨x0, x1, x2⟩, rfl, trivial⟩
theorem GLink.dec {cs : List AV} (h : wfcs [.l [.i .i64, .i .i64, .s] true, .i .i64] cs) : ∃ p : GLink, mkE true cs = p.av ∧ True := by
  obtain ⟨_, _, rfl, h0, h⟩ := wfcs_cons h
  obtain ⟨_, _, rfl, h1, h⟩ := wfcs_cons h
  obtain rfl := wfcs_nil h
  obtain ⟨x0, rfl, i0, j0⟩ := wfc_list GItem.av (fun _ => True) (fun cs h => GItem.dec h) h0
  obtain ⟨x1, rfl, i1⟩ := wfc_i64 h1
  exact ⟨⟨x0, x1⟩, rfl, trivial⟩
theorem GNet.dec {cs : List AV} (h : wfcs [.i .i64, .l [.l [.i .i64, .i .i64, .s] true, .i .i64] true] cs) : ∃ p : GNet, mkE true cs = p.av ∧ True := by
  obtain ⟨_, _, rfl, h0, h⟩ := wfcs_cons h
  obtain ⟨_, _, rfl, h1, h⟩ := wfcs_cons h
  obtain rfl := wfcs_nil h
  obtain ⟨x0, rfl, i0⟩ := wfc_i64 h0
  obtain ⟨x1, rfl, i1, j1⟩ := wfc_list GLink.av (fun _ => True) (fun cs h => GLink.dec h) h1
  exact ⟨⟨x0, x1⟩, rfl, trivial⟩
theorem GSend.dec {cs : List AV} (h : wfcs [.i .i64, .i .i64, .i .i64, .s] cs) : ∃ p : GSend, mkE true cs = p.av ∧ True := by
  obtain ⟨_, _, rfl, h0, h⟩ := wfcs_cons h
  obtain ⟨_, _, rfl, h1, h⟩ := wfcs_cons h
  obtain ⟨_, _, rfl, h2, h⟩ := wfcs_cons h
  obtain ⟨_, _, rfl, h3, h⟩ := wfcs_cons h
  obtain rfl := wfcs_nil h
  obtain ⟨x0, rfl, i0⟩ := wfc_i64 h0
  obtain ⟨x1, rfl, i1⟩ := wfc_i64 h1
  obtain ⟨x2, rfl, i2⟩ := wfc_i64 h2
  obtain ⟨x3, rfl, i3⟩ := wfc_s h3
  exact ⟨⟨x0, x1, x2, x3⟩, rfl, trivial⟩
theorem NetMoves_law (l : List AV) (h : ArgsOf [([.i .i64, .l [.l [.i .i64, .i .i64, .s] true, .i .i64] true], true), ([.i .i64, .i .i64, .i .i64, .s], true), ([.l [.i .i64] false], false)] l) : LM.call n_l32_NetMoves l [] = some (.bool true, []) := by
  obtain ⟨_, _, rfl, h0, h⟩ := args_cons h
  obtain ⟨_, _, rfl, h1, h⟩ := args_cons h
  obtain ⟨_, _, rfl, h2, h⟩ := args_cons h
  obtain rfl := args_nil h
  obtain ⟨y0, e0, p0⟩ := GNet.dec h0
  obtain ⟨y1, e1, p1⟩ := GSend.dec h1
  obtain ⟨y2, e2, p2, q2⟩ := wfc_list iav (fun _ => True) (fun cs h => by obtain ⟨n, e, hn⟩ := wfc_i64 (wfcs_one h); exact ⟨n, e, trivial⟩) (wfcs_one h2)
  rw [e0, e1, e2]
  obtain ⟨q, e, rfl⟩ := l32_NetMoves_sim y0 y1 y2 true (NetMoves_true y0 y1 y2)
  exact e
end Go.Proofs.Ytockahdfbagmgaa
set_option linter.unusedVariables false
set_option linter.unusedSimpArgs false
namespace Go.Proofs.Ytockahdfbagmgaa
open Go.Proofs.PF
def satV (n : Int) : Int := if n < 0 then 0 else if 65535 ≤ n then 65535 else n + 1
theorem sat_eq (n : Int) : num_Sat n 65535 = some (satV n) := by
  unfold num_Sat satV
  by_cases h1 : n < 0
  · rw [if_pos h1, if_pos h1]
  · rw [if_neg h1, if_neg h1, if_neg (by omega)]
    by_cases h2 : 65535 ≤ n
    · rw [if_pos h2, if_pos h2]
    · rw [if_neg h2, if_neg h2, wrI (by omega) (by omega)]
def comeV (x : GItem) : List GItem := if x.Wait ≤ 1 then [⟨satV x.Age, 0, x.Bytes⟩] else []
def restV (x : GItem) : List GItem := if x.Wait ≤ 1 then [] else [⟨satV x.Age, wr (x.Wait - 1), x.Bytes⟩]
def comes (q : List GItem) : List GItem := q.flatMap comeV
def rests (q : List GItem) : List GItem := q.flatMap restV
theorem comes_len (q : List GItem) : (comes q).length ≤ q.length := by
  induction q with
  | nil => simp [comes]
  | cons x q ih => simp only [comes, List.flatMap_cons, List.length_append, List.length_cons] at ih ⊢; have : (comeV x).length ≤ 1 := by unfold comeV; split <;> simp
                   omega
theorem rests_len (q : List GItem) : (rests q).length ≤ q.length := by
  induction q with
  | nil => simp [rests]
  | cons x q ih => simp only [rests, List.flatMap_cons, List.length_append, List.length_cons] at ih ⊢; have : (restV x).length ≤ 1 := by unfold restV; split <;> simp
                   omega
theorem qstep_loop (q : List GItem) (hq : q.length ≤ 1000000) : ∀ (j k : Nat) (r c : List GItem), k + j = q.length → r.length ≤ k → c.length ≤ k →
    loopO (fun s : Int × (List GItem) × (List GItem) => queue_Step_0_step q (q.length : Int) s.1 s.2.1 s.2.2) ((k : Int), r, c) = some (r ++ rests (q.drop k), c ++ comes (q.drop k))
  | 0, k, r, c, hk, h1, h2 => by
    have : k = q.length := by omega
    subst this
    rw [loopO_inr (r := (r, c))]
    · simp [rests, comes]
    · simp only [queue_Step_0_step]; rw [if_neg (by omega)]
  | j + 1, k, r, c, hk, h1, h2 => by
    have hlt : k < q.length := by omega
    have hg := List.getElem?_eq_getElem hlt
    rw [loopO_inl (t := (((k + 1 : Nat) : Int), r ++ restV q[k], c ++ comeV q[k])), qstep_loop q hq j (k + 1) _ _ (by omega) (by rw [List.length_append]; unfold restV; split <;> simp <;> omega) (by rw [List.length_append]; unfold comeV; split <;> simp <;> omega),
      List.drop_eq_getElem_cons hlt]
    · simp only [rests, comes, List.flatMap_cons, List.append_assoc]
    · simp only [queue_Step_0_step]
      rw [if_pos (by omega), idx_get hg, Option.bind_some, wrI (n := (k : Int) + 1) (by omega) (by omega)]
      unfold queue_older queue_Step_1 restV comeV
      rw [sat_eq, Option.bind_some]
      by_cases hw : q[k].Wait ≤ 1
      · rw [if_pos hw, Option.bind_some]
        simp only [if_true]
        rw [if_pos (by rw [lenMax_eq]; simp; omega), Option.bind_some, if_pos hw, if_pos hw, List.append_nil]
        rfl
      · rw [if_neg hw, Option.bind_some]
        simp only [Bool.false_eq_true, if_false]
        rw [if_pos (by rw [lenMax_eq]; simp; omega), Option.bind_some, if_neg hw, if_neg hw, List.append_nil]
        rfl
theorem qstep_eq (q : List GItem) (h : q.length ≤ 1000000) : queue_Step q = some (comes q, rests q) := by
  have e := qstep_loop q h q.length 0 [] [] (by omega) (by simp) (by simp)
  have e' : queue_Step_0 q (q.length : Int) 0 ([] : List GItem) ([] : List GItem) = some (rests q, comes q) := by
    unfold queue_Step_0
    simpa using e
  unfold queue_Step
  rw [e']; rfl
def stepL (l : GLink) : GLink := ⟨rests l.Queue, l.Lost⟩
theorem lstep_eq (l : GLink) (h : l.Queue.length ≤ 1000000) : link_Step l = some (comes l.Queue, stepL l) := by
  unfold link_Step link_open link_line_step
  rw [clone_eq _ (by omega), Option.bind_some, Option.bind_some]
  simp only
  rw [qstep_eq _ h, Option.bind_some, Option.bind_some]
  rfl
/-- Rows of frames, each with its right to grow. -/
def FR (F : List (Gr × List GFrame)) (X : List (List GFrame)) : Prop := F.map Prod.snd = X ∧ ∀ p ∈ F, Mg 3 p.1
def fr (a : Int) (x : GItem) : GFrame := ⟨a, x.Age, x.Bytes⟩
theorem fr_loop (a x6 x7 x12 : Int) (to len5 len6 : Nat) (c : List GItem) (r3 A0 : GLink) (t2 i2 : GNet) (x13 : List GLink_g) (n : Nat) (hn : to < n) (hc : c.length ≤ 3000) : ∀ (j k : Nat) (F : List (Gr × List GFrame)) (X : List (List GFrame)), k + j = c.length → FR F X → F.length = n → (∀ x ∈ X, x.length ≤ 1000000 + k) →
    ∃ F', loopO (fun s : Int × (List (Gr × List GFrame)) => net_Step_0_step n a (to : Int) len5 x6 x7 c (c.length : Int) r3 A0 x12 len6 t2 i2 x13 s.1 s.2) ((k : Int), F) = some F' ∧ FR F' (X.set to (X.getD to [] ++ (c.drop k).map (fr a))) ∧ F'.length = n
  | 0, k, F, X, hk, hF, hl, hb => by
    have : k = c.length := by omega
    subst this
    refine ⟨F, loopO_inr (by simp only [net_Step_0_step]; rw [if_neg (by omega)]), ?_, hl⟩
    rw [List.drop_length, List.map_nil, List.append_nil]
    have hX : X.length = n := by rw [← hF.1, List.length_map, hl]
    rw [List.getD_eq_getElem?_getD, List.getElem?_eq_getElem (by omega), Option.getD_some, List.set_getElem_self]
    exact hF
  | j + 1, k, F, X, hk, hF, hl, hb => by
    have hlt : k < c.length := by omega
    have hlt2 : to < F.length := by omega
    have hg := List.getElem?_eq_getElem hlt
    have hX : X.length = n := by rw [← hF.1, List.length_map, hl]
    have hto : F[to]? = some (F[to]'hlt2) := List.getElem?_eq_getElem hlt2
    have hm := hF.2 _ (List.getElem_mem hlt2)
    have hxe : X.getD to [] = (F[to]'hlt2).2 := by rw [List.getD_eq_getElem?_getD, ← hF.1, List.getElem?_map, hto]; rfl
    have hx2 := hb (F[to]'hlt2).2 (by rw [← hF.1]; exact List.mem_map.2 ⟨_, List.getElem_mem hlt2, rfl⟩)
    have hF1 : FR (F.set to (Gr.own 3, (F[to]'hlt2).2 ++ [fr a c[k]])) (X.set to (X.getD to [] ++ [fr a c[k]])) := by
      refine ⟨by rw [List.map_set, hF.1, hxe], fun p hp => ?_⟩
      rcases List.mem_or_eq_of_mem_set hp with e | e
      · exact hF.2 p e
      · rw [e]; exact Mg.own
    obtain ⟨F', e1, e2, e3⟩ := fr_loop a x6 x7 x12 to len5 len6 c r3 A0 t2 i2 x13 n hn hc j (k + 1) _ _ (by omega) hF1 (by rw [List.length_set]; exact hl) (fun x hx => by
      rcases List.mem_or_eq_of_mem_set hx with e | e
      · have := hb x e; omega
      · rw [e, hxe, List.length_append]; simp; omega)
    refine ⟨F', ?_, ?_, e3⟩
    · rw [loopO_inl (t := (((k + 1 : Nat) : Int), F.set to (Gr.own 3, (F[to]'hlt2).2 ++ [fr a c[k]]))), e1]
      simp only [net_Step_0_step]
      rw [if_pos (by omega), idx_get hg, Option.bind_some, if_pos (by omega), Int.toNat_natCast, hto, Option.bind_some, if_pos hm, if_pos (by rw [lenMax_eq]; simp; omega), if_pos (by omega),
        mod_some _ _ _ (by rw [List.length_set]; omega), Option.bind_some, List.set_set, wrI (by omega) (by omega)]
      rfl
    · rw [List.set_set, List.getD_eq_getElem?_getD, List.getElem?_set, if_pos rfl, if_pos (by omega)] at e2
      rw [List.drop_eq_getElem_cons hlt, List.map_cons]
      simpa [List.append_assoc] using e2
/-- What comes to whom from the first links. -/
def Xs (n : Nat) (L : List GLink) (m : Nat) : List (List GFrame) := (List.range n).map fun j => (List.range m).flatMap fun p => if p % n = j then (comes (L.getD p ⟨[], 0⟩).Queue).map (fr ((p / n : Nat) : Int)) else []
theorem Xs_len (n : Nat) (L : List GLink) (m : Nat) : (Xs n L m).length = n := by simp [Xs]
theorem Xs_succ (n : Nat) (L : List GLink) (m : Nat) (hn : 0 < n) : Xs n L (m + 1) = (Xs n L m).set (m % n) ((Xs n L m).getD (m % n) [] ++ (comes (L.getD m ⟨[], 0⟩).Queue).map (fr ((m / n : Nat) : Int))) := by
  have hm := Nat.mod_lt m hn
  apply List.ext_getElem
  · rw [List.length_set, Xs_len, Xs_len]
  · intro i h1 h2
    rw [List.getElem_set]
    rw [Xs_len] at h1
    by_cases e : m % n = i
    · rw [if_pos e]
      subst e
      rw [List.getD_eq_getElem?_getD, List.getElem?_eq_getElem (by rw [Xs_len]; exact hm), Option.getD_some]
      simp only [Xs, List.getElem_map, List.getElem_range, List.range_succ, List.flatMap_append, List.flatMap_cons, List.flatMap_nil, List.append_nil, if_true]
    · rw [if_neg e]
      simp only [Xs, List.getElem_map, List.getElem_range, List.range_succ, List.flatMap_append, List.flatMap_cons, List.flatMap_nil, List.append_nil, if_neg e]
theorem Xs_bd (n : Nat) (L : List GLink) (hL : ∀ l ∈ L, l.Queue.length < 3000) (m : Nat) : ∀ x ∈ Xs n L m, x.length ≤ m * 3000 := by
  intro x hx
  simp only [Xs, List.mem_map] at hx
  obtain ⟨j, -, rfl⟩ := hx
  induction m with
  | zero => simp
  | succ m ih =>
    rw [List.range_succ, List.flatMap_append, List.length_append, Nat.succ_mul]
    have : ((List.flatMap (fun p => if p % n = j then (comes (L.getD p ⟨[], 0⟩).Queue).map (fr ((p / n : Nat) : Int)) else []) [m])).length ≤ 3000 := by
      simp only [List.flatMap_cons, List.flatMap_nil, List.append_nil]
      split
      · rw [List.length_map]
        have := comes_len (L.getD m ⟨[], 0⟩).Queue
        have h2 : (L.getD m ⟨[], 0⟩).Queue.length < 3000 := by
          rw [List.getD_eq_getElem?_getD]
          cases hg : L[m]? with
          | none => simp
          | some z => exact hL z (List.mem_of_getElem? hg)
        omega
      · simp
    omega
theorem step_loop (t x y : GNet) (n : Nat) (hN : t.N = n) (hs : Sound t) (hf : Fw t) (len : Nat) (hlen : len = t.Links.length) : ∀ (j k : Nat) (F : List (Gr × List GFrame)) (pre post : List GLink_g), k + j = len → pre.length = k → post.length = j →
    pre.map GLink_g.pl = (t.Links.take k).map stepL → post.map GLink_g.pl = t.Links.drop k → FR F (Xs n t.Links k) → F.length = n →
    ∃ F' G, loopO (fun s : Int × (List (Gr × List GFrame)) × (List GLink_g) => net_Step_1_step n len (len : Int) (n : Int) len x y s.1 s.2.1 s.2.2) ((k : Int), F, pre ++ post) = some (F', G) ∧ FR F' (Xs n t.Links len) ∧ F'.length = n ∧ G.map GLink_g.pl = t.Links.map stepL ∧ G.length = len
  | 0, k, F, pre, post, hk, h1, h2, h3, h4, h5, h6 => by
    have hk : k = len := by omega
    have hp : post = [] := List.eq_nil_of_length_eq_zero h2
    subst hp
    refine ⟨F, pre, ?_, by rw [← hk]; exact h5, h6, by rw [h3, hk, hlen, List.take_length], by omega⟩
    rw [List.append_nil]
    exact loopO_inr (by simp only [net_Step_1_step]; rw [if_neg (by omega)])
  | j + 1, k, F, pre, post, hk, h1, h2, h3, h4, h5, h6 => by
    cases post with
    | nil => simp at h2
    | cons z post =>
      have hn0 : 0 < n := by
        rcases Nat.eq_zero_or_pos n with e | e
        · subst e
          have := hs.2.2
          rw [hN] at this
          omega
        · exact e
      have h169 := sq_in t.N hs.1 hs.2.1
      have hs2 := hs.2.2
      have hlt : k < t.Links.length := by omega
      rw [List.drop_eq_getElem_cons hlt, List.map_cons] at h4
      injection h4 with hz hpost
      have hq := hf.queue _ (List.getElem_mem hlt)
      have hcl := comes_len t.Links[k].Queue
      have hgd : t.Links.getD k ⟨[], 0⟩ = t.Links[k] := by rw [List.getD_eq_getElem?_getD, List.getElem?_eq_getElem hlt]; rfl
      have hm := Nat.mod_lt k hn0
      have ef := fr_loop ((k / n : Nat) : Int) (len : Int) (k : Int) (n : Int) (k % n) len len (comes t.Links[k].Queue) (stepL t.Links[k]) (GLink.mk z.Queue.2 z.Lost) x y (pre ++ (GLink_g.mk (Gr.no, (stepL t.Links[k]).Queue) (stepL t.Links[k]).Lost) :: post) n hm (by omega)
        (comes t.Links[k].Queue).length 0 F (Xs n t.Links k) (by omega) h5 h6 (fun x hx => by
          have := Xs_bd n t.Links hf.queue k x hx
          have h3 : k * 3000 ≤ 169 * 3000 := Nat.mul_le_mul_right _ (by omega)
          omega)
      obtain ⟨F1, f1, f2, f3⟩ := ef
      rw [List.drop_zero] at f2
      have f2' : FR F1 (Xs n t.Links (k + 1)) := by rw [Xs_succ n t.Links k hn0, hgd]; exact f2
      obtain ⟨F', G, g1, g2, g3, g4, g5⟩ := step_loop t x y n hN hs hf len hlen j (k + 1) F1 (pre ++ [GLink_g.mk (Gr.no, (stepL t.Links[k]).Queue) (stepL t.Links[k]).Lost]) post (by omega) (by simp; omega) (by simpa using h2)
        (by rw [List.map_append, h3, List.take_add_one, List.getElem?_eq_getElem hlt, List.map_append]; rfl) hpost f2' f3
      refine ⟨F', G, ?_, g2, g3, g4, g5⟩
      have f1' : net_Step_0 n ((k / n : Nat) : Int) ((k % n : Nat) : Int) len (len : Int) (k : Int) (comes t.Links[k].Queue) ((comes t.Links[k].Queue).length : Int) (stepL t.Links[k]) (GLink.mk z.Queue.2 z.Lost) (n : Int) len x y (pre ++ (GLink_g.mk (Gr.no, (stepL t.Links[k]).Queue) (stepL t.Links[k]).Lost) :: post) 0 F = some F1 := f1
      rw [loopO_inl (t := (((k + 1 : Nat) : Int), F1, pre ++ (GLink_g.mk (Gr.no, (stepL t.Links[k]).Queue) (stepL t.Links[k]).Lost) :: post))]
      · rw [List.append_assoc] at g1
        exact g1
      · simp only [net_Step_1_step]
        have hge : (pre ++ z :: post)[k]? = some z := by rw [List.getElem?_append_right (by omega), h1, Nat.sub_self]; rfl
        rw [if_pos (by omega), if_pos (by omega), Int.toNat_natCast, hge, Option.bind_some, show (GLink.mk z.Queue.2 z.Lost) = t.Links[k] from hz, lstep_eq _ (by omega), Option.bind_some, if_pos (by omega), mod_mid _ _ _ _ _ h1, Option.bind_some,
          if_neg (by omega), Int.tdiv_eq_ediv_of_nonneg (by omega), Int.tmod_eq_emod_of_nonneg (by omega), ← Int.natCast_ediv, ← Int.natCast_emod, wrI (n := ((k / n : Nat) : Int)) (Int.le_trans (by decide) (Int.natCast_nonneg _)) (Int.le_trans (Int.ofNat_le.2 (Nat.div_le_self k n)) (by omega))]
        rw [show (GLink.mk z.Queue.2 z.Lost) = t.Links[k] from hz] at f1'
        rw [f1', Option.bind_some, wrI (by omega) (by omega)]
        rfl
def stepT (t : GNet) : GNet := ⟨t.N, t.Links.map stepL⟩
theorem stepT_sound (t : GNet) (h : Sound t) : Sound (stepT t) := ⟨h.1, h.2.1, by have := h.2.2; simp only [stepT, List.length_map]; exact this⟩
theorem stepT_fw (t : GNet) (h : Fw t) : Fw (stepT t) := by
  refine ⟨by simp only [stepT, List.length_map]; exact h.links, fun l hl => ?_⟩
  obtain ⟨z, hz, rfl⟩ := List.mem_map.1 hl
  have := h.queue z hz
  have := rests_len z.Queue
  simp only [stepL]; omega
theorem Step_eq (t : GNet) (h : Fw t) : net_Step t = some (Xs (openV t).N.toNat (openV t).Links (openV t).Links.length, stepT (openV t)) := by
  obtain ⟨L, e1, e2⟩ := open_eq t h
  have hs := open_sound t
  have hf := open_fw t h
  have h13 := hs.2.1
  have hlen : L.length = (openV t).Links.length := by rw [← e2, List.length_map]
  have hN : (openV t).N = ((openV t).N.toNat : Int) := by have := hs.1; omega
  obtain ⟨F', G, g1, g2, g3, g4, g5⟩ := step_loop (openV t) (GNet.mk 0 ([] : List GLink)) t (openV t).N.toNat hN hs hf L.length hlen L.length 0 (List.replicate (openV t).N.toNat (Gr.full, ([] : List GFrame))) [] L (by omega) rfl rfl rfl (by simpa using e2)
    ⟨by simp [Xs, List.map_replicate]; exact (List.map_const' ..).symm ▸ (by simp), fun p hp => by rw [List.eq_of_mem_replicate hp]; exact Mg.full⟩ (by simp)
  have g1' : net_Step_1 (openV t).N.toNat L.length ((L.length : Nat) : Int) ((openV t).N.toNat : Int) L.length (GNet.mk 0 ([] : List GLink)) t 0 (List.replicate (openV t).N.toNat (Gr.full, ([] : List GFrame))) L = some (F', G) := g1
  unfold net_Step
  rw [e1, Option.bind_some]
  simp only
  rw [if_pos ⟨by have := hs.1; omega, by rw [lenMax_eq]; omega⟩]
  rw [← hN] at g1'
  rw [g1', Option.bind_some, sub_all _ _ g3.symm, Option.bind_some, sub_all _ _ g5.symm, Option.bind_some, g4, g2.1, hlen]
  rfl
end Go.Proofs.Ytockahdfbagmgaa
set_option linter.unusedVariables false
set_option linter.unusedSimpArgs false
namespace Go.Proofs.Ytockahdfbagmgaa
open Go.Proofs.PF
theorem sat_eq' (n : Int) : r01_Sat n 65535 = some (satV n) := sat_eq n
theorem qstep_loop' (q : List GItem) (hq : q.length ≤ 1000000) : ∀ (j k : Nat) (c r : List GItem), k + j = q.length → r.length ≤ k → c.length ≤ k →
    loopO (fun s : (List GItem) × (List GItem) × Int => r08_Step_0_step q s.1 s.2.1 s.2.2) (c, r, (k : Int)) = some (c ++ comes (q.drop k), r ++ rests (q.drop k))
  | 0, k, c, r, hk, h1, h2 => by
    have : k = q.length := by omega
    subst this
    rw [loopO_inr (r := (c, r))]
    · simp [rests, comes]
    · simp only [r08_Step_0_step]; rw [if_neg (by omega)]
  | j + 1, k, c, r, hk, h1, h2 => by
    have hlt : k < q.length := by omega
    have hg := List.getElem?_eq_getElem hlt
    rw [loopO_inl (t := (c ++ comeV q[k], r ++ restV q[k], ((k + 1 : Nat) : Int))), qstep_loop' q hq j (k + 1) _ _ (by omega) (by rw [List.length_append]; unfold restV; split <;> simp <;> omega) (by rw [List.length_append]; unfold comeV; split <;> simp <;> omega),
      List.drop_eq_getElem_cons hlt]
    · simp only [rests, comes, List.flatMap_cons, List.append_assoc]
    · simp only [r08_Step_0_step]
      rw [if_pos (by omega), idx_get hg, Option.bind_some, wrI (n := (k : Int) + 1) (by omega) (by omega), sat_eq', Option.bind_some]
      unfold restV comeV
      by_cases hw : q[k].Wait ≤ 1
      · rw [if_pos hw, if_pos (by rw [lenMax_eq]; simp; omega), if_pos hw, if_pos hw, List.append_nil]
        rfl
      · rw [if_neg hw, if_pos (by rw [lenMax_eq]; simp; omega), if_neg hw, if_neg hw, List.append_nil]
        rfl
theorem lstep_eq' (l : GLink) (h : l.Queue.length ≤ 1000000) : r31_Step l = some (comes l.Queue, stepL l) := by
  have e := qstep_loop' l.Queue h l.Queue.length 0 [] [] (by omega) (by simp) (by simp)
  have e' : r08_Step_0 l.Queue ([] : List GItem) ([] : List GItem) 0 = some (comes l.Queue, rests l.Queue) := by
    unfold r08_Step_0
    simpa using e
  unfold r31_Step r08_Step
  rw [e', Option.bind_some, Option.bind_some]
  rfl
theorem fr_loop' (a : Int) (to : Nat) (c : List GItem) (y0 : GLink) (A3 x9 t4 i4 : GNet) (n : Nat) (hn : to < n) (hc : c.length ≤ 3000) : ∀ (j k : Nat) (F : List (Gr × List GFrame)) (X : List (List GFrame)), k + j = c.length → FR F X → F.length = n → (∀ x ∈ X, x.length ≤ 1000000 + k) →
    ∃ F', loopO (fun s : Int × (List (Gr × List GFrame)) => r32_Step_1_step a (to : Int) c y0 A3 x9 t4 i4 s.1 s.2) ((k : Int), F) = some F' ∧ FR F' (X.set to (X.getD to [] ++ (c.drop k).map (fr a))) ∧ F'.length = n
  | 0, k, F, X, hk, hF, hl, hb => by
    have : k = c.length := by omega
    subst this
    refine ⟨F, loopO_inr (by simp only [r32_Step_1_step]; rw [if_neg (by omega)]), ?_, hl⟩
    rw [List.drop_length, List.map_nil, List.append_nil]
    have hX : X.length = n := by rw [← hF.1, List.length_map, hl]
    rw [List.getD_eq_getElem?_getD, List.getElem?_eq_getElem (by omega), Option.getD_some, List.set_getElem_self]
    exact hF
  | j + 1, k, F, X, hk, hF, hl, hb => by
    have hlt : k < c.length := by omega
    have hlt2 : to < F.length := by omega
    have hg := List.getElem?_eq_getElem hlt
    have hX : X.length = n := by rw [← hF.1, List.length_map, hl]
    have hto : F[to]? = some (F[to]'hlt2) := List.getElem?_eq_getElem hlt2
    have hm := hF.2 _ (List.getElem_mem hlt2)
    have hxe : X.getD to [] = (F[to]'hlt2).2 := by rw [List.getD_eq_getElem?_getD, ← hF.1, List.getElem?_map, hto]; rfl
    have hx2 := hb (F[to]'hlt2).2 (by rw [← hF.1]; exact List.mem_map.2 ⟨_, List.getElem_mem hlt2, rfl⟩)
    have hF1 : FR (F.set to (Gr.own 3, (F[to]'hlt2).2 ++ [fr a c[k]])) (X.set to (X.getD to [] ++ [fr a c[k]])) := by
      refine ⟨by rw [List.map_set, hF.1, hxe], fun p hp => ?_⟩
      rcases List.mem_or_eq_of_mem_set hp with e | e
      · exact hF.2 p e
      · rw [e]; exact Mg.own
    obtain ⟨F', e1, e2, e3⟩ := fr_loop' a to c y0 A3 x9 t4 i4 n hn hc j (k + 1) _ _ (by omega) hF1 (by rw [List.length_set]; exact hl) (fun x hx => by
      rcases List.mem_or_eq_of_mem_set hx with e | e
      · have := hb x e; omega
      · rw [e, hxe, List.length_append]; simp; omega)
    refine ⟨F', ?_, ?_, e3⟩
    · rw [loopO_inl (t := (((k + 1 : Nat) : Int), F.set to (Gr.own 3, (F[to]'hlt2).2 ++ [fr a c[k]]))), e1]
      simp only [r32_Step_1_step]
      rw [if_pos (by omega), if_pos (by omega), Int.toNat_natCast, hto, Option.bind_some, idx_get hg, Option.bind_some, Option.bind_some, if_pos hm, if_pos (by rw [lenMax_eq]; simp; omega), if_pos (by omega),
        mod_some _ _ _ (by rw [List.length_set]; omega), Option.bind_some, List.set_set, wrI (by omega) (by omega)]
      rfl
    · rw [List.set_set, List.getD_eq_getElem?_getD, List.getElem?_set, if_pos rfl, if_pos (by omega)] at e2
      rw [List.drop_eq_getElem_cons hlt, List.map_cons]
      simpa [List.append_assoc] using e2
theorem row_loop (t x y : GNet) (n : Nat) (hN : t.N = n) (hs : Sound t) (hf : Fw t) (i : Nat) (hi : i < n) : ∀ (m j : Nat) (F : List (Gr × List GFrame)), j + m = n → FR F (Xs n t.Links (i * n + j)) → F.length = n →
    ∃ F', loopO (fun s : Int × GNet × (List (Gr × List GFrame)) => r32_Step_2_step (i : Int) t x y s.1 s.2.1 s.2.2) ((j : Int), GNet.mk n ((t.Links.take (i * n + j)).map stepL), F) = some (GNet.mk n ((t.Links.take (i * n + n)).map stepL), F') ∧ FR F' (Xs n t.Links (i * n + n)) ∧ F'.length = n
  | 0, j, F, hj, h5, h6 => by
    have : j = n := by omega
    subst this
    exact ⟨F, loopO_inr (by simp only [r32_Step_2_step]; rw [if_neg (by omega)]), h5, h6⟩
  | m + 1, j, F, hj, h5, h6 => by
    have hjn : j < n := by omega
    have h13 : n ≤ 13 := by have := hs.2.1; omega
    have hnn : t.Links.length = n * n := by
      have h := hs.2.2
      rw [hN] at h
      have : ((n * n : Nat) : Int) = (n : Int) * (n : Int) := Int.natCast_mul n n
      omega
    have hlt : i * n + j < t.Links.length := by
      rw [hnn]
      have := Nat.mul_le_mul_right n (show i + 1 ≤ n by omega)
      rw [Nat.succ_mul] at this
      omega
    have h169 : t.Links.length ≤ 169 := by rw [hnn]; have := Nat.mul_le_mul h13 h13; omega
    have hg := List.getElem?_eq_getElem hlt
    have hq := hf.queue _ (List.getElem_mem hlt)
    have hcl := comes_len t.Links[i * n + j].Queue
    have hd : (i * n + j) / n = i := by rw [Nat.mul_comm, Nat.mul_add_div (by omega), Nat.div_eq_of_lt hjn]; rfl
    have hmo : (i * n + j) % n = j := by rw [Nat.mul_comm, Nat.mul_add_mod, Nat.mod_eq_of_lt hjn]
    have hgd : t.Links.getD (i * n + j) ⟨[], 0⟩ = t.Links[i * n + j] := by rw [List.getD_eq_getElem?_getD, hg]; rfl
    obtain ⟨F1, f1, f2, f3⟩ := fr_loop' (i : Int) j (comes t.Links[i * n + j].Queue) (stepL t.Links[i * n + j]) (GNet.mk n ((t.Links.take (i * n + j)).map stepL)) t x y n hjn (by omega) (comes t.Links[i * n + j].Queue).length 0 F _ (by omega) h5 h6 (fun z hz => by
      have := Xs_bd n t.Links hf.queue _ z hz
      have h3 : (i * n + j) * 3000 ≤ 169 * 3000 := Nat.mul_le_mul_right _ (by omega)
      omega)
    have f1' : r32_Step_1 (i : Int) (j : Int) (comes t.Links[i * n + j].Queue) (stepL t.Links[i * n + j]) (GNet.mk n ((t.Links.take (i * n + j)).map stepL)) t x y 0 F = some F1 := f1
    have f2' : FR F1 (Xs n t.Links (i * n + (j + 1))) := by
      rw [← Nat.add_assoc, Xs_succ n t.Links (i * n + j) (by omega), hgd, hmo, hd]
      rw [List.drop_zero] at f2
      exact f2
    obtain ⟨F', g1, g2, g3⟩ := row_loop t x y n hN hs hf i hi m (j + 1) F1 (by omega) f2' f3
    refine ⟨F', ?_, g2, g3⟩
    rw [loopO_inl (t := (((j + 1 : Nat) : Int), GNet.mk n ((t.Links.take (i * n + (j + 1))).map stepL), F1)), g1]
    have hin : 0 ≤ (i : Int) * (n : Int) ∧ (i : Int) * (n : Int) + (j : Int) < 169 ∧ (i : Int) * (n : Int) + (j : Int) = ((i * n + j : Nat) : Int) := by
      have : ((i * n : Nat) : Int) = (i : Int) * (n : Int) := Int.natCast_mul i n
      omega
    simp only [r32_Step_2_step]
    rw [if_pos (by omega), hN, wrI (n := (i : Int) * (n : Int)) (by omega) (by omega), wrI (n := (i : Int) * (n : Int) + (j : Int)) (by omega) (by omega), hin.2.2, idx_get hg, Option.bind_some, lstep_eq' _ (by omega), Option.bind_some, f1', Option.bind_some,
      if_pos (by rw [lenMax_eq, List.length_map, List.length_take]; simp; omega), wrI (n := (j : Int) + 1) (by omega) (by omega), ← Nat.add_assoc, List.take_add_one, hg, List.map_append]
    rfl
theorem rows_loop (t x y : GNet) (n : Nat) (hN : t.N = n) (hs : Sound t) (hf : Fw t) : ∀ (m i : Nat) (F : List (Gr × List GFrame)), i + m = n → FR F (Xs n t.Links (i * n)) → F.length = n →
    ∃ F', loopO (fun s : Int × GNet × (List (Gr × List GFrame)) => r32_Step_3_step t x y s.1 s.2.1 s.2.2) ((i : Int), GNet.mk n ((t.Links.take (i * n)).map stepL), F) = some (GNet.mk n ((t.Links.take (n * n)).map stepL), F') ∧ FR F' (Xs n t.Links (n * n)) ∧ F'.length = n
  | 0, i, F, hi, h5, h6 => by
    have : i = n := by omega
    subst this
    exact ⟨F, loopO_inr (by simp only [r32_Step_3_step]; rw [if_neg (by omega)]), h5, h6⟩
  | m + 1, i, F, hi, h5, h6 => by
    have h13 : n ≤ 13 := by have := hs.2.1; omega
    obtain ⟨F1, f1, f2, f3⟩ := row_loop t x y n hN hs hf i (by omega) n 0 F (by omega) h5 h6
    have f1' : r32_Step_2 (i : Int) t x y 0 (GNet.mk n ((t.Links.take (i * n)).map stepL)) F = some (GNet.mk n ((t.Links.take (i * n + n)).map stepL), F1) := f1
    rw [← Nat.succ_mul] at f1' f2
    obtain ⟨F', g1, g2, g3⟩ := rows_loop t x y n hN hs hf m (i + 1) F1 (by omega) f2 f3
    refine ⟨F', ?_, g2, g3⟩
    rw [loopO_inl (t := (((i + 1 : Nat) : Int), GNet.mk n ((t.Links.take ((i + 1) * n)).map stepL), F1)), g1]
    simp only [r32_Step_3_step]
    rw [if_pos (by omega), f1', Option.bind_some, wrI (by omega) (by omega)]
    rfl
theorem Xs_zero (n : Nat) (L : List GLink) : Xs n L 0 = List.replicate n [] := by
  simp only [Xs, List.range_zero, List.flatMap_nil]
  exact (List.map_const' ..).trans (by rw [List.length_range])
theorem Step_eq' (t : GNet) (h : Fw t) : r32_Step t = some (Xs (openV t).N.toNat (openV t).Links (openV t).Links.length, stepT (openV t)) := by
  have hs := open_sound t
  have hf := open_fw t h
  unfold r32_Step
  rw [well_eq, Option.bind_some]
  generalize openV t = u at hs hf
  obtain ⟨n, hn⟩ := Int.eq_ofNat_of_zero_le hs.1
  have hn : u.N = (n : Int) := hn
  have h13 : n ≤ 13 := by have := hs.2.1; omega
  have hnn : u.Links.length = n * n := by
    have h := hs.2.2
    rw [hn] at h
    have : ((n * n : Nat) : Int) = (n : Int) * (n : Int) := Int.natCast_mul n n
    omega
  have e0 : r32_Step_0 u (GNet.mk 0 ([] : List GLink)) t 0 ([] : List (Gr × List GFrame)) = some (List.replicate n (Gr.full, ([] : List GFrame))) := by
    unfold r32_Step_0
    refine loopO_for (inv := fun k => ((k : Int), List.replicate k (Gr.full, ([] : List GFrame)))) n (fun k hk => ?_) ?_
    · simp only [r32_Step_0_step]
      rw [if_pos (by omega), if_pos (by rw [lenMax_eq, List.length_replicate]; omega), if_pos (List.all_eq_true.2 fun p hp => by rw [List.eq_of_mem_replicate hp]; rfl), wrI (by omega) (by omega), List.replicate_succ']
      rfl
    · simp only [r32_Step_0_step]; rw [if_neg (by omega)]
  obtain ⟨F', g1, g2, g3⟩ := rows_loop u (GNet.mk 0 ([] : List GLink)) t n hn hs hf n 0 (List.replicate n (Gr.full, ([] : List GFrame))) (by omega)
    ⟨by rw [Nat.zero_mul, Xs_zero, List.map_replicate], fun p hp => by rw [List.eq_of_mem_replicate hp]; exact Mg.full⟩ (by simp)
  have g1' : r32_Step_3 u (GNet.mk 0 ([] : List GLink)) t 0 (GNet.mk u.N ([] : List GLink)) (List.replicate n (Gr.full, ([] : List GFrame))) = some (GNet.mk n ((u.Links.take (n * n)).map stepL), F') := by
    rw [hn]
    unfold r32_Step_3
    rw [Nat.zero_mul, List.take_zero] at g1
    exact g1
  rw [e0, Option.bind_some, g1', Option.bind_some]
  simp only
  rw [sub_all _ _ rfl, Option.bind_some, g2.1, hn, Int.toNat_natCast, hnn, ← hnn, List.take_length, stepT, hn]
theorem frames_same (a : List GFrame) (h : a.length ≤ 1000000) : r32_Frames a a = some true := by
  have e : r32_Frames_0 a a 0 = some (.inr ()) := by
    unfold r32_Frames_0
    refine loopO_for (inv := fun k => (k : Int)) a.length (fun k hk => ?_) ?_
    · have hg := List.getElem?_eq_getElem hk
      simp only [r32_Frames_0_step]
      rw [if_pos (by omega), idx_get hg, Option.bind_some, Option.bind_some, if_neg (by simp), wrI (by omega) (by omega)]
      rfl
    · simp only [r32_Frames_0_step]; rw [if_neg (by omega)]
  unfold r32_Frames
  rw [if_neg (by simp), e]; rfl
theorem all_same (a : List (List GFrame)) (hl : a.length ≤ 1000) (h : ∀ x ∈ a, x.length ≤ 1000000) : r32_All a a = some true := by
  have e : r32_All_0 a a 0 = some (.inr ()) := by
    unfold r32_All_0
    refine loopO_for (inv := fun k => (k : Int)) a.length (fun k hk => ?_) ?_
    · have hg := List.getElem?_eq_getElem hk
      simp only [r32_All_0_step]
      rw [if_pos (by omega), idx_get hg, Option.bind_some, Option.bind_some, frames_same _ (h _ (List.getElem_mem hk)), Option.bind_some, if_neg (by decide), wrI (by omega) (by omega)]
      rfl
    · simp only [r32_All_0_step]; rw [if_neg (by omega)]
  unfold r32_All
  rw [if_neg (by simp), e]; rfl
theorem lost_loop (L : List GLink) (hl : L.length ≤ 200) (t : GNet) : ∀ (j k : Nat) (s : Int), k + j = L.length → ∃ r, loopO (fun z : Int × Int => net_Lost_0_step L (L.length : Int) t z.1 z.2) (s, (k : Int)) = some r
  | 0, k, s, hk => ⟨s, loopO_inr (by simp only [net_Lost_0_step]; rw [if_neg (by omega)])⟩
  | j + 1, k, s, hk => by
    have hg := List.getElem?_eq_getElem (show k < L.length by omega)
    obtain ⟨r, e⟩ := lost_loop L hl t j (k + 1) (wr (s + clampV (L[k]'(by omega)).Lost 0 65535)) (by omega)
    refine ⟨r, ?_⟩
    rw [loopO_inl (t := (wr (s + clampV (L[k]'(by omega)).Lost 0 65535), ((k + 1 : Nat) : Int))), e]
    simp only [net_Lost_0_step]
    rw [if_pos (by omega), idx_get hg, Option.bind_some, clamp_eq, Option.bind_some, wrI (n := (k : Int) + 1) (by omega) (by omega)]
    rfl
theorem Lost_eq (t : GNet) (h : Fw t) : ∃ r, net_Lost t = some r ∧ r32_Lost t = some r := by
  obtain ⟨L, e1, e2⟩ := open_eq t h
  have hf := open_fw t h
  obtain ⟨r, e3⟩ := lost_loop (openV t).Links hf.links t (openV t).Links.length 0 0 (by omega)
  refine ⟨r, ?_, ?_⟩
  · unfold net_Lost
    rw [e1, Option.bind_some]
    simp only
    rw [sub_all _ _ rfl, Option.bind_some, e2]
    have e3' : net_Lost_0 (openV t).Links ((openV t).Links.length : Int) t 0 0 = some r := e3
    rw [e3']; rfl
  · unfold r32_Lost
    rw [well_eq, Option.bind_some]
    have e : (fun s : Int × Int => r32_Lost_0_step (openV t) t s.1 s.2) = fun z : Int × Int => net_Lost_0_step (openV t).Links ((openV t).Links.length : Int) t z.1 z.2 := by
      funext s
      simp only [r32_Lost_0_step, net_Lost_0_step, clamp_eq, clamp_eq']
    have e3' : r32_Lost_0 (openV t) t 0 0 = some r := by
      unfold r32_Lost_0
      rw [e]; exact e3
    rw [e3']; rfl
theorem NetSteps_true (t : GNet) : l32_NetSteps t = some true := by
  unfold l32_NetSteps
  have hk : l32_known = some true := rfl
  obtain ⟨b, hb, hf⟩ := few_eq t
  rw [hb, Option.bind_some, hk]
  cases b with
  | false => rfl
  | true =>
    have hf := hf rfl
    have hs := open_sound t
    have hfo := open_fw t hf
    have h13 := hs.2.1
    have hll := hfo.links
    obtain ⟨r, l1, l2⟩ := Lost_eq t hf
    rw [if_neg (by decide), Step_eq t hf, Option.bind_some, Step_eq' t hf, Option.bind_some, all_same _ (by rw [Xs_len]; omega) (fun x hx => by
        have := Xs_bd _ _ hfo.queue _ x hx
        have h3 : (openV t).Links.length * 3000 ≤ 200 * 3000 := Nat.mul_le_mul_right _ hll
        omega), Option.bind_some, if_pos rfl, nsame _ (stepT_fw _ hfo), Option.bind_some, if_pos rfl, l1, Option.bind_some, l2, Option.bind_some, if_pos rfl]
    rfl
theorem NetSteps_law (l : List AV) (h : ArgsOf [([.i .i64, .l [.l [.i .i64, .i .i64, .s] true, .i .i64] true], true)] l) : LM.call n_l32_NetSteps l [] = some (.bool true, []) := by
  obtain ⟨_, _, rfl, h0, h⟩ := args_cons h
  obtain rfl := args_nil h
  obtain ⟨y0, e0, p0⟩ := GNet.dec h0
  rw [e0]
  obtain ⟨q, e, rfl⟩ := l32_NetSteps_sim y0 true (NetSteps_true y0)
  exact e
end Go.Proofs.Ytockahdfbagmgaa
