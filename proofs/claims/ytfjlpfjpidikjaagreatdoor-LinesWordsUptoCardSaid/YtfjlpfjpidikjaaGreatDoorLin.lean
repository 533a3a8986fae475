/-
  Plain laws: what the functions compute, and that the laws say true. Conditions: none beyond each theorem's own.
-/
import Derived.Test.YtfjlpfjpidikjaaGreatDoorPFe
import Derived.Test.YtfjlpfjpidikjaaGreatDoorDa
import Derived.Lib.ItoaMem
namespace Go.Proofs.YtfjlpfjpidikjaaGreatDoor
open Go.Proofs.PF
end Go.Proofs.YtfjlpfjpidikjaaGreatDoor
set_option linter.unusedVariables false
set_option linter.unusedSimpArgs false
namespace Go.Proofs.PF
open Classical in
/-- A loop that ends with false at the first place that fails. -/
theorem loopO_all {f : Int → Option (Int ⊕ (Bool ⊕ Unit))} (n : Nat) (p : Nat → Prop)
    (h : ∀ k : Nat, k < n → f (k : Int) = some (if p k then .inl ((k : Int) + 1) else .inr (.inl false))) (he : f (n : Int) = some (.inr (.inr ()))) :
    loopO f 0 = some (if ∀ k, k < n → p k then .inr () else .inl false) := by
  have : ∀ m k : Nat, k + m = n → loopO f (k : Int) = some (if ∀ j, k ≤ j → j < n → p j then .inr () else .inl false) := by
    intro m
    induction m with
    | zero =>
      intro k hk
      have : k = n := by omega
      subst this
      rw [loopO_inr he, if_pos (fun j h1 h2 => absurd h1 (by omega))]
    | succ m ih =>
      intro k hk
      have h1 := h k (by omega)
      by_cases hp : p k
      · rw [if_pos hp] at h1
        rw [loopO_inl h1]
        have := ih (k + 1) (by omega)
        rw [show ((k : Int) + 1) = ((k + 1 : Nat) : Int) by omega, this]
        by_cases ha : ∀ j, k + 1 ≤ j → j < n → p j
        · rw [if_pos ha, if_pos]
          intro j h1 h2
          by_cases e : j = k
          · subst e; exact hp
          · exact ha j (by omega) h2
        · rw [if_neg ha, if_neg]
          intro hh
          exact ha fun j h1 h2 => hh j (by omega) h2
      · rw [if_neg hp] at h1
        rw [loopO_inr h1, if_neg]
        intro hh
        exact hp (hh k (Nat.le_refl _) (by omega))
  have := this n 0 (by omega)
  simpa using this
open Classical in
/-- A loop that ends with a value at the first place that holds. -/
theorem loopO_any {β : Type} {f : Int → Option (Int ⊕ (β ⊕ Unit))} (n : Nat) (p : Nat → Prop) (b : β)
    (h : ∀ k : Nat, k < n → f (k : Int) = some (if p k then .inr (.inl b) else .inl ((k : Int) + 1))) (he : f (n : Int) = some (.inr (.inr ()))) :
    loopO f 0 = some (if ∃ k, k < n ∧ p k then .inl b else .inr ()) := by
  have : ∀ m k : Nat, k + m = n → loopO f (k : Int) = some (if ∃ j, k ≤ j ∧ j < n ∧ p j then .inl b else .inr ()) := by
    intro m
    induction m with
    | zero =>
      intro k hk
      have : k = n := by omega
      subst this
      rw [loopO_inr he, if_neg (fun ⟨j, h1, h2, _⟩ => absurd h1 (by omega))]
    | succ m ih =>
      intro k hk
      have h1 := h k (by omega)
      by_cases hp : p k
      · rw [if_pos hp] at h1
        rw [loopO_inr h1, if_pos ⟨k, Nat.le_refl _, by omega, hp⟩]
      · rw [if_neg hp] at h1
        rw [loopO_inl h1]
        have := ih (k + 1) (by omega)
        rw [show ((k : Int) + 1) = ((k + 1 : Nat) : Int) by omega, this]
        by_cases ha : ∃ j, k + 1 ≤ j ∧ j < n ∧ p j
        · obtain ⟨j, h1, h2, h3⟩ := ha
          rw [if_pos ⟨j, h1, h2, h3⟩, if_pos ⟨j, by omega, h2, h3⟩]
        · rw [if_neg ha, if_neg]
          rintro ⟨j, h1, h2, h3⟩
          by_cases e : j = k
          · subst e; exact hp h3
          · exact ha ⟨j, by omega, h2, h3⟩
  have := this n 0 (by omega)
  simpa using this
/-- A list grown place by place. -/
theorem loopO_grow {α : Type} {f : List α × Int → Option ((List α × Int) ⊕ List α)} (n : Nat) (g : Nat → List α)
    (h : ∀ k : Nat, k < n → f ((List.range k).flatMap g, (k : Int)) = some (.inl ((List.range k).flatMap g ++ g k, (k : Int) + 1)))
    (he : f ((List.range n).flatMap g, (n : Int)) = some (.inr ((List.range n).flatMap g))) :
    loopO f ([], 0) = some ((List.range n).flatMap g) := by
  refine loopO_for (inv := fun k => ((List.range k).flatMap g, (k : Int))) n (fun k hk => ?_) he
  rw [h k hk]
  simp [List.range_succ]
theorem grow_len {α : Type} (g : Nat → List α) (m : Nat) (hg : ∀ k, (g k).length ≤ m) : ∀ k, ((List.range k).flatMap g).length ≤ k * m
  | 0 => by simp
  | k + 1 => by
    have := grow_len g m hg k
    have := hg k
    simp only [List.range_succ, List.flatMap_append, List.flatMap_cons, List.flatMap_nil, List.append_nil, List.length_append, Nat.add_mul, Nat.one_mul]
    omega
/-- A list turned place by place. -/
theorem loopO_turn {α : Type} {f : Int × List α → Option ((Int × List α) ⊕ List α)} (l : List α) (g : Nat → α)
    (h : ∀ (k : Nat) (pre post : List α) (x : α), k < l.length → pre.length = k → l[k]? = some x → f ((k : Int), pre ++ x :: post) = some (.inl ((k : Int) + 1, pre ++ g k :: post)))
    (he : ∀ l', f ((l.length : Int), l') = some (.inr l')) :
    loopO f (0, l) = some ((List.range l.length).map g) := by
  have : ∀ m k : Nat, k + m = l.length → loopO f ((k : Int), (List.range k).map g ++ l.drop k) = some ((List.range l.length).map g) := by
    intro m
    induction m with
    | zero =>
      intro k hk
      have hk : k = l.length := by omega
      subst hk
      rw [loopO_inr (he _)]
      simp
    | succ m ih =>
      intro k hk
      have hlt : k < l.length := by omega
      rw [List.drop_eq_getElem_cons hlt, loopO_inl (h k _ _ _ hlt (by simp) (List.getElem?_eq_getElem hlt))]
      have := ih (k + 1) (by omega)
      rw [List.range_succ, List.map_append] at this
      simpa using this
  have := this l.length 0 (by omega)
  simpa using this
theorem mod_mid {α : Type} (pre post : List α) (x : α) (k : Nat) (u : α → α) (hk : pre.length = k) : mod? (pre ++ x :: post) k u = some (pre ++ u x :: post) := by
  subst hk
  rw [mod_some _ _ _ (by simp)]
  simp
theorem idx_get {α : Type} {l : List α} {k : Nat} {x : α} (h : l[k]? = some x) : idx? l (k : Int) = some x := by
  obtain ⟨hk, e⟩ := List.getElem?_eq_some_iff.1 h
  rw [idx_nat _ _ hk, e]
open Classical in
theorem loopO_alls {α : Type} {f : Int → Option (Int ⊕ (Bool ⊕ Unit))} (l : List α) (p : α → Prop)
    (h : ∀ (k : Nat) (x : α), k < l.length → l[k]? = some x → f (k : Int) = some (if p x then .inl ((k : Int) + 1) else .inr (.inl false)))
    (he : f (l.length : Int) = some (.inr (.inr ()))) : loopO f 0 = some (if ∀ x ∈ l, p x then .inr () else .inl false) := by
  rw [loopO_all l.length (fun k => ∀ x, l[k]? = some x → p x) (fun k hk => ?_) he]
  · have : (∀ k, k < l.length → ∀ x, l[k]? = some x → p x) ↔ ∀ x ∈ l, p x := by
      constructor
      · intro h x hx
        obtain ⟨k, hk, e⟩ := List.getElem_of_mem hx
        exact h k hk x (List.getElem?_eq_some_iff.2 ⟨hk, e⟩)
      · intro h k hk x hx
        exact h x (List.mem_of_getElem? hx)
    by_cases hp : ∀ x ∈ l, p x
    · rw [if_pos hp, if_pos (this.2 hp)]
    · rw [if_neg hp, if_neg fun hh => hp (this.1 hh)]
  · have e := List.getElem?_eq_getElem hk
    rw [h k _ hk e]
    by_cases hp : p l[k]
    · rw [if_pos hp, if_pos (fun x hx => by rw [e] at hx; cases hx; exact hp)]
    · rw [if_neg hp, if_neg (fun hh => hp (hh _ e))]
open Classical in
theorem loopO_anys {α β : Type} {f : Int → Option (Int ⊕ (β ⊕ Unit))} (l : List α) (p : α → Prop) (b : β)
    (h : ∀ (k : Nat) (x : α), k < l.length → l[k]? = some x → f (k : Int) = some (if p x then .inr (.inl b) else .inl ((k : Int) + 1)))
    (he : f (l.length : Int) = some (.inr (.inr ()))) : loopO f 0 = some (if ∃ x ∈ l, p x then .inl b else .inr ()) := by
  rw [loopO_any l.length (fun k => ∃ x, l[k]? = some x ∧ p x) b (fun k hk => ?_) he]
  · have : (∃ k, k < l.length ∧ ∃ x, l[k]? = some x ∧ p x) ↔ ∃ x ∈ l, p x := by
      constructor
      · rintro ⟨k, hk, x, hx, hp⟩
        exact ⟨x, List.mem_of_getElem? hx, hp⟩
      · rintro ⟨x, hx, hp⟩
        obtain ⟨k, hk, e⟩ := List.getElem_of_mem hx
        exact ⟨k, hk, x, List.getElem?_eq_some_iff.2 ⟨hk, e⟩, hp⟩
    by_cases hp : ∃ x ∈ l, p x
    · rw [if_pos hp, if_pos (this.2 hp)]
    · rw [if_neg hp, if_neg fun hh => hp (this.1 hh)]
  · have e := List.getElem?_eq_getElem hk
    rw [h k _ hk e]
    by_cases hp : p l[k]
    · rw [if_pos hp, if_pos ⟨_, e, hp⟩]
    · rw [if_neg hp, if_neg]
      rintro ⟨x, hx, hh⟩
      rw [e] at hx; cases hx; exact hp hh
/-- A list grown out of another one's places, from a place on. -/
theorem loopO_growl {α β : Type} {f : List β × Int → Option ((List β × Int) ⊕ List β)} (l : List α) (g : α → List β) (hg : ∀ x, (g x).length ≤ 1)
    (h : ∀ (k : Nat) (x : α) (out : List β), k < l.length → l[k]? = some x → out.length ≤ k → f (out, (k : Int)) = some (.inl (out ++ g x, (k : Int) + 1)))
    (he : ∀ out, f (out, (l.length : Int)) = some (.inr out)) :
    ∀ (m k : Nat) (out : List β), k + m = l.length → out.length ≤ k → loopO f (out, (k : Int)) = some (out ++ (l.drop k).flatMap g)
  | 0, k, out, hk, ho => by
    have hk : k = l.length := by omega
    subst hk
    rw [loopO_inr (he _)]; simp
  | m + 1, k, out, hk, ho => by
    have hlt : k < l.length := by omega
    rw [loopO_inl (h k _ _ hlt (List.getElem?_eq_getElem hlt) ho), List.drop_eq_getElem_cons hlt, List.flatMap_cons]
    have := loopO_growl l g hg h he m (k + 1) (out ++ g l[k]) (by omega) (by have := hg l[k]; simp only [List.length_append]; omega)
    rw [show ((k : Int) + 1) = ((k + 1 : Nat) : Int) by omega, this, List.append_assoc]
open Classical in
/-- Two lists held against one another. -/
theorem loopO_eqs {α : Type} {f : Int → Option (Int ⊕ (Bool ⊕ Unit))} (l1 l2 : List α) (hl : l1.length = l2.length)
    (h : ∀ (k : Nat) (x y : α), k < l1.length → l1[k]? = some x → l2[k]? = some y → f (k : Int) = some (if x = y then .inl ((k : Int) + 1) else .inr (.inl false)))
    (he : f (l1.length : Int) = some (.inr (.inr ()))) : loopO f 0 = some (if l1 = l2 then .inr () else .inl false) := by
  have e := loopO_all (f := f) l1.length (fun k => l1[k]? = l2[k]?) (fun k hk => ?_) he
  · rw [e]
    by_cases hh : l1 = l2
    · subst hh
      rw [if_pos rfl, if_pos fun k hk => rfl]
    · rw [if_neg hh, if_neg]
      intro ha
      apply hh
      apply List.ext_getElem hl
      intro k h1 h2
      have := ha k h1
      rw [List.getElem?_eq_getElem h1, List.getElem?_eq_getElem h2] at this
      exact Option.some.inj this
  · have h1 := List.getElem?_eq_getElem hk
    have h2 := List.getElem?_eq_getElem (show k < l2.length by omega)
    rw [h k _ _ hk h1 h2, h1, h2]
    by_cases hh : l1[k] = l2[k]
    · rw [if_pos hh, if_pos (by rw [hh])]
    · rw [if_neg hh, if_neg (fun e => hh (Option.some.inj e))]
end Go.Proofs.PF
set_option linter.unusedVariables false
set_option linter.unusedSimpArgs false
namespace Go.Proofs.YtfjlpfjpidikjaaGreatDoor
open Go.Proofs.PF
theorem lenMax_eq : lenMax = 4294967296 := rfl
theorem wrI {n m : Int} (h : n = m) (h1 : -9223372036854775808 ≤ m ∧ m ≤ 9223372036854775807) : wr n = m := by subst h; exact wr_eq h1
/-! ### Rows -/
/-- What each of a list's items gives, its place told. -/
def rows {α β : Type} (t : Nat → α → List β) : Nat → List α → List β
  | _, [] => []
  | k, x :: r => t k x ++ rows t (k + 1) r
theorem rows_flat {α β : Type} (g : α → List β) : ∀ (l : List α) (k : Nat), rows (fun _ x => g x) k l = l.flatMap g
  | [], _ => rfl
  | x :: r, k => by rw [rows, rows_flat g r, List.flatMap_cons]
theorem rows_mem {α β : Type} {t : Nat → α → List β} {p : β → Prop} : ∀ {l : List α} {k : Nat}, (∀ j, ∀ x ∈ l, ∀ b ∈ t j x, p b) → ∀ b ∈ rows t k l, p b
  | [], _, _, b, hb => by cases hb
  | x :: r, k, h, b, hb => by
    rcases List.mem_append.1 hb with hb | hb
    · exact h k x (by simp) b hb
    · exact rows_mem (fun j y hy => h j y (List.mem_cons_of_mem _ hy)) b hb
theorem loopO_rows {α β σ ρ : Type} {f : σ → Option (σ ⊕ ρ)} (st : List β → Int → σ) (re : List β → ρ) (l : List α) (t : Nat → α → List β) (B : Nat)
    (h : ∀ (k : Nat) x s, k < l.length → l[k]? = some x → s.length + (t k x).length ≤ B → f (st s (k : Int)) = some (.inl (st (s ++ t k x) ((k : Int) + 1))))
    (he : ∀ s, f (st s (l.length : Int)) = some (.inr (re s))) (s0 : List β) (hB : s0.length + (rows t 0 l).length ≤ B) : loopO f (st s0 0) = some (re (s0 ++ rows t 0 l)) := by
  have : ∀ (j k : Nat) (s : List β), k + j = l.length → s.length + (rows t k (l.drop k)).length ≤ B → loopO f (st s (k : Int)) = some (re (s ++ rows t k (l.drop k))) := by
    intro j
    induction j with
    | zero =>
      intro k s hk _
      have : k = l.length := by omega
      subst this
      rw [loopO_inr (he s)]
      simp [rows]
    | succ j ih =>
      intro k s hk hs
      have hlt : k < l.length := by omega
      rw [List.drop_eq_getElem_cons hlt, rows] at hs ⊢
      rw [List.length_append] at hs
      rw [loopO_inl (h k _ s hlt (List.getElem?_eq_getElem hlt) (by omega)), show ((k : Int) + 1) = ((k + 1 : Nat) : Int) by omega, ih (k + 1) _ (by omega) (by rw [List.length_append]; omega), List.append_assoc]
  have := this l.length 0 s0 (by omega) (by simpa using hB)
  simpa using this
/-! ### Numbers -/
theorem dig_len : ∀ (k u : Nat), u < 10 ^ (k + 1) → (Lib.decDigits u).length ≤ k + 1 := by
  intro k
  induction k with
  | zero => intro u h; rw [Lib.decDigits, dif_pos (by omega)]; simp
  | succ k ih =>
    intro u h
    rw [Lib.decDigits]
    split
    · simp
    · rw [List.length_append]
      have := ih (u / 10) (by rw [Nat.pow_succ] at h; omega)
      simp; omega
theorem dig_pos (u : Nat) : 0 < (Lib.decDigits u).length := by
  rw [Lib.decDigits]
  split <;> simp
theorem dig_mem : ∀ (u : Nat), ∀ b ∈ Lib.decDigits u, 48 ≤ b.toNat ∧ b.toNat ≤ 57 := by
  intro u
  induction u using Nat.strongRecOn with
  | _ u ih =>
    intro b hb
    rw [Lib.decDigits] at hb
    have one : ∀ d, d < 10 → 48 ≤ (UInt8.ofNat (48 + d)).toNat ∧ (UInt8.ofNat (48 + d)).toNat ≤ 57 := by
      intro d hd
      rw [UInt8.toNat_ofNat']
      omega
    split at hb
    · rename_i h
      simp only [List.mem_singleton] at hb
      subst hb
      exact one u h
    · rcases List.mem_append.1 hb with hb | hb
      · exact ih (u / 10) (by omega) b hb
      · simp only [List.mem_singleton] at hb
        subst hb
        exact one _ (by omega)
/-- A numeral's number. -/
def numOf (l : List UInt8) : Nat := l.foldl (fun a b => 10 * a + (b.toNat - 48)) 0
theorem numOf_dig : ∀ (u : Nat), numOf (Lib.decDigits u) = u := by
  intro u
  induction u using Nat.strongRecOn with
  | _ u ih =>
    rw [Lib.decDigits]
    split
    · rename_i h
      simp only [numOf, List.foldl_cons, List.foldl_nil, UInt8.toNat_ofNat']
      omega
    · have := ih (u / 10) (by omega)
      simp only [numOf, List.foldl_append, List.foldl_cons, List.foldl_nil, UInt8.toNat_ofNat'] at this ⊢
      rw [this]
      omega
theorem dig_inj {u v : Nat} (h : Lib.decDigits u = Lib.decDigits v) : u = v := by rw [← numOf_dig u, h, numOf_dig]
theorem itoa_len {n : Int} (h : I64 n) : (Lib.itoa n).length ≤ 20 := by
  unfold Lib.itoa
  have h1 := h.1
  have h2 := h.2
  split
  · have := dig_len 18 n.natAbs (by omega)
    simp; omega
  · have := dig_len 18 n.toNat (by omega)
    omega
theorem itoa_mem (n : Int) : ∀ b ∈ Lib.itoa n, b = 45 ∨ (48 ≤ b.toNat ∧ b.toNat ≤ 57) := by
  intro b hb
  unfold Lib.itoa at hb
  split at hb
  · rcases List.mem_cons.1 hb with rfl | hb
    · exact .inl rfl
    · exact .inr (dig_mem _ b hb)
  · exact .inr (dig_mem _ b hb)
theorem itoa_inj {n m : Int} (h : Lib.itoa n = Lib.itoa m) : n = m := by
  have no : ∀ u (l : List UInt8), Lib.decDigits u ≠ 45 :: l := by
    intro u l e
    have := dig_mem u 45 (by rw [e]; simp)
    simp at this
  unfold Lib.itoa at h
  split at h
  · split at h
    · simp only [List.cons.injEq, true_and] at h
      have := dig_inj h
      omega
    · exact absurd h.symm (no _ _)
  · split at h
    · exact absurd h (no _ _)
    · have := dig_inj h
      omega
theorem Itoa_eq {n : Int} (h : I64 n) : strconv_Itoa n = some (Lib.itoa n) := by
  unfold strconv_Itoa
  exact if_pos h
theorem dd {m : Nat} (h : ¬ m < 10) : Lib.decDigits m = Lib.decDigits (m / 10) ++ [UInt8.ofNat (48 + m % 10)] := by rw [Lib.decDigits, dif_neg h]
/-! ### Words -/
def hd (k : Nat) : UInt8 := ([48, 49, 50, 51, 52, 53, 54, 55, 56, 57, 97, 98, 99, 100, 101, 102] : List UInt8).getD k 0
def hx (b : UInt8) : List UInt8 := [hd (b.toNat / 16), hd (b.toNat % 16)]
def word (s : List UInt8) : List UInt8 := if s = [] then [45] else s.flatMap hx
theorem hd_idx : ∀ k : Fin 16, idx? ([48, 49, 50, 51, 52, 53, 54, 55, 56, 57, 97, 98, 99, 100, 101, 102] : List UInt8) (k.val : Int) = some (hd k.val) := by decide
theorem hd_at {k : Nat} (h : k < 16) : idx? ([48, 49, 50, 51, 52, 53, 54, 55, 56, 57, 97, 98, 99, 100, 101, 102] : List UInt8) (k : Int) = some (hd k) := hd_idx ⟨k, h⟩
theorem hx_len (s : List UInt8) : (s.flatMap hx).length = 2 * s.length := by
  induction s with
  | nil => rfl
  | cons b s ih => rw [List.flatMap_cons, List.length_append, ih, List.length_cons]; simp [hx]; omega
theorem word_len (s : List UInt8) : (word s).length ≤ 2 * s.length + 1 := by
  unfold word
  split
  · simp
  · rw [hx_len]; omega
theorem u8_lt (b : UInt8) : b.toNat < 256 := b.toNat_lt
theorem shr4 (b : UInt8) : shrI .u8 (b.toNat : Int) 4 = ((b.toNat / 16 : Nat) : Int) := by
  show (b.toNat : Int).fdiv (2 ^ min (4 : Int).toNat IntKind.u8.bits) = _
  rw [show (2 : Int) ^ min (4 : Int).toNat IntKind.u8.bits = 16 by decide, Int.fdiv_eq_ediv_of_nonneg _ (by decide)]
  omega
theorem and15 (b : UInt8) : andI .u8 (b.toNat : Int) 15 = ((b.toNat % 16 : Nat) : Int) := by
  have all : ∀ k : Fin 256, andI .u8 (k.val : Int) 15 = ((k.val % 16 : Nat) : Int) := by decide +kernel
  exact all ⟨b.toNat, u8_lt b⟩
theorem ints_hx (b : UInt8) : [((hd (b.toNat / 16)).toNat : Int), ((hd (b.toNat % 16)).toNat : Int)] = intsOf (hx b) := rfl
theorem bytes_ints (s : List UInt8) : bytesOf (intsOf s) = s := by
  simp only [bytesOf, intsOf, List.map_map]
  refine (List.map_congr_left fun b _ => ?_).trans (List.map_id s)
  show UInt8.ofNat ((b.toNat : Int)).toNat = b
  simp
theorem ints_app (a b : List UInt8) : intsOf (a ++ b) = intsOf a ++ intsOf b := by simp [intsOf]
theorem ints_flat (s : List UInt8) : s.flatMap (fun b => intsOf (hx b)) = intsOf (s.flatMap hx) := by
  induction s with
  | nil => rfl
  | cons b s ih => rw [List.flatMap_cons, List.flatMap_cons, ih, ints_app]
theorem put_eq (l out : List Int) (h : out.length + l.length ≤ lenMax) : lines_writer_put l (Glines_writer.mk out) = some (Glines_writer.mk (out ++ l)) := by
  unfold lines_writer_put
  rw [if_pos h]
theorem word0_eq (s : List UInt8) (out : List Int) (h : out.length + 2 * s.length ≤ 1000000000) : lines_writer_word_0 s (List.length s : Int) 0 (Glines_writer.mk out) = some (Glines_writer.mk (out ++ intsOf (s.flatMap hx))) := by
  unfold lines_writer_word_0
  have := loopO_rows (f := fun s_1 : Int × Glines_writer => lines_writer_word_0_step s (List.length s : Int) s_1.1 s_1.2) (fun o i => (i, Glines_writer.mk o)) Glines_writer.mk s (fun _ b => intsOf (hx b)) 1000000000
    (fun k b o hk hb hl => by
      show lines_writer_word_0_step _ _ _ _ = _
      unfold lines_writer_word_0_step
      have hl' : o.length + 2 ≤ 1000000000 := hl
      have l := u8_lt b
      rw [if_pos (by omega), idx_get hb, Option.bind_some, shr4, hd_at (by omega), Option.bind_some, Option.bind_some, and15, hd_at (by omega), Option.bind_some, put_eq _ _ (by rw [lenMax_eq]; simp; omega), Option.bind_some, ints_hx]
      rw [wrI rfl (by omega)])
    (fun o => by
      show lines_writer_word_0_step _ _ _ _ = _
      unfold lines_writer_word_0_step
      rw [if_neg (by omega)]) out (by rw [rows_flat, ints_flat]; simp only [intsOf, List.length_map, hx_len]; exact h)
  rw [rows_flat, ints_flat] at this
  exact this
theorem Word_eq (s : List UInt8) (h : s.length ≤ 100000000) : lines_Word s = some (word s) := by
  unfold lines_Word lines_writer_word word
  by_cases e : s = []
  · subst e
    rw [if_pos rfl, put_eq _ _ (by rw [lenMax_eq]; simp), Option.bind_some, word0_eq [] _ (by simp)]
    rfl
  · rw [if_neg e, if_neg e, show lines_writer_word_0a = lines_writer_word_0 from rfl, word0_eq s _ (by simp; omega), Option.bind_some, Option.bind_some]
    simp only [List.nil_append, bytes_ints]
theorem hex_eq (s : List UInt8) (h : s.length ≤ 100000000) : r40_Word s = some (word s) := by
  unfold r40_Word r40_hex word
  by_cases e : s = []
  · subst e; rfl
  · rw [if_neg e, if_neg e, wrI rfl (by omega), if_pos ⟨by omega, by rw [lenMax_eq]; omega⟩]
    have := loopO_rows (f := fun s_1 : List Int × Int => r40_hex_0_step s ([48, 49, 50, 51, 52, 53, 54, 55, 56, 57, 97, 98, 99, 100, 101, 102] : List UInt8) s_1.1 s_1.2) (fun o i => (o, i)) id s (fun _ b => intsOf (hx b)) 1000000000
      (fun k b o hk hb hl => by
        show r40_hex_0_step _ _ _ _ = _
        unfold r40_hex_0_step
        have hl' : o.length + 2 ≤ 1000000000 := hl
        have l := u8_lt b
        have e1 : IntKind.wrap .u8 (Int.tdiv (b.toNat : Int) 16) = ((b.toNat / 16 : Nat) : Int) := by
          rw [Int.tdiv_eq_ediv_of_nonneg (by omega)]
          simp only [IntKind.wrap, IntKind.bits, IntKind.signed]
          simp
          omega
        have e2 : Int.tmod (b.toNat : Int) 16 = ((b.toNat % 16 : Nat) : Int) := by rw [Int.tmod_eq_emod_of_nonneg (by omega)]; omega
        rw [if_pos (by omega), idx_get hb, Option.bind_some, e1, hd_at (by omega), Option.bind_some, Option.bind_some, e2, hd_at (by omega), Option.bind_some, if_pos (by rw [lenMax_eq]; simp; omega), ints_hx]
        rw [wrI rfl (by omega)])
      (fun o => by
        show r40_hex_0_step _ _ _ _ = _
        unfold r40_hex_0_step
        rw [if_neg (by omega)]
        rfl) [] (by rw [rows_flat, ints_flat]; simp only [intsOf, List.length_map, hx_len]; simp; omega)
    rw [rows_flat, ints_flat] at this
    unfold r40_hex_0
    rw [this, Option.bind_some, Option.bind_some]
    simp only [id, List.nil_append, bytes_ints]
/-! ### Words as numbers -/
def dg (b : UInt8) : Prop := 48 ≤ b.toNat ∧ b.toNat ≤ 57
instance (b : UInt8) : Decidable (dg b) := by unfold dg; infer_instance
def numF : List UInt8 → Nat → Option Nat
  | [], n => some n
  | b :: r, n => if dg b then numF r (10 * n + (b.toNat - 48)) else none
def numV (s : List UInt8) : Option Nat := if s.length = 0 ∨ 6 < s.length ∨ (1 < s.length ∧ s[0]? = some 48) then none else numF s 0
theorem num_loop {β : Type} {f : Int × Int → Option ((Int × Int) ⊕ (β ⊕ Int))} (s : List UInt8) (bad : Int → β) (hs : s.length ≤ 6)
    (h : ∀ (k : Nat) (b : UInt8) (n : Nat), k < s.length → s[k]? = some b → n < 1000000 → f ((n : Int), (k : Int)) = some (if dg b then .inl (((10 * n + (b.toNat - 48) : Nat) : Int), (k : Int) + 1) else .inr (.inl (bad n))))
    (he : ∀ n, f (n, (s.length : Int)) = some (.inr (.inr n))) : ∃ m, loopO f (0, 0) = some (match numF s 0 with | some n => .inr (n : Int) | none => .inl (bad m)) := by
  have : ∀ (j k n : Nat), k + j = s.length → n < 10 ^ k → ∃ m, loopO f ((n : Int), (k : Int)) = some (match numF (s.drop k) n with | some n => .inr (n : Int) | none => .inl (bad m)) := by
    intro j
    induction j with
    | zero =>
      intro k n hk _
      obtain rfl : k = s.length := by omega
      refine ⟨0, ?_⟩
      rw [loopO_inr (he _), List.drop_length]
      rfl
    | succ j ih =>
      intro k n hk hn
      have hlt : k < s.length := by omega
      have hn6 : n < 1000000 := by
        have : 10 ^ k ≤ 10 ^ 6 := Nat.pow_le_pow_right (by omega) (by omega)
        omega
      have hb := h k s[k] n hlt (List.getElem?_eq_getElem hlt) hn6
      rw [List.drop_eq_getElem_cons hlt, numF]
      have lb := s[k].toNat_lt
      by_cases hd : dg s[k]
      · rw [if_pos hd] at hb ⊢
        rw [loopO_inl hb, show ((k : Int) + 1) = ((k + 1 : Nat) : Int) by omega]
        have hd' := hd.2
        have hd'' := hd.1
        exact ih (k + 1) _ (by omega) (by rw [Nat.pow_succ]; omega)
      · rw [if_neg hd] at hb ⊢
        exact ⟨n, loopO_inr hb⟩
  exact this s.length 0 0 (by omega) (by simp)
theorem wrap8 {n : Int} (h : 0 ≤ n ∧ n ≤ 255) : IntKind.wrap .u8 n = n := by
  simp only [IntKind.wrap, IntKind.bits, IntKind.signed]
  simp
  omega
theorem numF_nil (n : Nat) : numF [] n = some n := rfl
theorem number0_eq (s : List UInt8) (hs : s.length ≤ 6) : ∃ m, lines_number_0 s (s.length : Int) 0 0 = some (match numF s 0 with | some n => .inr (n : Int) | none => .inl (0, false, m)) := by
  unfold lines_number_0
  exact num_loop (f := fun s_1 : Int × Int => lines_number_0_step s (s.length : Int) s_1.1 s_1.2) s (fun n => (0, false, n)) hs (fun k b n hk hb hn => by
    show lines_number_0_step _ _ _ _ = _
    unfold lines_number_0_step
    have l := b.toNat_lt
    rw [if_pos (by omega), idx_get hb, Option.bind_some]
    simp only [wr_eq (show -9223372036854775808 ≤ ((b.toNat : Nat) : Int) ∧ ((b.toNat : Nat) : Int) ≤ 9223372036854775807 by omega), wr_eq (show -9223372036854775808 ≤ ((b.toNat : Nat) : Int) - 48 ∧ ((b.toNat : Nat) : Int) - 48 ≤ 9223372036854775807 by omega),
      wr_eq (show -9223372036854775808 ≤ 10 * ((n : Nat) : Int) ∧ 10 * ((n : Nat) : Int) ≤ 9223372036854775807 by omega)]
    by_cases hd : dg b
    · have h1 := hd.1
      have h2 := hd.2
      rw [if_neg (by omega), if_neg (by omega), if_pos hd, wrI (m := ((10 * n + (b.toNat - 48) : Nat) : Int)) (by omega) (by omega), wrI rfl (by omega)]
    · rw [if_neg hd]
      by_cases h1 : ((b.toNat : Nat) : Int) - 48 < 0
      · rw [if_pos h1]
      · rw [if_neg h1, if_pos (by unfold dg at hd; omega)]) (fun n => by
    show lines_number_0_step _ _ _ _ = _
    unfold lines_number_0_step
    rw [if_neg (by omega)])
theorem number_eq (s : List UInt8) : lines_number s = some (match numV s with | some n => ((n : Int), true) | none => (0, false)) := by
  unfold lines_number numV
  rw [show lines_number_0a = lines_number_0 from rfl]
  by_cases h6 : 6 < s.length
  · rw [if_pos (by omega), if_pos (by omega)]
  · rw [if_neg (by omega)]
    obtain ⟨m, hm⟩ := number0_eq s (by omega)
    by_cases h1 : 1 < s.length
    · rw [if_pos (by omega)]
      have h0 : s[0]? = some s[0] := List.getElem?_eq_getElem (by omega)
      rw [show idx? s 0 = some s[0] from idx_get (k := 0) h0, Option.bind_some]
      by_cases hz : s[0] = 48
      · rw [if_pos (by rw [hz]; rfl), if_pos (by rw [h0, hz]; exact .inr (.inr ⟨h1, rfl⟩))]
      · have hz' : ¬ ((s[0].toNat : Nat) : Int) = 48 := by
          intro e
          apply hz
          exact UInt8.toNat_inj.1 (by show s[0].toNat = 48; omega)
        have hno : ¬ (s.length = 0 ∨ 6 < s.length ∨ (1 < s.length ∧ s[0]? = some 48)) := by
          rw [h0]
          rintro (h | h | h)
          · omega
          · omega
          · exact hz (Option.some.inj h.2)
        rw [if_neg hz', if_neg hno, hm]
        have hne : s ≠ [] := by rintro rfl; simp at h1
        cases hn : numF s 0 with
        | none => rfl
        | some n => simp [hne]
    · rw [if_neg (by omega), hm]
      by_cases h0 : s = []
      · subst h0; rfl
      · have : s.length ≠ 0 := by simpa using h0
        rw [if_neg (by rintro (h | h | h) <;> omega)]
        cases hn : numF s 0 with
        | none => rfl
        | some n => simp [h0]
theorem Number_eq (s : List UInt8) : lines_Number s = some (match numV s with | some n => ((n : Int), true) | none => (0, false)) := by
  unfold lines_Number
  rw [number_eq, Option.bind_some]
  cases numV s <;> rfl
/-! ### Words as bytes -/
def nib (b : UInt8) : Option Nat := if 48 ≤ b.toNat ∧ b.toNat ≤ 57 then some (b.toNat - 48) else if 97 ≤ b.toNat ∧ b.toNat ≤ 102 then some (b.toNat - 87) else none
def bytesG : List UInt8 → Option (List UInt8)
  | a :: b :: r => match nib a, nib b with
    | some x, some y => (bytesG r).map (UInt8.ofNat (16 * x + y) :: ·)
    | _, _ => none
  | _ => some []
def bytesV (s : List UInt8) : Option (List UInt8) := if s = [45] then some [] else if s.length = 0 ∨ s.length % 2 = 1 then none else bytesG s
theorem nib_lt {b : UInt8} {x : Nat} (h : nib b = some x) : x < 16 := by
  unfold nib at h
  split at h
  · injection h with h; omega
  · split at h
    · injection h with h; omega
    · cases h
theorem pair_loop {β : Type} {f : List Int × Int → Option ((List Int × Int) ⊕ (β ⊕ List Int))} (s : List UInt8) (bad : List Int → β) (hs : s.length ≤ 1000000000)
    (h : ∀ (k : Nat) (a b : UInt8) (out : List Int), k + 1 < s.length → s[k]? = some a → s[k + 1]? = some b → out.length ≤ 1000000000 → f (out, (k : Int)) = some (match nib a, nib b with
      | some x, some y => .inl (out ++ [((16 * x + y : Nat) : Int)], (k : Int) + 2)
      | _, _ => .inr (.inl (bad out))))
    (he : ∀ out, f (out, ((2 * (s.length / 2) : Nat) : Int)) = some (.inr (.inr out))) : ∃ m, loopO f ([], 0) = some (match bytesG s with | some l => .inr (intsOf l) | none => .inl (bad m)) := by
  have : ∀ (j k : Nat) (out : List Int), k + 2 * j = 2 * (s.length / 2) → out.length ≤ k → ∃ m, loopO f (out, (k : Int)) = some (match bytesG (s.drop k) with | some l => .inr (out ++ intsOf l) | none => .inl (bad m)) := by
    intro j
    induction j with
    | zero =>
      intro k out hk _
      obtain rfl : k = 2 * (s.length / 2) := by omega
      refine ⟨[], ?_⟩
      rw [loopO_inr (he _)]
      have hl : (s.drop (2 * (s.length / 2))).length < 2 := by rw [List.length_drop]; omega
      match hd : s.drop (2 * (s.length / 2)), hl with
      | [], _ => simp [bytesG, intsOf]
      | [x], _ => simp [bytesG, intsOf]
    | succ j ih =>
      intro k out hk ho
      have h1 : k + 1 < s.length := by omega
      have h0 : k < s.length := by omega
      have hb := h k s[k] s[k + 1] out h1 (List.getElem?_eq_getElem h0) (List.getElem?_eq_getElem h1) (by omega)
      rw [List.drop_eq_getElem_cons h0, List.drop_eq_getElem_cons h1, bytesG]
      cases ha : nib s[k] with
      | none =>
        rw [ha] at hb
        exact ⟨out, loopO_inr hb⟩
      | some x =>
        cases hc : nib s[k + 1] with
        | none =>
          rw [ha, hc] at hb
          exact ⟨out, loopO_inr hb⟩
        | some y =>
          rw [ha, hc] at hb
          rw [loopO_inl hb, show ((k : Int) + 2) = ((k + 2 : Nat) : Int) by omega]
          obtain ⟨m, hm⟩ := ih (k + 2) (out ++ [((16 * x + y : Nat) : Int)]) (by omega) (by simp; omega)
          refine ⟨m, ?_⟩
          rw [hm]
          have hx := nib_lt ha
          have hy := nib_lt hc
          cases bytesG (s.drop (k + 1 + 1)) with
          | none => rfl
          | some l =>
            simp only [Option.map_some, intsOf, List.map_cons, List.append_assoc, List.cons_append, List.nil_append]
            rw [UInt8.toNat_ofNat', Nat.mod_eq_of_lt (by omega)]
  have := this (s.length / 2) 0 [] (by omega) (by simp)
  simpa using this
def digs : List UInt8 := [48, 49, 50, 51, 52, 53, 54, 55, 56, 57, 97, 98, 99, 100, 101, 102]
theorem index_eq (b : UInt8) : strings_IndexByte digs ((b.toNat : Nat) : Int) = some (match nib b with | some x => (x : Int) | none => -1) := by
  have all : ∀ k : Fin 256, Lib.indexByte digs (UInt8.ofNat k.val) = (match nib (UInt8.ofNat k.val) with | some x => (x : Int) | none => -1) := by decide +kernel
  have := all ⟨b.toNat, b.toNat_lt⟩
  simp only [UInt8.ofNat_toNat] at this
  unfold strings_IndexByte
  have e : ((b.toNat : Nat) : Int).toNat.toUInt8 = b := by rw [Int.toNat_natCast]; exact UInt8.ofNat_toNat
  rw [e, this]
theorem or_eq {x y : Nat} (hx : x < 16) (hy : y < 16) : w8 (orI .i64 (shlI .i64 (x : Int) 4) (y : Int)) = ((16 * x + y : Nat) : Int) := by
  have all : ∀ a b : Fin 16, orI .i64 (shlI .i64 (a.val : Int) 4) (b.val : Int) = ((16 * a.val + b.val : Nat) : Int) := by decide +kernel
  rw [all ⟨x, hx⟩ ⟨y, hy⟩, w8_eq (by simp only; omega)]
theorem word_eq (s : List UInt8) (hs : s.length ≤ 100000000) : ∃ j, lines_word s = some (match bytesV s with | some x => (x, true) | none => (j, false)) := by
  unfold lines_word bytesV
  by_cases h45 : s = [45]
  · rw [if_pos h45, if_pos h45]; exact ⟨[], rfl⟩
  · rw [if_neg h45, if_neg h45]
    have e : Int.tdiv (s.length : Int) 2 = ((s.length / 2 : Nat) : Int) := by rw [Int.tdiv_eq_ediv_of_nonneg (by omega)]; omega
    have e2 : Int.tmod (s.length : Int) 2 = ((s.length % 2 : Nat) : Int) := by rw [Int.tmod_eq_emod_of_nonneg (by omega)]; omega
    rw [e, e2, wrI rfl (by omega), if_pos ⟨by omega, by rw [lenMax_eq]; omega⟩]
    obtain ⟨m, hm⟩ := pair_loop (f := fun s_1 : List Int × Int => lines_word_0_step s s_1.1 s_1.2) s (fun out => (([] : List UInt8), false, out)) (by omega) (fun k a b out hk ha hb ho => by
      show lines_word_0_step _ _ _ = _
      unfold lines_word_0_step
      rw [show ([48, 49, 50, 51, 52, 53, 54, 55, 56, 57, 97, 98, 99, 100, 101, 102] : List UInt8) = digs from rfl]
      have e1 : wr ((k : Int) + 1) = ((k + 1 : Nat) : Int) := wrI (by omega) (by omega)
      rw [e1, if_pos (by omega), idx_get ha, Option.bind_some, index_eq, Option.bind_some, idx_get hb, Option.bind_some, index_eq, Option.bind_some]
      cases hx : nib a with
      | none => rw [if_pos (by simp only; omega)]
      | some x =>
        rw [if_neg (by simp only; omega)]
        cases hy : nib b with
        | none => rw [if_pos (by simp only; omega)]
        | some y =>
          simp only
          rw [if_neg (by omega), or_eq (nib_lt hx) (nib_lt hy), if_pos (by rw [lenMax_eq]; simp; omega), wrI rfl (by omega)]) (fun out => by
      show lines_word_0_step _ _ _ = _
      unfold lines_word_0_step
      rw [if_neg (by rw [wrI rfl (by omega)]; omega)])
    unfold lines_word_0
    rw [hm, Option.bind_some]
    cases hg : bytesG s with
    | none =>
      refine ⟨[], ?_⟩
      have en : (if s.length = 0 ∨ s.length % 2 = 1 then (none : Option (List UInt8)) else none) = none := by split <;> rfl
      rw [en]
      rfl
    | some l =>
      simp only [Sum.elim_inr, bytes_ints]
      by_cases h0 : s.length = 0
      · rw [if_neg (by omega), if_pos (.inl h0)]; exact ⟨l, rfl⟩
      · rw [if_pos (by omega)]
        by_cases h1 : s.length % 2 = 1
        · rw [if_pos (.inr h1)]; exact ⟨l, by rw [decide_eq_false (by omega)]⟩
        · rw [if_neg (by omega)]; exact ⟨l, by rw [decide_eq_true (by omega)]⟩
theorem Bytes_eq (s : List UInt8) (hs : s.length ≤ 100000000) : lines_Bytes s = some (match bytesV s with | some x => (x, true) | none => ([], false)) := by
  obtain ⟨j, hj⟩ := word_eq s hs
  unfold lines_Bytes
  rw [hj, Option.bind_some]
  cases bytesV s <;> rfl
/-! ### There and back -/
theorem nib_hd : ∀ k : Fin 16, nib (hd k.val) = some k.val := by decide
theorem hd_nib {b : UInt8} {x : Nat} (h : nib b = some x) : hd x = b := by
  have all : ∀ k : Fin 256, ∀ x : Fin 16, nib (UInt8.ofNat k.val) = some x.val → hd x.val = UInt8.ofNat k.val := by decide +kernel
  have := all ⟨b.toNat, b.toNat_lt⟩ ⟨x, nib_lt h⟩
  simp only [UInt8.ofNat_toNat] at this
  exact this h
theorem bytesG_hx : ∀ (s : List UInt8), bytesG (s.flatMap hx) = some s
  | [] => rfl
  | b :: s => by
    have l := u8_lt b
    rw [List.flatMap_cons]
    simp only [hx, List.cons_append, List.nil_append, bytesG]
    rw [nib_hd ⟨b.toNat / 16, by omega⟩, nib_hd ⟨b.toNat % 16, by omega⟩]
    simp only
    rw [bytesG_hx s, Option.map_some]
    rw [show 16 * (b.toNat / 16) + b.toNat % 16 = b.toNat by omega, UInt8.ofNat_toNat]
theorem bytesV_word (s : List UInt8) : bytesV (word s) = some s := by
  unfold word
  by_cases h : s = []
  · subst h; rfl
  · rw [if_neg h]
    have hl := hx_len s
    have h0 : s.length ≠ 0 := by simpa using h
    unfold bytesV
    rw [if_neg (by intro e; rw [e] at hl; simp at hl; omega), if_neg (by omega), bytesG_hx]
theorem hx_bytesG : ∀ (s : List UInt8) {x : List UInt8}, bytesG s = some x → s.length % 2 = 0 → x.flatMap hx = s
  | [], x, h, _ => by cases h; rfl
  | [a], x, _, h2 => by simp at h2
  | a :: b :: r, x, h, h2 => by
    rw [bytesG] at h
    cases ha : nib a with
    | none => rw [ha] at h; cases h
    | some p =>
      cases hb : nib b with
      | none => rw [ha, hb] at h; cases h
      | some q =>
        rw [ha, hb] at h
        obtain ⟨y, hy, rfl⟩ := Option.map_eq_some_iff.1 h
        have hp := nib_lt ha
        have hq := nib_lt hb
        rw [List.flatMap_cons, hx_bytesG r hy (by simp only [List.length_cons] at h2; omega)]
        simp only [hx, UInt8.toNat_ofNat']
        rw [show (16 * p + q) % 2 ^ 8 / 16 = p by omega, show (16 * p + q) % 2 ^ 8 % 16 = q by omega, hd_nib ha, hd_nib hb]
        rfl
theorem word_bytesV {s x : List UInt8} (h : bytesV s = some x) : word x = s := by
  unfold bytesV at h
  by_cases h1 : s = [45]
  · rw [if_pos h1] at h; cases h; rw [h1]; rfl
  · rw [if_neg h1] at h
    split at h
    · cases h
    · rename_i h2
      have := hx_bytesG s h (by omega)
      unfold word
      rw [if_neg, this]
      rintro rfl
      rw [← this] at h2
      simp at h2
end Go.Proofs.YtfjlpfjpidikjaaGreatDoor
set_option linter.unusedVariables false
set_option linter.unusedSimpArgs false
namespace Go.Proofs.YtfjlpfjpidikjaaGreatDoor
open Go.Proofs.PF
theorem rnumber0_eq (s : List UInt8) (hs : s.length ≤ 6) : ∃ m, r40_number_0 s 0 0 = some (match numF s 0 with | some n => .inr (n : Int) | none => .inl (-1, m)) := by
  unfold r40_number_0
  exact num_loop (f := fun s_1 : Int × Int => r40_number_0_step s s_1.1 s_1.2) s (fun n => (-1, n)) hs (fun k b n hk hb hn => by
    show r40_number_0_step _ _ _ = _
    unfold r40_number_0_step
    have l := b.toNat_lt
    rw [if_pos (by omega), idx_get hb, Option.bind_some]
    by_cases hd : dg b
    · have h1 := hd.1
      have h2 := hd.2
      rw [if_neg (by omega), Option.bind_some, if_neg (by omega), Option.bind_some, if_pos hd, wrap8 (by omega), wrI (n := 10 * ((n : Nat) : Int)) rfl (by omega), wrI (n := ((b.toNat : Nat) : Int) - 48) rfl (by omega), wrI (m := ((10 * n + (b.toNat - 48) : Nat) : Int)) (by omega) (by omega), wrI rfl (by omega)]
    · rw [if_neg hd]
      by_cases h1 : ((b.toNat : Nat) : Int) < 48
      · rw [if_pos h1]
      · rw [if_neg h1, Option.bind_some, if_pos (by unfold dg at hd; omega)]) (fun n => by
    show r40_number_0_step _ _ _ = _
    unfold r40_number_0_step
    rw [if_neg (by omega)])
theorem rnumber_eq (s : List UInt8) : r40_number s = some (match numV s with | some n => (n : Int) | none => -1) := by
  unfold r40_number numV
  rw [show r40_number_0a = r40_number_0 from rfl]
  by_cases h0 : s.length = 0
  · rw [if_pos (by omega), if_pos (.inl h0)]
  · rw [if_neg (by omega)]
    by_cases h6 : 6 < s.length
    · rw [if_pos (by omega), if_pos (.inr (.inl h6))]
    · rw [if_neg (by omega)]
      obtain ⟨m, hm⟩ := rnumber0_eq s (by omega)
      have hx : s[0]? = some s[0] := List.getElem?_eq_getElem (by omega)
      rw [show idx? s 0 = some s[0] from idx_get (k := 0) hx, Option.bind_some]
      by_cases hz : s[0] = 48
      · rw [if_pos (by rw [hz]; rfl)]
        by_cases h1 : 1 < s.length
        · rw [if_pos (by omega), if_pos (by rw [hx, hz]; exact .inr (.inr ⟨h1, rfl⟩))]
        · rw [if_neg (by omega), if_neg (by rintro (h | h | h) <;> omega), hm]
          cases numF s 0 <;> rfl
      · have hz' : ¬ ((s[0].toNat : Nat) : Int) = 48 := by
          intro e
          apply hz
          exact UInt8.toNat_inj.1 (by show s[0].toNat = 48; omega)
        have hno : ¬ (s.length = 0 ∨ 6 < s.length ∨ (1 < s.length ∧ s[0]? = some 48)) := by
          rw [hx]
          rintro (h | h | h)
          · omega
          · omega
          · exact hz (Option.some.inj h.2)
        rw [if_neg hz', if_neg hno, hm]
        cases numF s 0 <;> rfl
theorem rNumber_eq (s : List UInt8) : r40_Number s = some (match numV s with | some n => ((n : Int), true) | none => (0, false)) := by
  unfold r40_Number
  rw [rnumber_eq, Option.bind_some]
  cases numV s with
  | none => rfl
  | some n => simp only; rw [if_neg (by omega)]
theorem rnib_eq (b : UInt8) : r40_nibble ((b.toNat : Nat) : Int) = some (match nib b with | some x => (x : Int) | none => -1) := by
  have l := b.toNat_lt
  by_cases h1 : 48 ≤ b.toNat ∧ b.toNat ≤ 57
  · have e : nib b = some (b.toNat - 48) := by unfold nib; rw [if_pos h1]
    rw [e]
    unfold r40_nibble
    rw [if_pos (by omega), if_pos (by omega), wrap8 (by omega), wrI (m := ((b.toNat - 48 : Nat) : Int)) (by omega) (by omega)]
  · by_cases h2 : 97 ≤ b.toNat ∧ b.toNat ≤ 102
    · have e : nib b = some (b.toNat - 87) := by unfold nib; rw [if_neg h1, if_pos h2]
      rw [e]
      unfold r40_nibble
      have k : (wr ((wr (IntKind.wrap .u8 (((b.toNat : Nat) : Int) - 97))) + 10)) = ((b.toNat - 87 : Nat) : Int) := by rw [wrap8 (by omega), wrI (n := ((b.toNat : Nat) : Int) - 97) rfl (by omega), wrI (m := ((b.toNat - 87 : Nat) : Int)) (by omega) (by omega)]
      rw [if_pos (by omega), if_neg (by omega), if_pos (by omega), if_pos (by omega), k]
    · have e : nib b = none := by unfold nib; rw [if_neg h1, if_neg h2]
      rw [e]
      unfold r40_nibble
      by_cases h3 : 48 ≤ ((b.toNat : Nat) : Int)
      · rw [if_pos h3, if_neg (by omega)]
        by_cases h4 : 97 ≤ ((b.toNat : Nat) : Int)
        · rw [if_pos h4, if_neg (by omega)]
        · rw [if_neg h4]
      · rw [if_neg h3, if_neg (by omega)]
theorem rbytes_eq (s : List UInt8) (hs : s.length ≤ 100000000) : r40_bytes s = some (match bytesV s with | some x => (x, true) | none => ([], false)) := by
  unfold r40_bytes bytesV
  by_cases h45 : s = [45]
  · rw [if_pos h45, if_pos h45]
  · rw [if_neg h45, if_neg h45]
    by_cases h0 : s.length = 0
    · rw [if_pos (by omega), if_pos (.inl h0)]
    · have e2 : Int.tmod (s.length : Int) 2 = ((s.length % 2 : Nat) : Int) := by rw [Int.tmod_eq_emod_of_nonneg (by omega)]; omega
      rw [if_neg (by omega), e2]
      by_cases h1 : s.length % 2 = 1
      · rw [if_pos (by omega), if_pos (.inr h1)]
      · rw [if_neg (by omega), if_neg (by omega)]
        obtain ⟨m, hm⟩ := pair_loop (f := fun s_1 : List Int × Int => r40_bytes_0_step s s_1.1 s_1.2) s (fun out => (([] : List UInt8), false, out)) (by omega) (fun k a b out hk ha hb ho => by
          show r40_bytes_0_step _ _ _ = _
          unfold r40_bytes_0_step
          have e1 : wr ((k : Int) + 1) = ((k + 1 : Nat) : Int) := wrI (by omega) (by omega)
          rw [if_pos (by omega), idx_get ha, Option.bind_some, rnib_eq, Option.bind_some, e1, idx_get hb, Option.bind_some, rnib_eq, Option.bind_some]
          cases hx : nib a with
          | none => rw [if_pos (by simp only; omega)]
          | some x =>
            rw [if_neg (by simp only; omega)]
            cases hy : nib b with
            | none => rw [if_pos (by simp only; omega)]
            | some y =>
              have hx' := nib_lt hx
              have hy' := nib_lt hy
              simp only
              rw [if_neg (by omega), wrI (n := 16 * (x : Int)) rfl (by omega), wrI (m := ((16 * x + y : Nat) : Int)) (by omega) (by omega), w8_eq (by omega), if_pos (by rw [lenMax_eq]; simp; omega), wrI rfl (by omega)]) (fun out => by
          show r40_bytes_0_step _ _ _ = _
          unfold r40_bytes_0_step
          rw [if_neg (by omega)])
        unfold r40_bytes_0
        rw [hm, Option.bind_some]
        cases hg : bytesG s with
        | none => rfl
        | some l => simp only [Sum.elim_inr, bytes_ints]
theorem rBytes_eq (s : List UInt8) (hs : s.length ≤ 100000000) : r40_Bytes s = some (match bytesV s with | some x => (x, true) | none => ([], false)) := by
  unfold r40_Bytes
  rw [rbytes_eq s hs, Option.bind_some]
theorem bytesG_len : ∀ (s : List UInt8) {x : List UInt8}, bytesG s = some x → x.length ≤ s.length
  | [], x, h => by cases h; simp
  | [a], x, h => by cases h; simp
  | a :: b :: r, x, h => by
    rw [bytesG] at h
    split at h
    · obtain ⟨y, hy, rfl⟩ := Option.map_eq_some_iff.1 h
      have := bytesG_len r hy
      simp only [List.length_cons]
      omega
    · cases h
theorem bytesV_len {s x : List UInt8} (h : bytesV s = some x) : x.length ≤ s.length := by
  unfold bytesV at h
  split at h
  · cases h; simp
  · split at h
    · cases h
    · exact bytesG_len s h
theorem known40 : (l40_known).bind (fun r => some r) = some true := rfl
theorem known40' : l40_known = some true := rfl
theorem LinesWords_true (s : List UInt8) (h : SL s) (hb : bkL [sav s] ≤ 1048576) : l40_LinesWords s = some true := by
  unfold l40_LinesWords
  by_cases hl : 1000 < (s.length : Int)
  · rw [if_pos hl, known40]
  · rw [if_neg hl]
    have wl := word_len s
    rw [Bytes_eq s (by omega), rBytes_eq s (by omega), Number_eq, rNumber_eq, Word_eq s (by omega), hex_eq s (by omega)]
    have hw := Bytes_eq (word s) (by omega)
    rw [bytesV_word] at hw
    cases hx : bytesV s with
    | none => cases numV s <;> simp [hw, known40']
    | some x =>
      have := bytesV_len hx
      have hy := Word_eq x (by omega)
      rw [word_bytesV hx] at hy
      cases numV s <;> simp [hw, hy, known40']
end Go.Proofs.YtfjlpfjpidikjaaGreatDoor
namespace Go.Proofs.YtfjlpfjpidikjaaGreatDoor
open Go.Proofs.PF
theorem LinesWords_law (l : List AV) (h : ArgsOf [([.s], false)] l) (hb : bkL l ≤ 1048576) : LM.call n_l40_LinesWords l [] = some (.bool true, []) := by
  obtain ⟨y0, _, rfl, p0, h⟩ := Dec.str.arg h
  obtain rfl := Dec.end_ h
  obtain ⟨q, e, rfl⟩ := l40_LinesWords_sim y0 true (LinesWords_true y0 p0 hb)
  exact e
end Go.Proofs.YtfjlpfjpidikjaaGreatDoor
