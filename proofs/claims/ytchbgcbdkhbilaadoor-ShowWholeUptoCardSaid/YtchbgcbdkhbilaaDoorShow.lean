/-
  Plain laws: what the functions compute, and that the laws say true. Conditions: none beyond each theorem's own.
-/
import Derived.Test.YtchbgcbdkhbilaaDoorPFe
import Derived.Test.YtchbgcbdkhbilaaDoorDa
import Derived.Lib.ItoaMem
set_option linter.unusedVariables false
set_option linter.unusedSimpArgs false
namespace Go.Proofs.PF
open Classical in
/-- A loop that ends with false at the first place that fails. -/
theorem loopO_all {f : Int → Option (Int ⊕ (Bool ⊕ Unit))} (n : Nat) (p : Nat → Prop)
    (h : ∀ k : Nat, k < n → f (k : Int) = some (if p k then .inl ((k : Int) + 1) else .inr (.inl false))) (he : f (n : Int) = some (.inr (.inr ()))) :
    loopO f 0 = some (if ∀ k, k < n → p k then .inr () else .inl false) := by
  have : ∀ m k : Nat, k + m = n → loopO f (k : Int) = some (if ∀ j, k ≤ j → j < n → p j then .inr () else .inl false) := by
    intro m
    induction m with
    | zero =>
      intro k hk
      have : k = n := by omega
      subst this
      rw [loopO_inr he, if_pos (fun j h1 h2 => absurd h1 (by omega))]
    | succ m ih =>
      intro k hk
      have h1 := h k (by omega)
      by_cases hp : p k
      · rw [if_pos hp] at h1
        rw [loopO_inl h1]
        have := ih (k + 1) (by omega)
        rw [show ((k : Int) + 1) = ((k + 1 : Nat) : Int) by omega, this]
        by_cases ha : ∀ j, k + 1 ≤ j → j < n → p j
        · rw [if_pos ha, if_pos]
          intro j h1 h2
          by_cases e : j = k
          · subst e; exact hp
          · exact ha j (by omega) h2
        · rw [if_neg ha, if_neg]
          intro hh
          exact ha fun j h1 h2 => hh j (by omega) h2
      · rw [if_neg hp] at h1
        rw [loopO_inr h1, if_neg]
        intro hh
        exact hp (hh k (Nat.le_refl _) (by omega))
  have := this n 0 (by omega)
  simpa using this
open Classical in
/-- A loop that ends with a value at the first place that holds. -/
theorem loopO_any {β : Type} {f : Int → Option (Int ⊕ (β ⊕ Unit))} (n : Nat) (p : Nat → Prop) (b : β)
    (h : ∀ k : Nat, k < n → f (k : Int) = some (if p k then .inr (.inl b) else .inl ((k : Int) + 1))) (he : f (n : Int) = some (.inr (.inr ()))) :
    loopO f 0 = some (if ∃ k, k < n ∧ p k then .inl b else .inr ()) := by
  have : ∀ m k : Nat, k + m = n → loopO f (k : Int) = some (if ∃ j, k ≤ j ∧ j < n ∧ p j then .inl b else .inr ()) := by
    intro m
    induction m with
    | zero =>
      intro k hk
      have : k = n := by omega
      subst this
      rw [loopO_inr he, if_neg (fun ⟨j, h1, h2, _⟩ => absurd h1 (by omega))]
    | succ m ih =>
      intro k hk
      have h1 := h k (by omega)
      by_cases hp : p k
      · rw [if_pos hp] at h1
        rw [loopO_inr h1, if_pos ⟨k, Nat.le_refl _, by omega, hp⟩]
      · rw [if_neg hp] at h1
        rw [loopO_inl h1]
        have := ih (k + 1) (by omega)
        rw [show ((k : Int) + 1) = ((k + 1 : Nat) : Int) by omega, this]
        by_cases ha : ∃ j, k + 1 ≤ j ∧ j < n ∧ p j
        · obtain ⟨j, h1, h2, h3⟩ := ha
          rw [if_pos ⟨j, h1, h2, h3⟩, if_pos ⟨j, by omega, h2, h3⟩]
        · rw [if_neg ha, if_neg]
          rintro ⟨j, h1, h2, h3⟩
          by_cases e : j = k
          · subst e; exact hp h3
          · exact ha ⟨j, by omega, h2, h3⟩
  have := this n 0 (by omega)
  simpa using this
/-- A list grown place by place. -/
theorem loopO_grow {α : Type} {f : List α × Int → Option ((List α × Int) ⊕ List α)} (n : Nat) (g : Nat → List α)
    (h : ∀ k : Nat, k < n → f ((List.range k).flatMap g, (k : Int)) = some (.inl ((List.range k).flatMap g ++ g k, (k : Int) + 1)))
    (he : f ((List.range n).flatMap g, (n : Int)) = some (.inr ((List.range n).flatMap g))) :
    loopO f ([], 0) = some ((List.range n).flatMap g) := by
  refine loopO_for (inv := fun k => ((List.range k).flatMap g, (k : Int))) n (fun k hk => ?_) he
  rw [h k hk]
  simp [List.range_succ]
theorem grow_len {α : Type} (g : Nat → List α) (m : Nat) (hg : ∀ k, (g k).length ≤ m) : ∀ k, ((List.range k).flatMap g).length ≤ k * m
  | 0 => by simp
  | k + 1 => by
    have := grow_len g m hg k
    have := hg k
    simp only [List.range_succ, List.flatMap_append, List.flatMap_cons, List.flatMap_nil, List.append_nil, List.length_append, Nat.add_mul, Nat.one_mul]
    omega
/-- A list turned place by place. -/
theorem loopO_turn {α : Type} {f : Int × List α → Option ((Int × List α) ⊕ List α)} (l : List α) (g : Nat → α)
    (h : ∀ (k : Nat) (pre post : List α) (x : α), k < l.length → pre.length = k → l[k]? = some x → f ((k : Int), pre ++ x :: post) = some (.inl ((k : Int) + 1, pre ++ g k :: post)))
    (he : ∀ l', f ((l.length : Int), l') = some (.inr l')) :
    loopO f (0, l) = some ((List.range l.length).map g) := by
  have : ∀ m k : Nat, k + m = l.length → loopO f ((k : Int), (List.range k).map g ++ l.drop k) = some ((List.range l.length).map g) := by
    intro m
    induction m with
    | zero =>
      intro k hk
      have hk : k = l.length := by omega
      subst hk
      rw [loopO_inr (he _)]
      simp
    | succ m ih =>
      intro k hk
      have hlt : k < l.length := by omega
      rw [List.drop_eq_getElem_cons hlt, loopO_inl (h k _ _ _ hlt (by simp) (List.getElem?_eq_getElem hlt))]
      have := ih (k + 1) (by omega)
      rw [List.range_succ, List.map_append] at this
      simpa using this
  have := this l.length 0 (by omega)
  simpa using this
theorem mod_mid {α : Type} (pre post : List α) (x : α) (k : Nat) (u : α → α) (hk : pre.length = k) : mod? (pre ++ x :: post) k u = some (pre ++ u x :: post) := by
  subst hk
  rw [mod_some _ _ _ (by simp)]
  simp
theorem idx_get {α : Type} {l : List α} {k : Nat} {x : α} (h : l[k]? = some x) : idx? l (k : Int) = some x := by
  obtain ⟨hk, e⟩ := List.getElem?_eq_some_iff.1 h
  rw [idx_nat _ _ hk, e]
open Classical in
theorem loopO_alls {α : Type} {f : Int → Option (Int ⊕ (Bool ⊕ Unit))} (l : List α) (p : α → Prop)
    (h : ∀ (k : Nat) (x : α), k < l.length → l[k]? = some x → f (k : Int) = some (if p x then .inl ((k : Int) + 1) else .inr (.inl false)))
    (he : f (l.length : Int) = some (.inr (.inr ()))) : loopO f 0 = some (if ∀ x ∈ l, p x then .inr () else .inl false) := by
  rw [loopO_all l.length (fun k => ∀ x, l[k]? = some x → p x) (fun k hk => ?_) he]
  · have : (∀ k, k < l.length → ∀ x, l[k]? = some x → p x) ↔ ∀ x ∈ l, p x := by
      constructor
      · intro h x hx
        obtain ⟨k, hk, e⟩ := List.getElem_of_mem hx
        exact h k hk x (List.getElem?_eq_some_iff.2 ⟨hk, e⟩)
      · intro h k hk x hx
        exact h x (List.mem_of_getElem? hx)
    by_cases hp : ∀ x ∈ l, p x
    · rw [if_pos hp, if_pos (this.2 hp)]
    · rw [if_neg hp, if_neg fun hh => hp (this.1 hh)]
  · have e := List.getElem?_eq_getElem hk
    rw [h k _ hk e]
    by_cases hp : p l[k]
    · rw [if_pos hp, if_pos (fun x hx => by rw [e] at hx; cases hx; exact hp)]
    · rw [if_neg hp, if_neg (fun hh => hp (hh _ e))]
open Classical in
theorem loopO_anys {α β : Type} {f : Int → Option (Int ⊕ (β ⊕ Unit))} (l : List α) (p : α → Prop) (b : β)
    (h : ∀ (k : Nat) (x : α), k < l.length → l[k]? = some x → f (k : Int) = some (if p x then .inr (.inl b) else .inl ((k : Int) + 1)))
    (he : f (l.length : Int) = some (.inr (.inr ()))) : loopO f 0 = some (if ∃ x ∈ l, p x then .inl b else .inr ()) := by
  rw [loopO_any l.length (fun k => ∃ x, l[k]? = some x ∧ p x) b (fun k hk => ?_) he]
  · have : (∃ k, k < l.length ∧ ∃ x, l[k]? = some x ∧ p x) ↔ ∃ x ∈ l, p x := by
      constructor
      · rintro ⟨k, hk, x, hx, hp⟩
        exact ⟨x, List.mem_of_getElem? hx, hp⟩
      · rintro ⟨x, hx, hp⟩
        obtain ⟨k, hk, e⟩ := List.getElem_of_mem hx
        exact ⟨k, hk, x, List.getElem?_eq_some_iff.2 ⟨hk, e⟩, hp⟩
    by_cases hp : ∃ x ∈ l, p x
    · rw [if_pos hp, if_pos (this.2 hp)]
    · rw [if_neg hp, if_neg fun hh => hp (this.1 hh)]
  · have e := List.getElem?_eq_getElem hk
    rw [h k _ hk e]
    by_cases hp : p l[k]
    · rw [if_pos hp, if_pos ⟨_, e, hp⟩]
    · rw [if_neg hp, if_neg]
      rintro ⟨x, hx, hh⟩
      rw [e] at hx; cases hx; exact hp hh
/-- A list grown out of another one's places, from a place on. -/
theorem loopO_growl {α β : Type} {f : List β × Int → Option ((List β × Int) ⊕ List β)} (l : List α) (g : α → List β) (hg : ∀ x, (g x).length ≤ 1)
    (h : ∀ (k : Nat) (x : α) (out : List β), k < l.length → l[k]? = some x → out.length ≤ k → f (out, (k : Int)) = some (.inl (out ++ g x, (k : Int) + 1)))
    (he : ∀ out, f (out, (l.length : Int)) = some (.inr out)) :
    ∀ (m k : Nat) (out : List β), k + m = l.length → out.length ≤ k → loopO f (out, (k : Int)) = some (out ++ (l.drop k).flatMap g)
  | 0, k, out, hk, ho => by
    have hk : k = l.length := by omega
    subst hk
    rw [loopO_inr (he _)]; simp
  | m + 1, k, out, hk, ho => by
    have hlt : k < l.length := by omega
    rw [loopO_inl (h k _ _ hlt (List.getElem?_eq_getElem hlt) ho), List.drop_eq_getElem_cons hlt, List.flatMap_cons]
    have := loopO_growl l g hg h he m (k + 1) (out ++ g l[k]) (by omega) (by have := hg l[k]; simp only [List.length_append]; omega)
    rw [show ((k : Int) + 1) = ((k + 1 : Nat) : Int) by omega, this, List.append_assoc]
open Classical in
/-- Two lists held against one another. -/
theorem loopO_eqs {α : Type} {f : Int → Option (Int ⊕ (Bool ⊕ Unit))} (l1 l2 : List α) (hl : l1.length = l2.length)
    (h : ∀ (k : Nat) (x y : α), k < l1.length → l1[k]? = some x → l2[k]? = some y → f (k : Int) = some (if x = y then .inl ((k : Int) + 1) else .inr (.inl false)))
    (he : f (l1.length : Int) = some (.inr (.inr ()))) : loopO f 0 = some (if l1 = l2 then .inr () else .inl false) := by
  have e := loopO_all (f := f) l1.length (fun k => l1[k]? = l2[k]?) (fun k hk => ?_) he
  · rw [e]
    by_cases hh : l1 = l2
    · subst hh
      rw [if_pos rfl, if_pos fun k hk => rfl]
    · rw [if_neg hh, if_neg]
      intro ha
      apply hh
      apply List.ext_getElem hl
      intro k h1 h2
      have := ha k h1
      rw [List.getElem?_eq_getElem h1, List.getElem?_eq_getElem h2] at this
      exact Option.some.inj this
  · have h1 := List.getElem?_eq_getElem hk
    have h2 := List.getElem?_eq_getElem (show k < l2.length by omega)
    rw [h k _ _ hk h1 h2, h1, h2]
    by_cases hh : l1[k] = l2[k]
    · rw [if_pos hh, if_pos (by rw [hh])]
    · rw [if_neg hh, if_neg (fun e => hh (Option.some.inj e))]
end Go.Proofs.PF
namespace Go.Proofs.YtchbgcbdkhbilaaDoor
open Go.Proofs.PF
def GDeliver.In (x : GDeliver) : Prop := I64 x.From ∧ I64 x.Slot ∧ I64 x.Cycle ∧ SL x.Text
theorem GDeliver.dec : Dec [.i .i64, .i .i64, .i .i64, .s] true GDeliver.av GDeliver.In := by
  intro cs h
  obtain ⟨x0, _, rfl, p0, h⟩ := Dec.i64.cons h
  obtain ⟨x1, _, rfl, p1, h⟩ := Dec.i64.cons h
  obtain ⟨x2, _, rfl, p2, h⟩ := Dec.i64.cons h
  obtain ⟨x3, _, rfl, p3, h⟩ := Dec.str.cons h
  obtain rfl := wfcs_nil h
  exact ⟨⟨x0, x1, x2, x3⟩, rfl, p0, p1, p2, p3⟩
def GReport.In (x : GReport) : Prop := True ∧ True ∧ I64 x.Number ∧ I64 x.Slot ∧ SL x.Members ∧ I64 x.Sent ∧ (SL x.Got ∧ ∀ z0 ∈ x.Got, GDeliver.In z0)
theorem GReport.dec : Dec [.b, .b, .i .i64, .i .i64, .s, .i .i64, .l [.i .i64, .i .i64, .i .i64, .s] true] true GReport.av GReport.In := by
  intro cs h
  obtain ⟨x0, _, rfl, p0, h⟩ := Dec.bool.cons h
  obtain ⟨x1, _, rfl, p1, h⟩ := Dec.bool.cons h
  obtain ⟨x2, _, rfl, p2, h⟩ := Dec.i64.cons h
  obtain ⟨x3, _, rfl, p3, h⟩ := Dec.i64.cons h
  obtain ⟨x4, _, rfl, p4, h⟩ := Dec.str.cons h
  obtain ⟨x5, _, rfl, p5, h⟩ := Dec.i64.cons h
  obtain ⟨x6, _, rfl, p6, h⟩ := (Dec.list GDeliver.dec).cons h
  obtain rfl := wfcs_nil h
  exact ⟨⟨x0, x1, x2, x3, x4, x5, x6⟩, rfl, p0, p1, p2, p3, p4, p5, p6⟩
def GCycle.In (x : GCycle) : Prop := I64 x.At ∧ I64 x.Number ∧ SL x.Members ∧ True ∧ (SL x.Got ∧ ∀ z0 ∈ x.Got, GDeliver.In z0)
theorem GCycle.dec : Dec [.i .i64, .i .i64, .s, .b, .l [.i .i64, .i .i64, .i .i64, .s] true] true GCycle.av GCycle.In := by
  intro cs h
  obtain ⟨x0, _, rfl, p0, h⟩ := Dec.i64.cons h
  obtain ⟨x1, _, rfl, p1, h⟩ := Dec.i64.cons h
  obtain ⟨x2, _, rfl, p2, h⟩ := Dec.str.cons h
  obtain ⟨x3, _, rfl, p3, h⟩ := Dec.bool.cons h
  obtain ⟨x4, _, rfl, p4, h⟩ := (Dec.list GDeliver.dec).cons h
  obtain rfl := wfcs_nil h
  exact ⟨⟨x0, x1, x2, x3, x4⟩, rfl, p0, p1, p2, p3, p4⟩
def GVerdict.In (x : GVerdict) : Prop := I64 x.Ticks ∧ I64 x.Last ∧ I64 x.Settled ∧ I64 x.All ∧ I64 x.Cycles ∧ I64 x.Faults.a0 ∧ I64 x.Faults.a1 ∧ I64 x.Faults.a2 ∧ I64 x.Faults.a3 ∧ I64 x.Faults.a4
theorem GVerdict.dec : Dec [.i .i64, .i .i64, .i .i64, .i .i64, .i .i64, .i .i64, .i .i64, .i .i64, .i .i64, .i .i64] true GVerdict.av GVerdict.In := by
  intro cs h
  obtain ⟨x0, _, rfl, p0, h⟩ := Dec.i64.cons h
  obtain ⟨x1, _, rfl, p1, h⟩ := Dec.i64.cons h
  obtain ⟨x2, _, rfl, p2, h⟩ := Dec.i64.cons h
  obtain ⟨x3, _, rfl, p3, h⟩ := Dec.i64.cons h
  obtain ⟨x4, _, rfl, p4, h⟩ := Dec.i64.cons h
  obtain ⟨x5, _, rfl, p5, h⟩ := Dec.i64.cons h
  obtain ⟨x6, _, rfl, p6, h⟩ := Dec.i64.cons h
  obtain ⟨x7, _, rfl, p7, h⟩ := Dec.i64.cons h
  obtain ⟨x8, _, rfl, p8, h⟩ := Dec.i64.cons h
  obtain ⟨x9, _, rfl, p9, h⟩ := Dec.i64.cons h
  obtain rfl := wfcs_nil h
  exact ⟨⟨x0, x1, x2, x3, x4, ⟨x5, x6, x7, x8, x9⟩⟩, rfl, p0, p1, p2, p3, p4, p5, p6, p7, p8, p9⟩
def GRound.In (x : GRound) : Prop := I64 x.Number ∧ SL x.Members ∧ (SL x.Lines ∧ ∀ z0 ∈ x.Lines, SL z0) ∧ (SL x.Got ∧ ∀ z0 ∈ x.Got, (SL z0 ∧ ∀ z1 ∈ z0, GDeliver.In z1))
theorem GRound.dec : Dec [.i .i64, .s, .l [.s] false, .l [.l [.i .i64, .i .i64, .i .i64, .s] true] false] true GRound.av GRound.In := by
  intro cs h
  obtain ⟨x0, _, rfl, p0, h⟩ := Dec.i64.cons h
  obtain ⟨x1, _, rfl, p1, h⟩ := Dec.str.cons h
  obtain ⟨x2, _, rfl, p2, h⟩ := (Dec.list Dec.str).cons h
  obtain ⟨x3, _, rfl, p3, h⟩ := (Dec.list (Dec.list GDeliver.dec)).cons h
  obtain rfl := wfcs_nil h
  exact ⟨⟨x0, x1, x2, x3⟩, rfl, p0, p1, p2, p3⟩
end Go.Proofs.YtchbgcbdkhbilaaDoor
set_option linter.unusedVariables false
set_option linter.unusedSimpArgs false
namespace Go.Proofs.YtchbgcbdkhbilaaDoor
open Go.Proofs.PF
theorem lenMax_eq : lenMax = 4294967296 := rfl
theorem wrI {n m : Int} (h : n = m) (h1 : -9223372036854775808 ≤ m ∧ m ≤ 9223372036854775807) : wr n = m := by subst h; exact wr_eq h1
/-! ### Rows -/
/-- What each of a list's items gives, its place told. -/
def rows {α β : Type} (t : Nat → α → List β) : Nat → List α → List β
  | _, [] => []
  | k, x :: r => t k x ++ rows t (k + 1) r
theorem rows_flat {α β : Type} (g : α → List β) : ∀ (l : List α) (k : Nat), rows (fun _ x => g x) k l = l.flatMap g
  | [], _ => rfl
  | x :: r, k => by rw [rows, rows_flat g r, List.flatMap_cons]
theorem rows_mem {α β : Type} {t : Nat → α → List β} {p : β → Prop} : ∀ {l : List α} {k : Nat}, (∀ j, ∀ x ∈ l, ∀ b ∈ t j x, p b) → ∀ b ∈ rows t k l, p b
  | [], _, _, b, hb => by cases hb
  | x :: r, k, h, b, hb => by
    rcases List.mem_append.1 hb with hb | hb
    · exact h k x (by simp) b hb
    · exact rows_mem (fun j y hy => h j y (List.mem_cons_of_mem _ hy)) b hb
theorem loopO_rows {α β σ ρ : Type} {f : σ → Option (σ ⊕ ρ)} (st : List β → Int → σ) (re : List β → ρ) (l : List α) (t : Nat → α → List β) (B : Nat)
    (h : ∀ (k : Nat) x s, k < l.length → l[k]? = some x → s.length + (t k x).length ≤ B → f (st s (k : Int)) = some (.inl (st (s ++ t k x) ((k : Int) + 1))))
    (he : ∀ s, f (st s (l.length : Int)) = some (.inr (re s))) (s0 : List β) (hB : s0.length + (rows t 0 l).length ≤ B) : loopO f (st s0 0) = some (re (s0 ++ rows t 0 l)) := by
  have : ∀ (j k : Nat) (s : List β), k + j = l.length → s.length + (rows t k (l.drop k)).length ≤ B → loopO f (st s (k : Int)) = some (re (s ++ rows t k (l.drop k))) := by
    intro j
    induction j with
    | zero =>
      intro k s hk _
      have : k = l.length := by omega
      subst this
      rw [loopO_inr (he s)]
      simp [rows]
    | succ j ih =>
      intro k s hk hs
      have hlt : k < l.length := by omega
      rw [List.drop_eq_getElem_cons hlt, rows] at hs ⊢
      rw [List.length_append] at hs
      rw [loopO_inl (h k _ s hlt (List.getElem?_eq_getElem hlt) (by omega)), show ((k : Int) + 1) = ((k + 1 : Nat) : Int) by omega, ih (k + 1) _ (by omega) (by rw [List.length_append]; omega), List.append_assoc]
  have := this l.length 0 s0 (by omega) (by simpa using hB)
  simpa using this
/-! ### Numbers -/
theorem dig_len : ∀ (k u : Nat), u < 10 ^ (k + 1) → (Lib.decDigits u).length ≤ k + 1 := by
  intro k
  induction k with
  | zero => intro u h; rw [Lib.decDigits, dif_pos (by omega)]; simp
  | succ k ih =>
    intro u h
    rw [Lib.decDigits]
    split
    · simp
    · rw [List.length_append]
      have := ih (u / 10) (by rw [Nat.pow_succ] at h; omega)
      simp; omega
theorem dig_pos (u : Nat) : 0 < (Lib.decDigits u).length := by
  rw [Lib.decDigits]
  split <;> simp
theorem dig_mem : ∀ (u : Nat), ∀ b ∈ Lib.decDigits u, 48 ≤ b.toNat ∧ b.toNat ≤ 57 := by
  intro u
  induction u using Nat.strongRecOn with
  | _ u ih =>
    intro b hb
    rw [Lib.decDigits] at hb
    have one : ∀ d, d < 10 → 48 ≤ (UInt8.ofNat (48 + d)).toNat ∧ (UInt8.ofNat (48 + d)).toNat ≤ 57 := by
      intro d hd
      rw [UInt8.toNat_ofNat']
      omega
    split at hb
    · rename_i h
      simp only [List.mem_singleton] at hb
      subst hb
      exact one u h
    · rcases List.mem_append.1 hb with hb | hb
      · exact ih (u / 10) (by omega) b hb
      · simp only [List.mem_singleton] at hb
        subst hb
        exact one _ (by omega)
/-- A numeral's number. -/
def numOf (l : List UInt8) : Nat := l.foldl (fun a b => 10 * a + (b.toNat - 48)) 0
theorem numOf_dig : ∀ (u : Nat), numOf (Lib.decDigits u) = u := by
  intro u
  induction u using Nat.strongRecOn with
  | _ u ih =>
    rw [Lib.decDigits]
    split
    · rename_i h
      simp only [numOf, List.foldl_cons, List.foldl_nil, UInt8.toNat_ofNat']
      omega
    · have := ih (u / 10) (by omega)
      simp only [numOf, List.foldl_append, List.foldl_cons, List.foldl_nil, UInt8.toNat_ofNat'] at this ⊢
      rw [this]
      omega
theorem dig_inj {u v : Nat} (h : Lib.decDigits u = Lib.decDigits v) : u = v := by rw [← numOf_dig u, h, numOf_dig]
theorem itoa_len {n : Int} (h : I64 n) : (Lib.itoa n).length ≤ 20 := by
  unfold Lib.itoa
  have h1 := h.1
  have h2 := h.2
  split
  · have := dig_len 18 n.natAbs (by omega)
    simp; omega
  · have := dig_len 18 n.toNat (by omega)
    omega
theorem itoa_mem (n : Int) : ∀ b ∈ Lib.itoa n, b = 45 ∨ (48 ≤ b.toNat ∧ b.toNat ≤ 57) := by
  intro b hb
  unfold Lib.itoa at hb
  split at hb
  · rcases List.mem_cons.1 hb with rfl | hb
    · exact .inl rfl
    · exact .inr (dig_mem _ b hb)
  · exact .inr (dig_mem _ b hb)
theorem itoa_inj {n m : Int} (h : Lib.itoa n = Lib.itoa m) : n = m := by
  have no : ∀ u (l : List UInt8), Lib.decDigits u ≠ 45 :: l := by
    intro u l e
    have := dig_mem u 45 (by rw [e]; simp)
    simp at this
  unfold Lib.itoa at h
  split at h
  · split at h
    · simp only [List.cons.injEq, true_and] at h
      have := dig_inj h
      omega
    · exact absurd h.symm (no _ _)
  · split at h
    · exact absurd h (no _ _)
    · have := dig_inj h
      omega
theorem Itoa_eq {n : Int} (h : I64 n) : strconv_Itoa n = some (Lib.itoa n) := by
  unfold strconv_Itoa
  exact if_pos h
theorem dd {m : Nat} (h : ¬ m < 10) : Lib.decDigits m = Lib.decDigits (m / 10) ++ [UInt8.ofNat (48 + m % 10)] := by rw [Lib.decDigits, dif_neg h]
theorem byte_dig (d : Nat) (h : d < 10) : r01_Byte (wr (48 + (d : Int))) = some [UInt8.ofNat (48 + d)] := by
  unfold r01_Byte
  rw [wrI rfl (by omega), w8_eq (by omega)]
  simp only [bytesOf, List.map_cons, List.map_nil]
  rw [show (48 + (d : Int)).toNat = 48 + d by omega]
theorem body_eq (f : Int → Option (List UInt8)) (n : Int) (h : I64 n) (hf : 10 ≤ n.natAbs → f (Int.tdiv n 10) = some (Lib.itoa (Int.tdiv n 10))) : r42_number_body f n = some (Lib.itoa n) := by
  have h1 := h.1
  have h2 := h.2
  unfold r42_number_body
  by_cases c0 : n < 0
  · obtain ⟨m, rfl⟩ : ∃ m : Nat, n = -(m : Int) := ⟨n.natAbs, by omega⟩
    have e1 : Int.tdiv (-(m : Int)) 10 = -((m / 10 : Nat) : Int) := by rw [Int.neg_tdiv, Int.tdiv_eq_ediv_of_nonneg (by omega)]; omega
    have e2 : Int.tmod (-(m : Int)) 10 = -((m % 10 : Nat) : Int) := by rw [Int.neg_tmod, Int.tmod_eq_emod_of_nonneg (by omega)]; omega
    rw [Lib.itoa_neg m (by omega)]
    by_cases c1 : m < 10
    · rw [if_pos (by omega), if_pos c0, show (48 - -(m : Int)) = 48 + (m : Int) by omega, byte_dig m c1, Option.bind_some, if_pos (by simp), Lib.decDigits, dif_pos c1]
      rfl
    · have hf' := hf (by omega)
      rw [e1] at hf'
      rw [if_neg (by omega), if_neg (by omega), e1, e2, wrI rfl (by omega), hf', Lib.itoa_neg _ (by omega)]
      have hl := dig_len 18 (m / 10) (by omega)
      have fin : ∀ (K : Option (List UInt8)), (K = some [UInt8.ofNat (48 + m % 10)]) → ((some (45 :: Lib.decDigits (m / 10))).bind fun r7 => K.bind fun r8 => if List.length r7 + List.length r8 ≤ 9223372036854775807 then some (r7 ++ r8) else none) = some (45 :: Lib.decDigits m) := by
        rintro K rfl
        rw [Option.bind_some, Option.bind_some, if_pos (by simp; omega), dd c1]
        rfl
      split
      · rw [wrap64 (by omega), show (0 - -((m % 10 : Nat) : Int)) = ((m % 10 : Nat) : Int) by omega]
        exact fin _ (byte_dig (m % 10) (by omega))
      · have e0 : m % 10 = 0 := by omega
        rw [show (48 + -((m % 10 : Nat) : Int)) = 48 + ((m % 10 : Nat) : Int) by omega]
        exact fin _ (byte_dig (m % 10) (by omega))
  · obtain ⟨m, rfl⟩ : ∃ m : Nat, n = (m : Int) := ⟨n.toNat, by omega⟩
    have e1 : Int.tdiv (m : Int) 10 = ((m / 10 : Nat) : Int) := by rw [Int.tdiv_eq_ediv_of_nonneg (by omega)]; omega
    have e2 : Int.tmod (m : Int) 10 = ((m % 10 : Nat) : Int) := by rw [Int.tmod_eq_emod_of_nonneg (by omega)]; omega
    rw [Lib.itoa_nonneg]
    rw [if_pos (by omega), if_neg c0, if_pos (by omega)]
    by_cases c1 : m < 10
    · rw [if_pos (by omega), byte_dig m c1, Option.bind_some, Lib.decDigits, dif_pos c1]
    · have hf' := hf (by omega)
      rw [e1, Lib.itoa_nonneg] at hf'
      have hl := dig_len 18 (m / 10) (by omega)
      rw [if_neg (by omega), e2, if_neg (by omega), e1, wrI rfl (by omega), hf', Option.bind_some, byte_dig (m % 10) (by omega), Option.bind_some, if_pos (by simp; omega), dd c1]
theorem number_iter : ∀ (k : Nat) (n : Int), I64 n → n.natAbs < 10 ^ (k + 1) → ∀ m, k < m → iterO (fun r (p : Int) => r42_number_body (fun n0 => r n0) p) m n = some (Lib.itoa n) := by
  intro k
  induction k with
  | zero =>
    intro n h hk m hm
    obtain ⟨m, rfl⟩ : ∃ j, m = j + 1 := ⟨m - 1, by omega⟩
    exact body_eq _ n h fun hh => absurd hh (by omega)
  | succ k ih =>
    intro n h hk m hm
    obtain ⟨m, rfl⟩ : ∃ j, m = j + 1 := ⟨m - 1, by omega⟩
    have h1 := h.1
    have h2 := h.2
    have e : (Int.tdiv n 10).natAbs = n.natAbs / 10 := by rw [Int.natAbs_tdiv]; rfl
    refine body_eq _ n h fun hh => ih _ ⟨by omega, by omega⟩ ?_ m (by omega)
    rw [e]
    rw [Nat.pow_succ] at hk
    omega
theorem number_eq {n : Int} (h : I64 n) : r42_number n = some (Lib.itoa n) := by
  have h1 := h.1
  have h2 := h.2
  have := le_recN
  exact number_iter 18 n h (by omega) recN (by omega)
/-! ### Words -/
def hd (k : Nat) : UInt8 := ([48, 49, 50, 51, 52, 53, 54, 55, 56, 57, 97, 98, 99, 100, 101, 102] : List UInt8).getD k 0
def hx (b : UInt8) : List UInt8 := [hd (b.toNat / 16), hd (b.toNat % 16)]
def word (s : List UInt8) : List UInt8 := if s = [] then [45] else s.flatMap hx
theorem hd_idx : ∀ k : Fin 16, idx? ([48, 49, 50, 51, 52, 53, 54, 55, 56, 57, 97, 98, 99, 100, 101, 102] : List UInt8) (k.val : Int) = some (hd k.val) := by decide
theorem hd_at {k : Nat} (h : k < 16) : idx? ([48, 49, 50, 51, 52, 53, 54, 55, 56, 57, 97, 98, 99, 100, 101, 102] : List UInt8) (k : Int) = some (hd k) := hd_idx ⟨k, h⟩
theorem hx_len (s : List UInt8) : (s.flatMap hx).length = 2 * s.length := by
  induction s with
  | nil => rfl
  | cons b s ih => rw [List.flatMap_cons, List.length_append, ih, List.length_cons]; simp [hx]; omega
theorem word_len (s : List UInt8) : (word s).length ≤ 2 * s.length + 1 := by
  unfold word
  split
  · simp
  · rw [hx_len]; omega
theorem u8_lt (b : UInt8) : b.toNat < 256 := b.toNat_lt
theorem shr4 (b : UInt8) : shrI .u8 (b.toNat : Int) 4 = ((b.toNat / 16 : Nat) : Int) := by
  show (b.toNat : Int).fdiv (2 ^ min (4 : Int).toNat IntKind.u8.bits) = _
  rw [show (2 : Int) ^ min (4 : Int).toNat IntKind.u8.bits = 16 by decide, Int.fdiv_eq_ediv_of_nonneg _ (by decide)]
  omega
theorem and15 (b : UInt8) : andI .u8 (b.toNat : Int) 15 = ((b.toNat % 16 : Nat) : Int) := by
  have all : ∀ k : Fin 256, andI .u8 (k.val : Int) 15 = ((k.val % 16 : Nat) : Int) := by decide +kernel
  exact all ⟨b.toNat, u8_lt b⟩
theorem ints_hx (b : UInt8) : [((hd (b.toNat / 16)).toNat : Int), ((hd (b.toNat % 16)).toNat : Int)] = intsOf (hx b) := rfl
theorem bytes_ints (s : List UInt8) : bytesOf (intsOf s) = s := by
  simp only [bytesOf, intsOf, List.map_map]
  refine (List.map_congr_left fun b _ => ?_).trans (List.map_id s)
  show UInt8.ofNat ((b.toNat : Int)).toNat = b
  simp
theorem ints_app (a b : List UInt8) : intsOf (a ++ b) = intsOf a ++ intsOf b := by simp [intsOf]
theorem ints_flat (s : List UInt8) : s.flatMap (fun b => intsOf (hx b)) = intsOf (s.flatMap hx) := by
  induction s with
  | nil => rfl
  | cons b s ih => rw [List.flatMap_cons, List.flatMap_cons, ih, ints_app]
theorem put_eq (l out : List Int) (h : out.length + l.length ≤ lenMax) : lines_writer_put l (Glines_writer.mk out) = some (Glines_writer.mk (out ++ l)) := by
  unfold lines_writer_put
  rw [if_pos h]
theorem word0_eq (s : List UInt8) (out : List Int) (h : out.length + 2 * s.length ≤ 1000000000) : lines_writer_word_0 s (List.length s : Int) 0 (Glines_writer.mk out) = some (Glines_writer.mk (out ++ intsOf (s.flatMap hx))) := by
  unfold lines_writer_word_0
  have := loopO_rows (f := fun s_1 : Int × Glines_writer => lines_writer_word_0_step s (List.length s : Int) s_1.1 s_1.2) (fun o i => (i, Glines_writer.mk o)) Glines_writer.mk s (fun _ b => intsOf (hx b)) 1000000000
    (fun k b o hk hb hl => by
      show lines_writer_word_0_step _ _ _ _ = _
      unfold lines_writer_word_0_step
      have hl' : o.length + 2 ≤ 1000000000 := hl
      have l := u8_lt b
      rw [if_pos (by omega), idx_get hb, Option.bind_some, shr4, hd_at (by omega), Option.bind_some, Option.bind_some, and15, hd_at (by omega), Option.bind_some, put_eq _ _ (by rw [lenMax_eq]; simp; omega), Option.bind_some, ints_hx]
      rw [wrI rfl (by omega)])
    (fun o => by
      show lines_writer_word_0_step _ _ _ _ = _
      unfold lines_writer_word_0_step
      rw [if_neg (by omega)]) out (by rw [rows_flat, ints_flat]; simp only [intsOf, List.length_map, hx_len]; exact h)
  rw [rows_flat, ints_flat] at this
  exact this
theorem Word_eq (s : List UInt8) (h : s.length ≤ 100000000) : lines_Word s = some (word s) := by
  unfold lines_Word lines_writer_word word
  by_cases e : s = []
  · subst e
    rw [if_pos rfl, put_eq _ _ (by rw [lenMax_eq]; simp), Option.bind_some, word0_eq [] _ (by simp)]
    rfl
  · rw [if_neg e, if_neg e, show lines_writer_word_0a = lines_writer_word_0 from rfl, word0_eq s _ (by simp; omega), Option.bind_some, Option.bind_some]
    simp only [List.nil_append, bytes_ints]
theorem hex_eq (s : List UInt8) (h : s.length ≤ 100000000) : r40_Word s = some (word s) := by
  unfold r40_Word r40_hex word
  by_cases e : s = []
  · subst e; rfl
  · rw [if_neg e, if_neg e, wrI rfl (by omega), if_pos ⟨by omega, by rw [lenMax_eq]; omega⟩]
    have := loopO_rows (f := fun s_1 : List Int × Int => r40_hex_0_step s ([48, 49, 50, 51, 52, 53, 54, 55, 56, 57, 97, 98, 99, 100, 101, 102] : List UInt8) s_1.1 s_1.2) (fun o i => (o, i)) id s (fun _ b => intsOf (hx b)) 1000000000
      (fun k b o hk hb hl => by
        show r40_hex_0_step _ _ _ _ = _
        unfold r40_hex_0_step
        have hl' : o.length + 2 ≤ 1000000000 := hl
        have l := u8_lt b
        have e1 : IntKind.wrap .u8 (Int.tdiv (b.toNat : Int) 16) = ((b.toNat / 16 : Nat) : Int) := by
          rw [Int.tdiv_eq_ediv_of_nonneg (by omega)]
          simp only [IntKind.wrap, IntKind.bits, IntKind.signed]
          simp
          omega
        have e2 : Int.tmod (b.toNat : Int) 16 = ((b.toNat % 16 : Nat) : Int) := by rw [Int.tmod_eq_emod_of_nonneg (by omega)]; omega
        rw [if_pos (by omega), idx_get hb, Option.bind_some, e1, hd_at (by omega), Option.bind_some, Option.bind_some, e2, hd_at (by omega), Option.bind_some, if_pos (by rw [lenMax_eq]; simp; omega), ints_hx]
        rw [wrI rfl (by omega)])
      (fun o => by
        show r40_hex_0_step _ _ _ _ = _
        unfold r40_hex_0_step
        rw [if_neg (by omega)]
        rfl) [] (by rw [rows_flat, ints_flat]; simp only [intsOf, List.length_map, hx_len]; simp; omega)
    rw [rows_flat, ints_flat] at this
    unfold r40_hex_0
    rw [this, Option.bind_some, Option.bind_some]
    simp only [id, List.nil_append, bytes_ints]
end Go.Proofs.YtchbgcbdkhbilaaDoor
set_option linter.unusedVariables false
set_option linter.unusedSimpArgs false
namespace Go.Proofs.YtchbgcbdkhbilaaDoor
open Go.Proofs.PF
def flagT (b : Bool) : List UInt8 := if b then [121, 101, 115] else [110, 111]
def msg (d : GDeliver) : List UInt8 := Lib.itoa d.From ++ 58 :: (Lib.itoa d.Slot ++ 58 :: (Lib.itoa d.Cycle ++ 58 :: word d.Text))
def gotT (l : List GDeliver) : List UInt8 := l.flatMap fun d => 32 :: msg d
def DIn (d : GDeliver) : Prop := (I64 d.From ∧ I64 d.Slot ∧ I64 d.Cycle) ∧ d.Text.length ≤ 2000000
def gw (l : List GDeliver) : Nat := bkL (l.map GDeliver.av)
theorem gw_cons (d : GDeliver) (l : List GDeliver) : gw (d :: l) = d.Text.length + 4 + gw l := by
  simp only [gw, List.map_cons, bkL, bk]; omega
theorem gw_nil : gw [] = 0 := rfl
theorem gw_len : ∀ (l : List GDeliver), 4 * l.length ≤ gw l
  | [] => by simp [gw_nil]
  | d :: l => by have := gw_len l; rw [gw_cons, List.length_cons]; omega
theorem gw_mem {d : GDeliver} : ∀ {l : List GDeliver}, d ∈ l → d.Text.length ≤ gw l
  | x :: l, h => by
    rw [gw_cons]
    rcases List.mem_cons.1 h with rfl | h
    · omega
    · have := gw_mem h; omega
theorem msg_len {d : GDeliver} (h : DIn d) : (msg d).length ≤ 64 + 2 * d.Text.length := by
  obtain ⟨⟨h1, h2, h3⟩, -⟩ := h
  have := itoa_len h1
  have := itoa_len h2
  have := itoa_len h3
  have := word_len d.Text
  simp only [msg, List.length_append, List.length_cons]
  omega
theorem gotT_len : ∀ (l : List GDeliver), (∀ d ∈ l, DIn d) → (gotT l).length ≤ 17 * gw l
  | [], _ => by simp [gotT, gw_nil]
  | d :: l, h => by
    have := gotT_len l fun x hx => h x (List.mem_cons_of_mem _ hx)
    have := msg_len (h d (by simp))
    have e : gotT (d :: l) = 32 :: msg d ++ gotT l := rfl
    rw [gw_cons, e, List.length_append, List.length_cons]
    omega
theorem flag_eq (b : Bool) : show_flag b = some (flagT b) := by cases b <;> rfl
theorem flag_eq' (b : Bool) : r42_flag b = some (flagT b) := by cases b <;> rfl
theorem flag_len (b : Bool) : (flagT b).length ≤ 3 := by cases b <;> decide
theorem tail32 (c : UInt8) : ∀ (r : List (List UInt8)), Lib.joinTail [c] r = r.flatMap (c :: ·)
  | [] => rfl
  | x :: r => by
    have := tail32 c r
    simp only [Lib.joinTail] at this
    simp only [Lib.joinTail, List.map_cons, List.flatten_cons, List.flatMap_cons, this]
    rfl
theorem join_eq (c : UInt8) (w : List UInt8) (ws : List (List UInt8)) (hl : ws.length ≤ 100000000) (h : (w ++ ws.flatMap (c :: ·)).length ≤ 140737488355328) : strings_Join (w :: ws) [c] = some (w ++ ws.flatMap (c :: ·)) := by
  unfold strings_Join
  rw [Lib.join_cons, tail32, if_pos ⟨by simp; omega, h⟩]
theorem text_eq (w : List UInt8) (ws : List (List UInt8)) (hl : ws.length ≤ 100000000) (h : (w ++ ws.flatMap (32 :: ·)).length ≤ 140737488355328) : show_text (w :: ws) = some (w ++ ws.flatMap (32 :: ·)) := by
  unfold show_text
  rw [join_eq 32 w ws hl h]
  rfl
theorem line_eq (w : List UInt8) (ws : List (List UInt8)) (hl : ws.length ≤ 100000000) (h : (w ++ ws.flatMap (32 :: ·)).length ≤ 140737488355328) : show_line (w :: ws) = some (w ++ ws.flatMap (32 :: ·) ++ [10]) := by
  unfold show_line
  rw [text_eq w ws hl h, Option.bind_some, if_pos (by simp only [List.length_cons, List.length_nil]; omega)]
theorem message_eq {d : GDeliver} (h : DIn d) : show_message d = some (msg d) := by
  have hm := msg_len h
  have hh := h
  obtain ⟨⟨h1, h2, h3⟩, h4⟩ := h
  have e : Lib.itoa d.From ++ [Lib.itoa d.Slot, Lib.itoa d.Cycle, word d.Text].flatMap (58 :: ·) = msg d := by
    simp only [msg, List.flatMap_cons, List.flatMap_nil, List.append_nil, List.cons_append]
  unfold show_message
  rw [Itoa_eq h1, Option.bind_some, Itoa_eq h2, Option.bind_some, Itoa_eq h3, Option.bind_some, Word_eq _ (by omega), Option.bind_some, if_pos (by rw [lenMax_eq]; simp)]
  show (strings_Join (Lib.itoa d.From :: [Lib.itoa d.Slot, Lib.itoa d.Cycle, word d.Text]) [58]).bind _ = _
  rw [join_eq 58 _ _ (by simp) (by rw [e]; omega), e]
  rfl
theorem with_eq (w : List UInt8) (ws : List (List UInt8)) (got : List GDeliver) (hd : ∀ d ∈ got, DIn d) (hl : ws.length + got.length ≤ 10000000) (hj : (w ++ ws.flatMap (32 :: ·) ++ gotT got).length ≤ 140737488355328) :
    show_with (w :: ws) got = some (w ++ ws.flatMap (32 :: ·) ++ gotT got) := by
  have e1 : got.flatMap (fun d => [msg d]) = got.map msg := by
    clear hd hl hj
    induction got with
    | nil => rfl
    | cons d r ih => rw [List.flatMap_cons, ih]; rfl
  have := loopO_rows (f := fun s : List (List UInt8) × Int => show_with_0_step got (List.length got : Int) s.1 s.2) (fun o i => (o, i)) id got (fun _ d => [msg d]) 4294967296
    (fun k d o hk hb hl => by
      show show_with_0_step _ _ _ _ = _
      unfold show_with_0_step
      rw [if_pos (by omega), idx_get hb, Option.bind_some, message_eq (hd d (List.mem_of_getElem? hb)), Option.bind_some, if_pos (by rw [lenMax_eq]; exact hl), wrI rfl (by omega)])
    (fun o => by
      show show_with_0_step _ _ _ _ = _
      unfold show_with_0_step
      rw [if_neg (by omega)]
      rfl) (w :: ws) (by rw [rows_flat, e1]; simp; omega)
  rw [rows_flat, e1] at this
  unfold show_with show_with_0
  have e2 : (got.map msg).flatMap (32 :: ·) = gotT got := by
    simp only [gotT, List.flatMap_map]
  have e3 : w ++ (ws ++ got.map msg).flatMap (32 :: ·) = w ++ ws.flatMap (32 :: ·) ++ gotT got := by rw [List.flatMap_append, e2, List.append_assoc]
  rw [this, Option.bind_some, id, List.cons_append, text_eq w _ (by simp; omega) (by rw [e3]; exact hj), e3]
  rfl
theorem got_eq (l : List GDeliver) (hd : ∀ d ∈ l, DIn d) (hg : gw l ≤ 100000000) : r42_got l = some (gotT l) := by
  have hl := gotT_len l hd
  have hll := gw_len l
  have := loopO_rows (f := fun s : List UInt8 × Int => r42_got_0_step l s.1 s.2) (fun o i => (o, i)) id l (fun _ d => 32 :: msg d) 9223372036854775807
    (fun k d o hk hb hl => by
      show r42_got_0_step _ _ _ = _
      obtain ⟨⟨h1, h2, h3⟩, h4⟩ := hd d (List.mem_of_getElem? hb)
      simp only [msg, List.length_append, List.length_cons] at hl
      unfold r42_got_0_step
      simp only [idx_get hb, number_eq h1, number_eq h2, number_eq h3, hex_eq d.Text (by omega), Option.bind_some]
      rw [if_pos (by omega)]
      repeat rw [if_pos (by simp only [List.length_append, List.length_cons, List.length_nil]; omega)]
      rw [wrI rfl (by omega)]
      simp only [msg, List.append_assoc, List.cons_append, List.nil_append])
    (fun o => by
      show r42_got_0_step _ _ _ = _
      unfold r42_got_0_step
      rw [if_neg (by omega)]
      rfl) [] (by rw [rows_flat]; show 0 + (gotT l).length ≤ _; omega)
  rw [rows_flat] at this
  unfold r42_got r42_got_0
  rw [this]
  rfl
/-! ### Reports and cycles -/
def repT (r : GReport) : List UInt8 :=
  [112, 117, 108, 115, 101] ++ 32 :: (flagT r.Pulse ++ 32 :: ([115, 121, 110, 99] ++ 32 :: (flagT r.Sync ++ 32 :: ([110, 117, 109, 98, 101, 114] ++ 32 :: (Lib.itoa r.Number ++ 32 :: ([115, 108, 111, 116] ++ 32 :: (Lib.itoa r.Slot ++ 32 ::
    ([109, 101, 109, 98, 101, 114, 115] ++ 32 :: (word r.Members ++ 32 :: ([115, 101, 110, 116] ++ 32 :: (Lib.itoa r.Sent ++ gotT r.Got)))))))))))
def cycT (c : GCycle) : List UInt8 :=
  [99, 121, 99, 108, 101] ++ 32 :: (Lib.itoa c.At ++ 32 :: ([115, 121, 110, 99] ++ 32 :: (flagT c.Sync ++ 32 :: ([110, 117, 109, 98, 101, 114] ++ 32 :: (Lib.itoa c.Number ++ 32 :: ([109, 101, 109, 98, 101, 114, 115] ++ 32 :: (word c.Members ++ gotT c.Got)))))))
structure RIn (r : GReport) : Prop where
  n : I64 r.Number
  s : I64 r.Slot
  t : I64 r.Sent
  m : r.Members.length ≤ 2000000
  d : ∀ d ∈ r.Got, DIn d
  g : gw r.Got ≤ 2000000
structure CIn (c : GCycle) : Prop where
  a : I64 c.At
  n : I64 c.Number
  m : c.Members.length ≤ 2000000
  d : ∀ d ∈ c.Got, DIn d
  g : gw c.Got ≤ 2000000
theorem report_eq {r : GReport} (h : RIn r) : show_Report r = some (repT r) := by
  have l1 := itoa_len h.n
  have l2 := itoa_len h.s
  have l3 := itoa_len h.t
  have l4 := word_len r.Members
  have l5 := gotT_len r.Got h.d
  have l6 := flag_len r.Pulse
  have l7 := flag_len r.Sync
  have l8 := gw_len r.Got
  have h1 := h.m
  have h2 := h.g
  have e : ([112, 117, 108, 115, 101] : List UInt8) ++ [flagT r.Pulse, [115, 121, 110, 99], flagT r.Sync, [110, 117, 109, 98, 101, 114], Lib.itoa r.Number, [115, 108, 111, 116], Lib.itoa r.Slot, [109, 101, 109, 98, 101, 114, 115], word r.Members, [115, 101, 110, 116], Lib.itoa r.Sent].flatMap (32 :: ·) ++ gotT r.Got = repT r := by
    simp only [repT, List.flatMap_cons, List.flatMap_nil, List.append_nil, List.append_assoc, List.cons_append, List.nil_append]
  unfold show_Report
  rw [flag_eq, Option.bind_some, flag_eq, Option.bind_some, Itoa_eq h.n, Option.bind_some, Itoa_eq h.s, Option.bind_some, Word_eq _ (by omega), Option.bind_some, Itoa_eq h.t, Option.bind_some]
  rw [with_eq _ _ _ h.d (by simp only [List.length_cons, List.length_nil]; omega) (by
    rw [e]
    simp only [repT, List.length_append, List.length_cons, List.length_nil]
    omega), e]
  rfl
theorem report_eq' {r : GReport} (h : RIn r) : r42_Report r = some (repT r) := by
  have l1 := itoa_len h.n
  have l2 := itoa_len h.s
  have l3 := itoa_len h.t
  have l4 := word_len r.Members
  have l5 := gotT_len r.Got h.d
  have l6 := flag_len r.Pulse
  have l7 := flag_len r.Sync
  have h1 := h.m
  have h2 := h.g
  unfold r42_Report
  simp only [flag_eq', number_eq h.n, number_eq h.s, number_eq h.t, hex_eq r.Members (by omega), got_eq r.Got h.d (by omega), Option.bind_some]
  repeat rw [if_pos (by simp only [List.length_append, List.length_cons, List.length_nil]; omega)]
  simp only [repT, List.append_assoc, List.cons_append, List.nil_append]
theorem cycle_eq {c : GCycle} (h : CIn c) : show_Cycle c = some (cycT c) := by
  have l1 := itoa_len h.a
  have l2 := itoa_len h.n
  have l4 := word_len c.Members
  have l5 := gotT_len c.Got h.d
  have l7 := flag_len c.Sync
  have l8 := gw_len c.Got
  have h1 := h.m
  have h2 := h.g
  have e : ([99, 121, 99, 108, 101] : List UInt8) ++ [Lib.itoa c.At, [115, 121, 110, 99], flagT c.Sync, [110, 117, 109, 98, 101, 114], Lib.itoa c.Number, [109, 101, 109, 98, 101, 114, 115], word c.Members].flatMap (32 :: ·) ++ gotT c.Got = cycT c := by
    simp only [cycT, List.flatMap_cons, List.flatMap_nil, List.append_nil, List.append_assoc, List.cons_append, List.nil_append]
  unfold show_Cycle
  rw [Itoa_eq h.a, Option.bind_some, flag_eq, Option.bind_some, Itoa_eq h.n, Option.bind_some, Word_eq _ (by omega), Option.bind_some]
  rw [with_eq _ _ _ h.d (by simp only [List.length_cons, List.length_nil]; omega) (by
    rw [e]
    simp only [cycT, List.length_append, List.length_cons, List.length_nil]
    omega), e]
  rfl
theorem cycle_eq' {c : GCycle} (h : CIn c) : r42_Cycle c = some (cycT c) := by
  have l1 := itoa_len h.a
  have l2 := itoa_len h.n
  have l4 := word_len c.Members
  have l5 := gotT_len c.Got h.d
  have l7 := flag_len c.Sync
  have h1 := h.m
  have h2 := h.g
  unfold r42_Cycle
  simp only [flag_eq', number_eq h.a, number_eq h.n, hex_eq c.Members (by omega), got_eq c.Got h.d (by omega), Option.bind_some]
  repeat rw [if_pos (by simp only [List.length_append, List.length_cons, List.length_nil]; omega)]
  simp only [cycT, List.append_assoc, List.cons_append, List.nil_append]
/-! ### Names -/
def names : List (List UInt8) := [[111, 107], [110, 105, 108], [97, 114, 103], [102, 111, 114, 109], [115, 117, 109], [115, 104, 111, 114, 116], [108, 111, 110, 103], [110, 111, 100, 101], [99, 111, 110, 102], [102, 117, 108, 108], [108, 97, 116, 101], [115, 108, 111, 116], [111, 119, 110, 101, 114], [116, 119, 105, 99, 101], [109, 117, 116, 101], [116, 101, 120, 116], [119, 111, 114, 100], [114, 97, 116, 101]]
def nameT (e : Int) : List UInt8 := if 0 ≤ e ∧ e < 18 then names.getD e.toNat [] else [101, 114, 114, 111, 114] ++ 32 :: Lib.itoa e
theorem name_in {e : Int} (h : 0 ≤ e ∧ e < 18) : ∃ k : Fin 18, e = (k.val : Int) := ⟨⟨e.toNat, by omega⟩, by simp; omega⟩
theorem name_eq {e : Int} (h : I64 e) : show_Name e = some (nameT e) := by
  unfold show_Name nameT
  by_cases c : 0 ≤ e ∧ e < 18
  · rw [if_neg (by omega), if_neg (by omega), if_pos ⟨c.1, by omega⟩, if_pos c]
    obtain ⟨k, rfl⟩ := name_in c
    clear c h
    revert k
    decide
  · have l := itoa_len h
    have t := text_eq [101, 114, 114, 111, 114] [Lib.itoa e] (by simp) (by simp; omega)
    rw [if_neg c]
    have e2 : ([101, 114, 114, 111, 114] : List UInt8) ++ [Lib.itoa e].flatMap (32 :: ·) = [101, 114, 114, 111, 114] ++ 32 :: Lib.itoa e := by simp
    by_cases c1 : e < 0
    · rw [if_pos c1, Itoa_eq h, Option.bind_some, t, e2]; rfl
    · rw [if_neg c1, if_pos (by omega), Itoa_eq h, Option.bind_some, t, e2]; rfl
theorem name_eq' {e : Int} (h : I64 e) : r42_Name e = some (nameT e) := by
  have l := itoa_len h
  unfold r42_Name nameT
  by_cases c : 0 ≤ e ∧ e < 18
  · rw [if_pos c.1, if_pos (by simp only [List.length_cons, List.length_nil]; omega), if_pos c]
    obtain ⟨k, rfl⟩ := name_in c
    clear c h l
    revert k
    decide
  · rw [if_neg c]
    by_cases c1 : 0 ≤ e
    · rw [if_pos c1, if_neg (by simp only [List.length_cons, List.length_nil]; omega), number_eq h, Option.bind_some, if_pos (by simp only [List.length_cons, List.length_nil]; omega)]
      rfl
    · rw [if_neg c1, number_eq h, Option.bind_some, if_pos (by simp only [List.length_cons, List.length_nil]; omega)]
      rfl
theorem name_len {e : Int} (h : I64 e) : (nameT e).length ≤ 26 := by
  have l := itoa_len h
  unfold nameT
  split
  · rename_i c
    obtain ⟨k, rfl⟩ := name_in c
    clear c h l
    revert k
    decide
  · simp only [List.length_append, List.length_cons, List.length_nil]; omega
end Go.Proofs.YtchbgcbdkhbilaaDoor
set_option linter.unusedVariables false
set_option linter.unusedSimpArgs false
namespace Go.Proofs.YtchbgcbdkhbilaaDoor
open Go.Proofs.PF
def lineT (w x : List UInt8) : List UInt8 := w ++ 32 :: (x ++ [10])
structure VIn (v : GVerdict) : Prop where
  t : I64 v.Ticks
  l : I64 v.Last
  s : I64 v.Settled
  a : I64 v.All
  c : I64 v.Cycles
  f0 : I64 v.Faults.a0
  f1 : I64 v.Faults.a1
  f2 : I64 v.Faults.a2
  f3 : I64 v.Faults.a3
  f4 : I64 v.Faults.a4
def nums (v : GVerdict) : List Gs_wordL_nI := [(Gs_wordL_nI.mk ([116, 105, 99, 107, 115] : List UInt8) v.Ticks), (Gs_wordL_nI.mk ([108, 97, 115, 116] : List UInt8) v.Last), (Gs_wordL_nI.mk ([115, 101, 116, 116, 108, 101, 100] : List UInt8) v.Settled), (Gs_wordL_nI.mk ([97, 108, 108] : List UInt8) v.All), (Gs_wordL_nI.mk ([99, 121, 99, 108, 101, 115] : List UInt8) v.Cycles)]
def flts (v : GVerdict) : List (List UInt8 × Int) := [([112, 117, 108, 115, 101, 115], v.Faults.a0), ([110, 117, 109, 98, 101, 114, 115], v.Faults.a1), ([115, 108, 111, 116, 115], v.Faults.a2), ([114, 111, 117, 110, 100, 115], v.Faults.a3), ([109, 101, 109, 98, 101, 114, 115], v.Faults.a4)]
def fltT (v : GVerdict) : List UInt8 := (flts v).flatMap fun p => lineT p.1 (nameT p.2)
def verdT (v : GVerdict) : List UInt8 := (nums v).flatMap (fun x => lineT x.f_word (Lib.itoa x.f_n)) ++ fltT v
theorem nums_mem {v : GVerdict} (h : VIn v) : ∀ x ∈ nums v, I64 x.f_n ∧ x.f_word.length ≤ 7 := by
  intro x hx
  simp only [nums, List.mem_cons, List.not_mem_nil, or_false] at hx
  rcases hx with rfl | rfl | rfl | rfl | rfl
  · exact ⟨h.t, by simp⟩
  · exact ⟨h.l, by simp⟩
  · exact ⟨h.s, by simp⟩
  · exact ⟨h.a, by simp⟩
  · exact ⟨h.c, by simp⟩
theorem flts_mem {v : GVerdict} (h : VIn v) : ∀ x ∈ flts v, I64 x.2 ∧ x.1.length ≤ 7 := by
  intro x hx
  simp only [flts, List.mem_cons, List.not_mem_nil, or_false] at hx
  rcases hx with rfl | rfl | rfl | rfl | rfl
  · exact ⟨h.f0, by simp⟩
  · exact ⟨h.f1, by simp⟩
  · exact ⟨h.f2, by simp⟩
  · exact ⟨h.f3, by simp⟩
  · exact ⟨h.f4, by simp⟩
theorem flat_len {α β : Type} (g : α → List β) (m : Nat) : ∀ (l : List α), (∀ x ∈ l, (g x).length ≤ m) → (l.flatMap g).length ≤ l.length * m
  | [], _ => by simp
  | x :: l, h => by
    have := flat_len g m l fun y hy => h y (List.mem_cons_of_mem _ hy)
    have := h x (by simp)
    rw [List.flatMap_cons, List.length_append, List.length_cons, Nat.succ_mul]
    omega
theorem nums_len {v : GVerdict} (h : VIn v) : ((nums v).flatMap fun x => lineT x.f_word (Lib.itoa x.f_n)).length ≤ 150 := by
  refine flat_len _ 30 _ fun x hx => ?_
  obtain ⟨h1, h2⟩ := nums_mem h x hx
  have := itoa_len h1
  simp only [lineT, List.length_append, List.length_cons, List.length_nil]
  omega
theorem flt_len {v : GVerdict} (h : VIn v) : (fltT v).length ≤ 200 := by
  refine Nat.le_trans (flat_len _ 40 _ fun x hx => ?_) (Nat.le_refl _)
  obtain ⟨h1, h2⟩ := flts_mem h x hx
  have := name_len h1
  simp only [lineT, List.length_append, List.length_cons, List.length_nil]
  omega
theorem ar5_at {α : Type} (x : Ar5 α) (l : List α) (hl : l = [x.a0, x.a1, x.a2, x.a3, x.a4]) {k : Nat} {y : α} (h : l[k]? = some y) : Ar5.get? x (Int.toNat (k : Int)) = some y := by
  subst hl
  rw [Int.toNat_natCast]
  match k, h with
  | 0, h => exact h
  | 1, h => exact h
  | 2, h => exact h
  | 3, h => exact h
  | 4, h => exact h
  | k + 5, h => simp at h
theorem verdict_eq {v : GVerdict} (h : VIn v) : show_Verdict v = some (verdT v) := by
  have n1 := nums_len h
  have n2 := flt_len h
  have L1 := loopO_rows (f := fun s : List UInt8 × Int => show_Verdict_0_step (nums v) (List.length (nums v) : Int) v s.1 s.2) (fun o i => (o, i)) id (nums v) (fun _ x => lineT x.f_word (Lib.itoa x.f_n)) 9223372036854775807
    (fun k x o hk hb hl => by
      show show_Verdict_0_step _ _ _ _ _ = _
      obtain ⟨h1, h2⟩ := nums_mem h x (List.mem_of_getElem? hb)
      have := itoa_len h1
      have e : x.f_word ++ [Lib.itoa x.f_n].flatMap (32 :: ·) ++ [10] = lineT x.f_word (Lib.itoa x.f_n) := by simp [lineT]
      have hk5 : k < 5 := hk
      unfold show_Verdict_0_step
      rw [if_pos (by omega), idx_get hb, Option.bind_some, Itoa_eq h1, Option.bind_some, line_eq _ _ (by simp) (by simp; omega), Option.bind_some, e, if_pos (by omega), wrI rfl (by omega)])
    (fun o => by
      show show_Verdict_0_step _ _ _ _ _ = _
      unfold show_Verdict_0_step
      rw [if_neg (by omega)]
      rfl) [] (by rw [rows_flat]; simp only [List.length_nil]; omega)
  rw [rows_flat] at L1
  have L2 := loopO_rows (f := fun s : List UInt8 × Int => show_Verdict_1_step (Ar5.mk ([112, 117, 108, 115, 101, 115] : List UInt8) ([110, 117, 109, 98, 101, 114, 115] : List UInt8) ([115, 108, 111, 116, 115] : List UInt8) ([114, 111, 117, 110, 100, 115] : List UInt8) ([109, 101, 109, 98, 101, 114, 115] : List UInt8)) (Ar5.mk ([112, 117, 108, 115, 101, 115] : List UInt8) ([110, 117, 109, 98, 101, 114, 115] : List UInt8) ([115, 108, 111, 116, 115] : List UInt8) ([114, 111, 117, 110, 100, 115] : List UInt8) ([109, 101, 109, 98, 101, 114, 115] : List UInt8)) v s.1 s.2) (fun o i => (o, i)) id (flts v) (fun _ p => lineT p.1 (nameT p.2)) 9223372036854775807
    (fun k x o hk hb hl => by
      show show_Verdict_1_step _ _ _ _ _ = _
      obtain ⟨h1, h2⟩ := flts_mem h x (List.mem_of_getElem? hb)
      have := name_len h1
      have e : x.1 ++ [nameT x.2].flatMap (32 :: ·) ++ [10] = lineT x.1 (nameT x.2) := by simp [lineT]
      have hk5 : k < 5 := hk
      unfold show_Verdict_1_step
      rw [if_pos (by omega), if_pos (by omega), ar5_at _ ((flts v).map (·.1)) rfl (by rw [List.getElem?_map, hb]; rfl), Option.bind_some, if_pos (by omega), ar5_at _ ((flts v).map (·.2)) rfl (by rw [List.getElem?_map, hb]; rfl), Option.bind_some,
        name_eq h1, Option.bind_some, line_eq _ _ (by simp) (by simp; omega), Option.bind_some, e, if_pos (by omega), wrI rfl (by omega)])
    (fun o => by
      show show_Verdict_1_step _ _ _ _ _ = _
      unfold show_Verdict_1_step
      rw [if_neg (by simp [flts])]
      rfl) ((nums v).flatMap fun x => lineT x.f_word (Lib.itoa x.f_n)) (by rw [rows_flat]; show _ + (fltT v).length ≤ _; omega)
  rw [rows_flat] at L2
  unfold show_Verdict show_Verdict_0
  show (loopO (fun s : List UInt8 × Int => show_Verdict_0_step (nums v) (List.length (nums v) : Int) v s.1 s.2) ([], 0)).bind _ = _
  rw [L1, Option.bind_some, id, List.nil_append]
  unfold show_Verdict_1
  rw [L2]
  rfl
theorem verdict_eq' {v : GVerdict} (h : VIn v) : r42_Verdict v = some (verdT v) := by
  have n1 := nums_len h
  have n2 := flt_len h
  have l1 := itoa_len h.t
  have l2 := itoa_len h.l
  have l3 := itoa_len h.s
  have l4 := itoa_len h.a
  have l5 := itoa_len h.c
  have L2 := loopO_rows (f := fun s : List UInt8 × Int => r42_Verdict_0_step ((flts v).map (·.1)) v s.1 s.2) (fun o i => (o, i)) id (flts v) (fun _ p => lineT p.1 (nameT p.2)) 9223372036854775807
    (fun k x o hk hb hl => by
      show r42_Verdict_0_step _ _ _ _ = _
      obtain ⟨h1, h2⟩ := flts_mem h x (List.mem_of_getElem? hb)
      have := name_len h1
      have hk5 : k < 5 := hk
      simp only [lineT, List.length_append, List.length_cons, List.length_nil] at hl
      unfold r42_Verdict_0_step
      dsimp only
      rw [if_pos (by omega), idx_get (x := x.1) (by rw [List.getElem?_map, hb]; rfl), Option.bind_some]
      rw [if_pos (by omega), if_pos (by simp only [List.length_append, List.length_cons, List.length_nil]; omega), if_pos (by omega), ar5_at _ ((flts v).map (·.2)) rfl (by rw [List.getElem?_map, hb]; rfl), Option.bind_some,
        name_eq' h1, Option.bind_some]
      repeat rw [if_pos (by simp only [List.length_append, List.length_cons, List.length_nil]; omega)]
      rw [wrI rfl (by omega)]
      simp only [lineT, List.append_assoc, List.cons_append, List.nil_append])
    (fun o => by
      show r42_Verdict_0_step _ _ _ _ = _
      unfold r42_Verdict_0_step
      rw [if_neg (by simp [flts])]
      rfl) ((nums v).flatMap fun x => lineT x.f_word (Lib.itoa x.f_n)) (by rw [rows_flat]; show _ + (fltT v).length ≤ _; omega)
  rw [rows_flat] at L2
  unfold r42_Verdict r42_Verdict_0
  simp only [number_eq h.t, number_eq h.l, number_eq h.s, number_eq h.a, number_eq h.c, Option.bind_some]
  repeat rw [if_pos (by simp only [List.length_append, List.length_cons, List.length_nil]; omega)]
  have e : ∀ (x : List UInt8), x = (nums v).flatMap (fun x => lineT x.f_word (Lib.itoa x.f_n)) → ((loopO (fun s : List UInt8 × Int => r42_Verdict_0_step ((flts v).map (·.1)) v s.1 s.2) (x, 0)).bind fun r7 => some r7) = some (verdT v) := by
    rintro x rfl
    rw [L2]
    rfl
  refine e _ ?_
  simp only [nums, lineT, List.flatMap_cons, List.flatMap_nil, List.append_nil, List.append_assoc, List.cons_append, List.nil_append]
/-! ### Rounds -/
def linT (k : Nat) (s : List UInt8) : List UInt8 := [108, 105, 110, 101] ++ 32 :: (Lib.itoa (k : Int) ++ 32 :: (word s ++ [10]))
def gtT (k : Nat) (l : List GDeliver) : List UInt8 := [103, 111, 116] ++ 32 :: (Lib.itoa (k : Int) ++ (gotT l ++ [10]))
def rndT (r : GRound) : List UInt8 := [114, 111, 117, 110, 100] ++ 32 :: (Lib.itoa r.Number ++ 32 :: (word r.Members ++ 10 :: (rows linT 0 r.Lines ++ rows gtT 0 r.Got)))
def sw (l : List (List UInt8)) : Nat := bkL (l.map sav)
def ggw (l : List (List GDeliver)) : Nat := bkL (l.map (lav GDeliver.av))
theorem sw_cons (s : List UInt8) (l : List (List UInt8)) : sw (s :: l) = s.length + 1 + sw l := rfl
theorem ggw_cons (x : List GDeliver) (l : List (List GDeliver)) : ggw (x :: l) = gw x + 1 + ggw l := rfl
theorem sw_len : ∀ (l : List (List UInt8)), l.length ≤ sw l
  | [] => Nat.le_refl _
  | s :: l => by have := sw_len l; rw [sw_cons, List.length_cons]; omega
theorem ggw_len : ∀ (l : List (List GDeliver)), l.length ≤ ggw l
  | [] => Nat.le_refl _
  | s :: l => by have := ggw_len l; rw [ggw_cons, List.length_cons]; omega
theorem sw_mem {s : List UInt8} : ∀ {l : List (List UInt8)}, s ∈ l → s.length ≤ sw l
  | x :: l, h => by
    rw [sw_cons]
    rcases List.mem_cons.1 h with rfl | h
    · omega
    · have := sw_mem h; omega
theorem ggw_mem {s : List GDeliver} : ∀ {l : List (List GDeliver)}, s ∈ l → gw s ≤ ggw l
  | x :: l, h => by
    rw [ggw_cons]
    rcases List.mem_cons.1 h with rfl | h
    · omega
    · have := ggw_mem h; omega
theorem nat64 {k : Nat} (h : k ≤ 9000000000000000000) : I64 (k : Int) := ⟨by omega, by omega⟩
theorem lins_len : ∀ (l : List (List UInt8)) (k : Nat), k + l.length ≤ 100000000 → (rows linT k l).length ≤ 30 * sw l
  | [], _, _ => by simp [rows]
  | s :: l, k, h => by
    rw [List.length_cons] at h
    have := lins_len l (k + 1) (by omega)
    have := itoa_len (nat64 (k := k) (by omega))
    have := word_len s
    rw [sw_cons, rows, List.length_append]
    simp only [linT, List.length_append, List.length_cons, List.length_nil]
    omega
theorem gts_len : ∀ (l : List (List GDeliver)) (k : Nat), k + l.length ≤ 100000000 → (∀ x ∈ l, ∀ d ∈ x, DIn d) → (rows gtT k l).length ≤ 30 * ggw l
  | [], _, _, _ => by simp [rows]
  | s :: l, k, h, hd => by
    rw [List.length_cons] at h
    have := gts_len l (k + 1) (by omega) fun x hx => hd x (List.mem_cons_of_mem _ hx)
    have := itoa_len (nat64 (k := k) (by omega))
    have := gotT_len s (hd s (by simp))
    rw [ggw_cons, rows, List.length_append]
    simp only [gtT, List.length_append, List.length_cons, List.length_nil]
    omega
structure RoIn (r : GRound) : Prop where
  n : I64 r.Number
  m : r.Members.length ≤ 2000000
  l : sw r.Lines ≤ 2000000
  g : ggw r.Got ≤ 2000000
  d : ∀ x ∈ r.Got, ∀ d ∈ x, DIn d
theorem round_eq {r : GRound} (h : RoIn r) : show_Round r = some (rndT r) := by
  have l1 := itoa_len h.n
  have l2 := word_len r.Members
  have h1 := h.m
  have h2 := h.l
  have h3 := h.g
  have l3 := sw_len r.Lines
  have l4 := ggw_len r.Got
  have l5 := lins_len r.Lines 0 (by omega)
  have l6 := gts_len r.Got 0 (by omega) h.d
  have e0 : ([114, 111, 117, 110, 100] : List UInt8) ++ [Lib.itoa r.Number, word r.Members].flatMap (32 :: ·) ++ [10] = [114, 111, 117, 110, 100] ++ 32 :: (Lib.itoa r.Number ++ 32 :: (word r.Members ++ [10])) := by
    simp only [List.flatMap_cons, List.flatMap_nil, List.append_nil, List.append_assoc, List.cons_append, List.nil_append]
  generalize hh : ([114, 111, 117, 110, 100] : List UInt8) ++ 32 :: (Lib.itoa r.Number ++ 32 :: (word r.Members ++ [10])) = H0 at e0
  have lh : H0.length ≤ 10000000 := by rw [← hh]; simp only [List.length_append, List.length_cons, List.length_nil]; omega
  have L1 := loopO_rows (f := fun s : List UInt8 × Int => show_Round_0_step r.Lines (List.length r.Lines : Int) r s.1 s.2) (fun o i => (o, i)) id r.Lines linT 9223372036854775807
    (fun k x o hk hb hl => by
      show show_Round_0_step _ _ _ _ _ = _
      have hx := sw_mem (List.mem_of_getElem? hb)
      have hw := word_len x
      have hi := itoa_len (nat64 (k := k) (by omega))
      have e : ([108, 105, 110, 101] : List UInt8) ++ [Lib.itoa (k : Int), word x].flatMap (32 :: ·) ++ [10] = linT k x := by
        simp only [linT, List.flatMap_cons, List.flatMap_nil, List.append_nil, List.append_assoc, List.cons_append, List.nil_append]
      unfold show_Round_0_step
      rw [if_pos (by omega), idx_get hb, Option.bind_some, Itoa_eq (nat64 (by omega)), Option.bind_some, Word_eq _ (by omega), Option.bind_some, line_eq _ _ (by simp) (by simp; omega), Option.bind_some, e, if_pos (by omega), wrI rfl (by omega)])
    (fun o => by
      show show_Round_0_step _ _ _ _ _ = _
      unfold show_Round_0_step
      rw [if_neg (by omega)]
      rfl) H0 (by omega)
  have L2 := loopO_rows (f := fun s : List UInt8 × Int => show_Round_1_step r.Got (List.length r.Got : Int) r s.1 s.2) (fun o i => (o, i)) id r.Got gtT 9223372036854775807
    (fun k x o hk hb hl => by
      show show_Round_1_step _ _ _ _ _ = _
      have hx := ggw_mem (List.mem_of_getElem? hb)
      have hg := gotT_len x (h.d x (List.mem_of_getElem? hb))
      have hgl := gw_len x
      have hi := itoa_len (nat64 (k := k) (by omega))
      have e : ([103, 111, 116] : List UInt8) ++ [Lib.itoa (k : Int)].flatMap (32 :: ·) ++ gotT x ++ [10] = gtT k x := by
        simp only [gtT, List.flatMap_cons, List.flatMap_nil, List.append_nil, List.append_assoc, List.cons_append, List.nil_append]
      have el := congrArg List.length e
      unfold show_Round_1_step
      rw [if_pos (by omega), idx_get hb, Option.bind_some, Itoa_eq (nat64 (by omega)), Option.bind_some, with_eq _ _ _ (h.d x (List.mem_of_getElem? hb)) (by simp only [List.length_cons, List.length_nil]; omega) (by simp only [List.length_append, List.length_cons, List.length_nil, List.flatMap_cons, List.flatMap_nil]; omega), Option.bind_some,
        if_pos (by rw [List.length_append] at el; omega), e, if_pos (by omega), wrI rfl (by omega)])
    (fun o => by
      show show_Round_1_step _ _ _ _ _ = _
      unfold show_Round_1_step
      rw [if_neg (by omega)]
      rfl) (H0 ++ rows linT 0 r.Lines) (by rw [List.length_append]; omega)
  unfold show_Round
  rw [Itoa_eq h.n, Option.bind_some, Word_eq _ (by omega), Option.bind_some, line_eq _ _ (by simp) (by simp; omega), Option.bind_some, e0]
  unfold show_Round_0
  rw [L1, Option.bind_some, id]
  unfold show_Round_1
  rw [L2, Option.bind_some, id, ← hh]
  simp only [rndT, List.append_assoc, List.cons_append, List.nil_append]
theorem round_eq' {r : GRound} (h : RoIn r) : r42_Round r = some (rndT r) := by
  have l1 := itoa_len h.n
  have l2 := word_len r.Members
  have h1 := h.m
  have h2 := h.l
  have h3 := h.g
  have l3 := sw_len r.Lines
  have l4 := ggw_len r.Got
  have l5 := lins_len r.Lines 0 (by omega)
  have l6 := gts_len r.Got 0 (by omega) h.d
  generalize hh : ([114, 111, 117, 110, 100] : List UInt8) ++ 32 :: (Lib.itoa r.Number ++ 32 :: (word r.Members ++ [10])) = H0
  have lh : H0.length ≤ 10000000 := by rw [← hh]; simp only [List.length_append, List.length_cons, List.length_nil]; omega
  have L1 := loopO_rows (f := fun s : List UInt8 × Int => r42_Round_0_step r s.1 s.2) (fun o i => (o, i)) id r.Lines linT 9223372036854775807
    (fun k x o hk hb hl => by
      show r42_Round_0_step _ _ _ = _
      have hx := sw_mem (List.mem_of_getElem? hb)
      have hw := word_len x
      have hi := itoa_len (nat64 (k := k) (by omega))
      simp only [linT, List.length_append, List.length_cons, List.length_nil] at hl
      unfold r42_Round_0_step
      simp only [number_eq (nat64 (k := k) (by omega)), idx_get hb, hex_eq x (by omega), Option.bind_some]
      rw [if_pos (by omega)]
      repeat rw [if_pos (by simp only [List.length_append, List.length_cons, List.length_nil]; omega)]
      rw [wrI rfl (by omega)]
      simp only [linT, List.append_assoc, List.cons_append, List.nil_append])
    (fun o => by
      show r42_Round_0_step _ _ _ = _
      unfold r42_Round_0_step
      rw [if_neg (by omega)]
      rfl) H0 (by omega)
  have L2 := loopO_rows (f := fun s : List UInt8 × Int => r42_Round_1_step r s.1 s.2) (fun o i => (o, i)) id r.Got gtT 9223372036854775807
    (fun k x o hk hb hl => by
      show r42_Round_1_step _ _ _ = _
      have hx := ggw_mem (List.mem_of_getElem? hb)
      have hi := itoa_len (nat64 (k := k) (by omega))
      simp only [gtT, List.length_append, List.length_cons, List.length_nil] at hl
      unfold r42_Round_1_step
      simp only [number_eq (nat64 (k := k) (by omega)), idx_get hb, got_eq x (h.d x (List.mem_of_getElem? hb)) (by omega), Option.bind_some]
      rw [if_pos (by omega)]
      repeat rw [if_pos (by simp only [List.length_append, List.length_cons, List.length_nil]; omega)]
      rw [wrI rfl (by omega)]
      simp only [gtT, List.append_assoc, List.cons_append, List.nil_append])
    (fun o => by
      show r42_Round_1_step _ _ _ = _
      unfold r42_Round_1_step
      rw [if_neg (by omega)]
      rfl) (H0 ++ rows linT 0 r.Lines) (by rw [List.length_append]; omega)
  unfold r42_Round
  simp only [number_eq h.n, hex_eq r.Members (by omega), Option.bind_some]
  repeat rw [if_pos (by simp only [List.length_append, List.length_cons, List.length_nil]; omega)]
  have e : ∀ x, x = H0 → ((r42_Round_0 r x 0).bind fun r7 => (r42_Round_1 r r7 0).bind fun r11 => some r11) = some (rndT r) := by
    rintro x rfl
    unfold r42_Round_0
    rw [L1, Option.bind_some, id]
    unfold r42_Round_1
    rw [L2, Option.bind_some, id, ← hh]
    simp only [rndT, List.append_assoc, List.cons_append, List.nil_append]
  refine e _ ?_
  rw [← hh]
  simp only [List.append_assoc, List.cons_append, List.nil_append]
end Go.Proofs.YtchbgcbdkhbilaaDoor
set_option linter.unusedVariables false
set_option linter.unusedSimpArgs false
namespace Go.Proofs.YtchbgcbdkhbilaaDoor
open Go.Proofs.PF
theorem tok {c : UInt8} : ∀ {x y r s : List UInt8}, c ∉ x → c ∉ y → x ++ c :: r = y ++ c :: s → x = y ∧ r = s
  | [], [], r, s, _, _, h => ⟨rfl, by simpa using h⟩
  | [], b :: y, r, s, _, hy, h => by
    simp only [List.nil_append, List.cons_append, List.cons.injEq] at h
    exact absurd (by simp [h.1]) hy
  | a :: x, [], r, s, hx, _, h => by
    simp only [List.nil_append, List.cons_append, List.cons.injEq] at h
    exact absurd (by simp [h.1]) hx
  | a :: x, b :: y, r, s, hx, hy, h => by
    simp only [List.cons_append, List.cons.injEq] at h
    obtain ⟨e1, e2⟩ := tok (fun hh => hx (List.mem_cons_of_mem _ hh)) (fun hh => hy (List.mem_cons_of_mem _ hh)) h.2
    exact ⟨by rw [h.1, e1], e2⟩
/-- Nothing, or a text that begins so. -/
def St0 (c : UInt8) (r : List UInt8) : Prop := r = [] ∨ ∃ t, r = c :: t
theorem tokE {c : UInt8} : ∀ {x y r s : List UInt8}, c ∉ x → c ∉ y → St0 c r → St0 c s → x ++ r = y ++ s → x = y ∧ r = s
  | [], [], r, s, _, _, _, _, h => ⟨rfl, by simpa using h⟩
  | [], b :: y, r, s, _, hy, hr, _, h => by
    rcases hr with rfl | ⟨t, rfl⟩
    · simp at h
    · simp only [List.nil_append, List.cons_append, List.cons.injEq] at h
      exact absurd (by simp [h.1]) hy
  | a :: x, [], r, s, hx, _, _, hs, h => by
    rcases hs with rfl | ⟨t, rfl⟩
    · simp at h
    · simp only [List.nil_append, List.cons_append, List.cons.injEq] at h
      exact absurd (by simp [h.1]) hx
  | a :: x, b :: y, r, s, hx, hy, hr, hs, h => by
    simp only [List.cons_append, List.cons.injEq] at h
    obtain ⟨e1, e2⟩ := tokE (fun hh => hx (List.mem_cons_of_mem _ hh)) (fun hh => hy (List.mem_cons_of_mem _ hh)) hr hs h.2
    exact ⟨by rw [h.1, e1], e2⟩
/-- One of the bytes that stand between words. -/
def Sep (c : UInt8) : Prop := c = 32 ∨ c = 58 ∨ c = 10
theorem itoa_free {c : UInt8} (hc : Sep c) (n : Int) : c ∉ Lib.itoa n := by
  intro h
  rcases itoa_mem n c h with rfl | ⟨h1, h2⟩
  · rcases hc with e | e | e <;> cases e
  · rcases hc with rfl | rfl | rfl <;> simp at h1 h2
theorem hd_free : ∀ k : Fin 16, hd k.val ≠ 32 ∧ hd k.val ≠ 58 ∧ hd k.val ≠ 10 ∧ hd k.val ≠ 45 := by decide
theorem hd_inj : ∀ j k : Fin 16, hd j.val = hd k.val → j = k := by decide
theorem hx_free {c : UInt8} (hc : Sep c) (b : UInt8) : c ∉ hx b := by
  intro h
  have l := u8_lt b
  have h1 := hd_free ⟨b.toNat / 16, by omega⟩
  have h2 := hd_free ⟨b.toNat % 16, by omega⟩
  simp only [hx, List.mem_cons, List.not_mem_nil, or_false] at h
  rcases h with h | h <;> rcases hc with rfl | rfl | rfl <;> simp_all
theorem word_free {c : UInt8} (hc : Sep c) (s : List UInt8) : c ∉ word s := by
  unfold word
  split
  · rcases hc with rfl | rfl | rfl <;> decide
  · intro h
    obtain ⟨b, -, hb⟩ := List.mem_flatMap.1 h
    exact hx_free hc b hb
theorem hx_inj : ∀ (s t : List UInt8), s.flatMap hx = t.flatMap hx → s = t
  | [], [], _ => rfl
  | [], b :: t, h => by simp [hx] at h
  | a :: s, [], h => by simp [hx] at h
  | a :: s, b :: t, h => by
    simp only [List.flatMap_cons, hx, List.cons_append, List.nil_append, List.cons.injEq] at h
    obtain ⟨h1, h2, h3⟩ := h
    have la := u8_lt a
    have lb := u8_lt b
    have e1 := congrArg Fin.val (hd_inj ⟨a.toNat / 16, by omega⟩ ⟨b.toNat / 16, by omega⟩ h1)
    have e2 := congrArg Fin.val (hd_inj ⟨a.toNat % 16, by omega⟩ ⟨b.toNat % 16, by omega⟩ h2)
    simp only at e1 e2
    have : a = b := UInt8.toNat_inj.1 (by omega)
    rw [this, hx_inj s t h3]
theorem word_inj {s t : List UInt8} (h : word s = word t) : s = t := by
  unfold word at h
  split at h
  · rename_i e
    subst e
    split at h
    · rename_i e; exact e.symm
    · have := congrArg List.length h
      rw [hx_len] at this
      simp at this
      omega
  · split at h
    · have := congrArg List.length h
      rw [hx_len] at this
      simp at this
      omega
    · exact hx_inj s t h
theorem flag_free (b : Bool) : (32 : UInt8) ∉ flagT b := by cases b <;> decide
theorem flag_inj {a b : Bool} (h : flagT a = flagT b) : a = b := by revert h; cases a <;> cases b <;> decide
theorem msg_free {c : UInt8} (hc : c = 32 ∨ c = 10) (d : GDeliver) : c ∉ msg d := by
  have hs : Sep c := hc.elim .inl fun h => .inr (.inr h)
  have h58 : c ≠ 58 := by rcases hc with rfl | rfl <;> decide
  simp only [msg, List.mem_append, List.mem_cons, not_or]
  exact ⟨itoa_free hs _, h58, itoa_free hs _, h58, itoa_free hs _, h58, word_free hs _⟩
theorem msg_inj {a b : GDeliver} (h : msg a = msg b) : a = b := by
  unfold msg at h
  obtain ⟨e1, h⟩ := tok (itoa_free (.inr (.inl rfl)) _) (itoa_free (.inr (.inl rfl)) _) h
  obtain ⟨e2, h⟩ := tok (itoa_free (.inr (.inl rfl)) _) (itoa_free (.inr (.inl rfl)) _) h
  obtain ⟨e3, h⟩ := tok (itoa_free (.inr (.inl rfl)) _) (itoa_free (.inr (.inl rfl)) _) h
  cases a
  cases b
  simp only [GDeliver.mk.injEq]
  exact ⟨itoa_inj e1, itoa_inj e2, itoa_inj e3, word_inj h⟩
theorem got_st (l : List GDeliver) : St0 32 (gotT l) := by
  cases l with
  | nil => exact .inl rfl
  | cons d l => exact .inr ⟨_, rfl⟩
theorem got_cons (d : GDeliver) (l : List GDeliver) : gotT (d :: l) = 32 :: (msg d ++ gotT l) := rfl
theorem got_inj : ∀ {a b : List GDeliver}, gotT a = gotT b → a = b
  | [], [], _ => rfl
  | [], d :: b, h => by rw [got_cons] at h; cases h
  | d :: a, [], h => by rw [got_cons] at h; cases h
  | d :: a, e :: b, h => by
    rw [got_cons, got_cons, List.cons.injEq] at h
    obtain ⟨e1, e2⟩ := tokE (msg_free (.inl rfl) _) (msg_free (.inl rfl) _) (got_st a) (got_st b) h.2
    rw [msg_inj e1, got_inj e2]
theorem got_free (l : List GDeliver) : (10 : UInt8) ∉ gotT l := by
  induction l with
  | nil => simp [gotT]
  | cons d l ih =>
    rw [got_cons]
    simp only [List.mem_cons, List.mem_append, not_or]
    exact ⟨by decide, msg_free (.inr rfl) _, ih⟩
theorem s32 : Sep 32 := .inl rfl
theorem s10 : Sep 10 := .inr (.inr rfl)
theorem rep_inj {a b : GReport} (h : repT a = repT b) : a = b := by
  unfold repT at h
  obtain ⟨-, h⟩ := tok (by decide) (by decide) h
  obtain ⟨e1, h⟩ := tok (flag_free _) (flag_free _) h
  obtain ⟨-, h⟩ := tok (by decide) (by decide) h
  obtain ⟨e2, h⟩ := tok (flag_free _) (flag_free _) h
  obtain ⟨-, h⟩ := tok (by decide) (by decide) h
  obtain ⟨e3, h⟩ := tok (itoa_free s32 _) (itoa_free s32 _) h
  obtain ⟨-, h⟩ := tok (by decide) (by decide) h
  obtain ⟨e4, h⟩ := tok (itoa_free s32 _) (itoa_free s32 _) h
  obtain ⟨-, h⟩ := tok (by decide) (by decide) h
  obtain ⟨e5, h⟩ := tok (word_free s32 _) (word_free s32 _) h
  obtain ⟨-, h⟩ := tok (by decide) (by decide) h
  obtain ⟨e6, h⟩ := tokE (itoa_free s32 _) (itoa_free s32 _) (got_st _) (got_st _) h
  cases a
  cases b
  simp only [GReport.mk.injEq]
  exact ⟨flag_inj e1, flag_inj e2, itoa_inj e3, itoa_inj e4, word_inj e5, itoa_inj e6, got_inj h⟩
theorem cyc_inj {a b : GCycle} (h : cycT a = cycT b) : a = b := by
  unfold cycT at h
  obtain ⟨-, h⟩ := tok (by decide) (by decide) h
  obtain ⟨e1, h⟩ := tok (itoa_free s32 _) (itoa_free s32 _) h
  obtain ⟨-, h⟩ := tok (by decide) (by decide) h
  obtain ⟨e2, h⟩ := tok (flag_free _) (flag_free _) h
  obtain ⟨-, h⟩ := tok (by decide) (by decide) h
  obtain ⟨e3, h⟩ := tok (itoa_free s32 _) (itoa_free s32 _) h
  obtain ⟨-, h⟩ := tok (by decide) (by decide) h
  obtain ⟨e4, h⟩ := tokE (word_free s32 _) (word_free s32 _) (got_st _) (got_st _) h
  cases a
  cases b
  simp only [GCycle.mk.injEq]
  exact ⟨itoa_inj e1, itoa_inj e3, word_inj e4, flag_inj e2, got_inj h⟩
/-! ### Verdicts -/
theorem names_free : ∀ k : Fin 18, (10 : UInt8) ∉ names.getD k.val [] ∧ (32 : UInt8) ∉ names.getD k.val [] := by decide
theorem names_inj : ∀ j k : Fin 18, names.getD j.val [] = names.getD k.val [] → j = k := by decide
theorem name_cases (e : Int) : (∃ k : Fin 18, e = (k.val : Int) ∧ nameT e = names.getD k.val []) ∨ nameT e = [101, 114, 114, 111, 114] ++ 32 :: Lib.itoa e := by
  unfold nameT
  by_cases c : 0 ≤ e ∧ e < 18
  · rw [if_pos c]
    obtain ⟨k, rfl⟩ := name_in c
    exact .inl ⟨k, rfl, by simp⟩
  · rw [if_neg c]; exact .inr rfl
theorem name_free (e : Int) : (10 : UInt8) ∉ nameT e := by
  rcases name_cases e with ⟨k, -, h⟩ | h
  · rw [h]; exact (names_free k).1
  · rw [h]
    simp only [List.mem_append, List.mem_cons, not_or]
    exact ⟨by decide, by decide, itoa_free s10 _⟩
theorem name_inj {e f : Int} (h : nameT e = nameT f) : e = f := by
  have no : ∀ (k : Fin 18) (x : Int), names.getD k.val [] ≠ [101, 114, 114, 111, 114] ++ 32 :: Lib.itoa x := fun k x hh => (names_free k).2 (by rw [hh]; simp)
  rcases name_cases e with ⟨j, e1, h1⟩ | h1 <;> rcases name_cases f with ⟨k, e2, h2⟩ | h2
  · rw [h1, h2] at h
    rw [e1, e2, names_inj j k h]
  · rw [h1, h2] at h; exact absurd h (no _ _)
  · rw [h1, h2] at h; exact absurd h.symm (no _ _)
  · rw [h1, h2] at h
    exact itoa_inj (tok (by decide) (by decide) h).2
theorem line_tok {w x y r s : List UInt8} (hx : (10 : UInt8) ∉ x) (hy : (10 : UInt8) ∉ y) (h : lineT w x ++ r = lineT w y ++ s) : x = y ∧ r = s := by
  simp only [lineT, List.append_assoc, List.cons_append, List.nil_append] at h
  have h := List.append_cancel_left h
  simp only [List.cons.injEq, true_and] at h
  exact tok hx hy h
theorem verd_inj {a b : GVerdict} (h : verdT a = verdT b) : a = b := by
  simp only [verdT, fltT, nums, flts, List.flatMap_cons, List.flatMap_nil, List.append_assoc, List.nil_append] at h
  obtain ⟨e1, h⟩ := line_tok (itoa_free s10 _) (itoa_free s10 _) h
  obtain ⟨e2, h⟩ := line_tok (itoa_free s10 _) (itoa_free s10 _) h
  obtain ⟨e3, h⟩ := line_tok (itoa_free s10 _) (itoa_free s10 _) h
  obtain ⟨e4, h⟩ := line_tok (itoa_free s10 _) (itoa_free s10 _) h
  obtain ⟨e5, h⟩ := line_tok (itoa_free s10 _) (itoa_free s10 _) h
  obtain ⟨f0, h⟩ := line_tok (name_free _) (name_free _) h
  obtain ⟨f1, h⟩ := line_tok (name_free _) (name_free _) h
  obtain ⟨f2, h⟩ := line_tok (name_free _) (name_free _) h
  obtain ⟨f3, h⟩ := line_tok (name_free _) (name_free _) h
  obtain ⟨f4, h⟩ := line_tok (name_free _) (name_free _) h
  obtain ⟨t, l, s, al, c, ⟨a0, a1, a2, a3, a4⟩⟩ := a
  obtain ⟨t', l', s', al', c', ⟨b0, b1, b2, b3, b4⟩⟩ := b
  simp only [GVerdict.mk.injEq, Ar5.mk.injEq]
  exact ⟨itoa_inj e1, itoa_inj e2, itoa_inj e3, itoa_inj e4, itoa_inj e5, name_inj f0, name_inj f1, name_inj f2, name_inj f3, name_inj f4⟩
/-! ### Rounds -/
theorem lin_eq (k : Nat) (s r : List UInt8) : linT k s ++ r = [108, 105, 110, 101] ++ 32 :: (Lib.itoa (k : Int) ++ 32 :: (word s ++ 10 :: r)) := by
  simp only [linT, List.append_assoc, List.cons_append, List.nil_append]
theorem gt_eq (k : Nat) (l : List GDeliver) (r : List UInt8) : gtT k l ++ r = [103, 111, 116] ++ 32 :: (Lib.itoa (k : Int) ++ (gotT l ++ 10 :: r)) := by
  simp only [gtT, List.append_assoc, List.cons_append, List.nil_append]
theorem gts_inj : ∀ {a b : List (List GDeliver)} {k : Nat}, rows gtT k a = rows gtT k b → a = b
  | [], [], _, _ => rfl
  | [], y :: b, k, h => by rw [rows, rows, gt_eq] at h; cases h
  | x :: a, [], k, h => by rw [rows, rows, gt_eq] at h; cases h
  | x :: a, y :: b, k, h => by
    rw [rows, rows, gt_eq, gt_eq] at h
    have h := (tok (by decide) (by decide) h).2
    have h := List.append_cancel_left h
    obtain ⟨e1, e2⟩ := tok (got_free _) (got_free _) h
    rw [got_inj e1, gts_inj e2]
theorem lins_inj : ∀ {a b : List (List UInt8)} {x y : List (List GDeliver)} {k : Nat}, rows linT k a ++ rows gtT 0 x = rows linT k b ++ rows gtT 0 y → a = b ∧ x = y
  | [], [], x, y, _, h => ⟨rfl, gts_inj h⟩
  | [], s :: b, x, y, k, h => by
    rw [rows, rows, List.append_assoc, lin_eq, List.nil_append] at h
    cases x with
    | nil => rw [rows] at h; cases h
    | cons z x => rw [rows, gt_eq] at h; simp at h
  | s :: a, [], x, y, k, h => by
    rw [rows, rows, List.append_assoc, lin_eq, List.nil_append] at h
    cases y with
    | nil => rw [rows] at h; cases h
    | cons z y => rw [rows, gt_eq] at h; simp at h
  | s :: a, t :: b, x, y, k, h => by
    rw [rows, rows, List.append_assoc, List.append_assoc, lin_eq, lin_eq] at h
    have h := (tok (by decide) (by decide) h).2
    have h := (tok (itoa_free s32 _) (itoa_free s32 _) h).2
    obtain ⟨e1, e2⟩ := tok (word_free s10 _) (word_free s10 _) h
    obtain ⟨e3, e4⟩ := lins_inj e2
    exact ⟨by rw [word_inj e1, e3], e4⟩
theorem rnd_inj {a b : GRound} (h : rndT a = rndT b) : a = b := by
  unfold rndT at h
  obtain ⟨-, h⟩ := tok (by decide) (by decide) h
  obtain ⟨e1, h⟩ := tok (itoa_free s32 _) (itoa_free s32 _) h
  obtain ⟨e2, h⟩ := tok (word_free s10 _) (word_free s10 _) h
  obtain ⟨e3, e4⟩ := lins_inj h
  cases a
  cases b
  simp only [GRound.mk.injEq]
  exact ⟨itoa_inj e1, word_inj e2, e3, e4⟩
end Go.Proofs.YtchbgcbdkhbilaaDoor
set_option linter.unusedVariables false
set_option linter.unusedSimpArgs false
namespace Go.Proofs.YtchbgcbdkhbilaaDoor
open Go.Proofs.PF
theorem del_eq (x y : GDeliver) : (decide (x.From = y.From) && (decide (x.Slot = y.Slot) && (decide (x.Cycle = y.Cycle) && (decide (x.Text = y.Text) && true)))) = decide (x = y) := by
  cases x
  cases y
  rw [Bool.eq_iff_iff]
  simp [GDeliver.mk.injEq]
theorem same24 (a b : List GDeliver) (h : a.length ≤ 1000000000) : r24_Same a b = some (decide (a = b)) := by
  unfold r24_Same
  by_cases hl : a.length = b.length
  · rw [if_neg (by omega)]
    have L := loopO_eqs (f := fun s : Int => r24_Same_0_step a b s) a b hl (fun k x y hk ha hb => by
      show r24_Same_0_step a b (k : Int) = _
      unfold r24_Same_0_step
      rw [if_pos (by omega), idx_get ha, Option.bind_some, idx_get hb, Option.bind_some, wrI rfl (by omega), del_eq]
      by_cases e : x = y <;> simp [e]) (by
      show r24_Same_0_step a b (a.length : Int) = _
      unfold r24_Same_0_step
      rw [if_neg (by omega)])
    unfold r24_Same_0
    rw [L]
    by_cases e : a = b <;> simp [e]
  · rw [if_pos (by omega), decide_eq_false]
    rintro rfl
    exact hl rfl
theorem same27 (a b : GReport) (h : a.Got.length ≤ 1000000000) : r27_Same a b = some (decide (a = b)) := by
  unfold r27_Same
  rw [same24 _ _ h]
  obtain ⟨p, s, n, sl, m, t, g⟩ := a
  obtain ⟨p', s', n', sl', m', t', g'⟩ := b
  simp only [GReport.mk.injEq, Option.bind_some]
  by_cases h1 : p = p' <;> by_cases h2 : s = s' <;> by_cases h3 : n = n' <;> by_cases h4 : sl = sl' <;> by_cases h5 : m = m' <;> by_cases h6 : t = t' <;> simp [h1, h2, h3, h4, h5, h6]
theorem same36 (a b : GCycle) (h : a.Got.length ≤ 1000000000) : r36_Same [a] [b] = some (decide (a = b)) := by
  unfold r36_Same
  rw [if_neg (by simp)]
  have L := loopO_eqs (f := fun s : Int => r36_Same_0_step [a] [b] s) [a] [b] rfl (fun k x y hk ha hb => by
    show r36_Same_0_step [a] [b] (k : Int) = _
    obtain rfl : k = 0 := by simpa using hk
    obtain rfl : a = x := by simpa using ha
    obtain rfl : b = y := by simpa using hb
    unfold r36_Same_0_step
    rw [if_pos (by simp), idx_get ha, Option.bind_some, idx_get hb, Option.bind_some, wrI rfl (by omega), same24 _ _ h]
    obtain ⟨p, s, n, sl, m⟩ := a
    obtain ⟨p', s', n', sl', m'⟩ := b
    simp only [GCycle.mk.injEq, Option.bind_some]
    by_cases h1 : p = p' <;> by_cases h2 : s = s' <;> by_cases h3 : n = n' <;> by_cases h4 : sl = sl' <;> by_cases h5 : m = m' <;> simp [h1, h2, h3, h4, h5]) (by
    show r36_Same_0_step [a] [b] 1 = _
    unfold r36_Same_0_step
    rw [if_neg (by simp)])
  unfold r36_Same_0
  rw [L]
  by_cases e : a = b <;> simp [e]
theorem same38 (a b : GRound) (hl : a.Lines.length ≤ 1000000000) (hg : a.Got.length ≤ 1000000000) (hd : ∀ x ∈ a.Got, x.length ≤ 1000000000) : r38_Same a b = some (decide (a = b)) := by
  unfold r38_Same
  by_cases h1 : a.Number = b.Number
  · rw [if_neg fun h => h h1]
    by_cases h2 : a.Members = b.Members
    · rw [if_neg fun h => h h2]
      by_cases h3 : a.Lines.length = b.Lines.length
      · rw [if_neg (by omega)]
        by_cases h4 : a.Got.length = b.Got.length
        · rw [if_neg (by omega)]
          have L1 := loopO_eqs (f := fun s : Int => r38_Same_0_step b a s) a.Lines b.Lines h3 (fun k x y hk ha hb => by
            show r38_Same_0_step b a (k : Int) = _
            unfold r38_Same_0_step
            rw [if_pos (by omega), idx_get ha, Option.bind_some, idx_get hb, Option.bind_some, wrI rfl (by omega)]
            by_cases e : x = y <;> simp [e]) (by
            show r38_Same_0_step b a _ = _
            unfold r38_Same_0_step
            rw [if_neg (by omega)])
          have L2 := loopO_eqs (f := fun s : Int => r38_Same_1_step b a s) a.Got b.Got h4 (fun k x y hk ha hb => by
            show r38_Same_1_step b a (k : Int) = _
            unfold r38_Same_1_step
            rw [if_pos (by omega), idx_get ha, Option.bind_some, idx_get hb, Option.bind_some, wrI rfl (by omega), same24 _ _ (hd x (List.mem_of_getElem? ha)), Option.bind_some]
            by_cases e : x = y <;> simp [e]) (by
            show r38_Same_1_step b a _ = _
            unfold r38_Same_1_step
            rw [if_neg (by omega)])
          unfold r38_Same_0 r38_Same_1
          rw [L1, L2]
          obtain ⟨p, s, n, sl⟩ := a
          obtain ⟨p', s', n', sl'⟩ := b
          simp only [GRound.mk.injEq] at *
          by_cases e1 : n = n' <;> by_cases e2 : sl = sl' <;> simp [h1, h2, e1, e2]
        · rw [if_pos (by omega), decide_eq_false]
          rintro rfl
          exact h4 rfl
      · rw [if_pos (by omega), decide_eq_false]
        rintro rfl
        exact h3 rfl
    · rw [if_pos h2, decide_eq_false]
      rintro rfl
      exact h2 rfl
  · rw [if_pos h1, decide_eq_false]
    rintro rfl
    exact h1 rfl
theorem few38 (l : List (List UInt8)) (g : List (List GDeliver)) : ∃ b, r38_Few l g = some b := by
  unfold r38_Few
  by_cases h1 : 40 < (l.length : Int)
  · exact ⟨_, if_pos h1⟩
  · rw [if_neg h1]
    by_cases h2 : 40 < (g.length : Int)
    · exact ⟨_, if_pos h2⟩
    · rw [if_neg h2]
      have L := loopO_alls (f := fun s : Int => r38_Few_0_step g s) g (fun x => ¬ 100 < (x.length : Int)) (fun k x hk ha => by
        show r38_Few_0_step g (k : Int) = _
        unfold r38_Few_0_step
        rw [if_pos (by omega), idx_get ha, Option.bind_some, wrI rfl (by omega)]
        by_cases e : 100 < (x.length : Int) <;> simp [e]) (by
        show r38_Few_0_step g _ = _
        unfold r38_Few_0_step
        rw [if_neg (by omega)])
      unfold r38_Few_0
      rw [L]
      by_cases e : ∀ x ∈ g, ¬ 100 < (x.length : Int)
      · rw [if_pos e]; exact ⟨_, rfl⟩
      · rw [if_neg e]; exact ⟨_, rfl⟩
/-! ### What the rows' arguments are -/
theorem del_in {l : List GDeliver} (h : ∀ d ∈ l, GDeliver.In d) (hb : gw l ≤ 1048576) : ∀ d ∈ l, DIn d := by
  intro d hd
  obtain ⟨h1, h2, h3, h4⟩ := h d hd
  have := gw_mem hd
  exact ⟨⟨h1, h2, h3⟩, by omega⟩
theorem rep_in {r : GReport} (h : GReport.In r) (hb : bk r.av ≤ 1048576) : RIn r := by
  obtain ⟨-, -, h1, h2, h3, h4, h5, h6⟩ := h
  have e : bk r.av = 1 + (1 + (1 + (1 + (r.Members.length + 1 + (1 + (gw r.Got + 1 + 0)))))) := by simp only [bk, bkL, gw]
  exact ⟨h1, h2, h4, by omega, del_in h6 (by omega), by omega⟩
theorem cyc_in {c : GCycle} (h : GCycle.In c) (hb : bk c.av ≤ 1048576) : CIn c := by
  obtain ⟨h1, h2, h3, -, h5, h6⟩ := h
  have e : bk c.av = 1 + (1 + (c.Members.length + 1 + (1 + (gw c.Got + 1 + 0)))) := by simp only [bk, bkL, gw]
  exact ⟨h1, h2, by omega, del_in h6 (by omega), by omega⟩
theorem verd_in {v : GVerdict} (h : GVerdict.In v) : VIn v := by
  obtain ⟨h1, h2, h3, h4, h5, h6, h7, h8, h9, h10⟩ := h
  exact ⟨h1, h2, h3, h4, h5, h6, h7, h8, h9, h10⟩
theorem rnd_in {r : GRound} (h : GRound.In r) (hb : bk r.av ≤ 1048576) : RoIn r := by
  obtain ⟨h1, h2, ⟨h3, h4⟩, h5, h6⟩ := h
  have e : bk r.av = 1 + (r.Members.length + 1 + (sw r.Lines + 1 + (ggw r.Got + 1 + 0))) := by simp only [bk, bkL, sw, ggw]
  exact ⟨h1, by omega, by omega, by omega, fun x hx => del_in (h6 x hx).2 (by have := ggw_mem hx; omega)⟩
/-! ### The laws -/
theorem known42 : (l42_known).bind (fun r => some r) = some true := rfl
theorem ShowReports_true (e : Int) (r : GReport) (c : GCycle) (he : I64 e) (hr : GReport.In r) (hc : GCycle.In c) (hb : bkL [iav e, r.av, c.av] ≤ 1048576) : l42_ShowReports e r c = some true := by
  have eb : bkL [iav e, r.av, c.av] = 1 + (bk r.av + (bk c.av + 0)) := rfl
  have hr := rep_in hr (by omega)
  have hc := cyc_in hc (by omega)
  unfold l42_ShowReports
  simp only [name_eq he, name_eq' he, report_eq hr, report_eq' hr, cycle_eq hc, cycle_eq' hc, Option.bind_some, if_true, known42, ite_self]
theorem ShowRounds_true (v : GVerdict) (r : GRound) (hv : GVerdict.In v) (hr : GRound.In r) (hb : bkL [v.av, r.av] ≤ 1048576) : l42_ShowRounds v r = some true := by
  have eb : bkL [v.av, r.av] = bk v.av + (bk r.av + 0) := rfl
  have hv := verd_in hv
  have hr := rnd_in hr (by omega)
  obtain ⟨b, hf⟩ := few38 r.Lines r.Got
  unfold l42_ShowRounds
  simp only [hf, verdict_eq hv, verdict_eq' hv, round_eq hr, round_eq' hr, Option.bind_some, if_true, known42, ite_self]
theorem ShowApart_true (a b : GReport) (c d : GCycle) (ha : GReport.In a) (hb' : GReport.In b) (hc : GCycle.In c) (hd : GCycle.In d) (hb : bkL [a.av, b.av, c.av, d.av] ≤ 1048576) : l42_ShowApart a b c d = some true := by
  have eb : bkL [a.av, b.av, c.av, d.av] = bk a.av + (bk b.av + (bk c.av + (bk d.av + 0))) := rfl
  have ha := rep_in ha (by omega)
  have hb' := rep_in hb' (by omega)
  have hc := cyc_in hc (by omega)
  have hd := cyc_in hd (by omega)
  have g1 := gw_len a.Got
  have g2 := gw_len c.Got
  have g3 := ha.g
  have g4 := hc.g
  have e1 : (decide (repT a = repT b) == decide (a = b)) = true := by
    by_cases e : a = b
    · subst e; simp
    · rw [decide_eq_false e, decide_eq_false fun h => e (rep_inj h)]; rfl
  have e2 : (decide (cycT c = cycT d) == decide (c = d)) = true := by
    by_cases e : c = d
    · subst e; simp
    · rw [decide_eq_false e, decide_eq_false fun h => e (cyc_inj h)]; rfl
  unfold l42_ShowApart
  simp only [report_eq ha, report_eq hb', cycle_eq hc, cycle_eq hd, same27 a b (by omega), same36 c d (by omega), Option.bind_some, known42, e1, e2, if_true, ite_self]
theorem ShowWhole_true (a b : GVerdict) (c d : GRound) (ha : GVerdict.In a) (hb' : GVerdict.In b) (hc : GRound.In c) (hd : GRound.In d) (hb : bkL [a.av, b.av, c.av, d.av] ≤ 1048576) : l42_ShowWhole a b c d = some true := by
  have eb : bkL [a.av, b.av, c.av, d.av] = bk a.av + (bk b.av + (bk c.av + (bk d.av + 0))) := rfl
  have ha := verd_in ha
  have hb' := verd_in hb'
  have hc := rnd_in hc (by omega)
  have hd := rnd_in hd (by omega)
  have g1 := sw_len c.Lines
  have g2 := ggw_len c.Got
  have g3 := hc.l
  have g4 := hc.g
  have e1 : (decide (verdT a = verdT b) == (decide (a.Ticks = b.Ticks) && (decide (a.Last = b.Last) && (decide (a.Settled = b.Settled) && (decide (a.All = b.All) && (decide (a.Cycles = b.Cycles) && (decide (a.Faults.a0 = b.Faults.a0) && (decide (a.Faults.a1 = b.Faults.a1) && (decide (a.Faults.a2 = b.Faults.a2) && (decide (a.Faults.a3 = b.Faults.a3) && (decide (a.Faults.a4 = b.Faults.a4) && true))))))))))) = true := by
    by_cases e : verdT a = verdT b
    · obtain rfl := verd_inj e
      simp
    · rw [decide_eq_false e, beq_iff_eq, eq_comm, Bool.eq_false_iff]
      intro h
      simp only [Bool.and_eq_true, decide_eq_true_eq, and_true] at h
      obtain ⟨h1, h2, h3, h4, h5, h6, h7, h8, h9, h10⟩ := h
      apply e
      obtain ⟨t, l, s, al, c, ⟨a0, a1, a2, a3, a4⟩⟩ := a
      obtain ⟨t', l', s', al', c', ⟨b0, b1, b2, b3, b4⟩⟩ := b
      simp only at h1 h2 h3 h4 h5 h6 h7 h8 h9 h10
      subst h1 h2 h3 h4 h5 h6 h7 h8 h9 h10
      rfl
  have e2 : (decide (rndT c = rndT d) == decide (c = d)) = true := by
    by_cases e : c = d
    · subst e; simp
    · rw [decide_eq_false e, decide_eq_false fun h => e (rnd_inj h)]; rfl
  obtain ⟨f1, hf1⟩ := few38 c.Lines c.Got
  obtain ⟨f2, hf2⟩ := few38 d.Lines d.Got
  have s := same38 c d (by omega) (by omega) (fun x hx => by have := ggw_mem hx; have := gw_len x; omega)
  unfold l42_ShowWhole
  simp only [hf1, hf2, verdict_eq ha, verdict_eq hb', round_eq hc, round_eq hd, s, Option.bind_some, known42, e1, e2, if_true, ite_self]
end Go.Proofs.YtchbgcbdkhbilaaDoor
namespace Go.Proofs.YtchbgcbdkhbilaaDoor
open Go.Proofs.PF
theorem ShowReports_law (l : List AV) (h : ArgsOf [([.i .i64], false), ([.b, .b, .i .i64, .i .i64, .s, .i .i64, .l [.i .i64, .i .i64, .i .i64, .s] true], true), ([.i .i64, .i .i64, .s, .b, .l [.i .i64, .i .i64, .i .i64, .s] true], true)] l) (hb : bkL l ≤ 1048576) : LM.call n_l42_ShowReports l [] = some (.bool true, []) := by
  obtain ⟨y0, _, rfl, p0, h⟩ := Dec.i64.arg h
  obtain ⟨y1, _, rfl, p1, h⟩ := GReport.dec.arg h
  obtain ⟨y2, _, rfl, p2, h⟩ := GCycle.dec.arg h
  obtain rfl := Dec.end_ h
  obtain ⟨q, e, rfl⟩ := l42_ShowReports_sim y0 y1 y2 true (ShowReports_true y0 y1 y2 p0 p1 p2 hb)
  exact e
theorem ShowRounds_law (l : List AV) (h : ArgsOf [([.i .i64, .i .i64, .i .i64, .i .i64, .i .i64, .i .i64, .i .i64, .i .i64, .i .i64, .i .i64], true), ([.i .i64, .s, .l [.s] false, .l [.l [.i .i64, .i .i64, .i .i64, .s] true] false], true)] l) (hb : bkL l ≤ 1048576) : LM.call n_l42_ShowRounds l [] = some (.bool true, []) := by
  obtain ⟨y0, _, rfl, p0, h⟩ := GVerdict.dec.arg h
  obtain ⟨y1, _, rfl, p1, h⟩ := GRound.dec.arg h
  obtain rfl := Dec.end_ h
  obtain ⟨q, e, rfl⟩ := l42_ShowRounds_sim y0 y1 true (ShowRounds_true y0 y1 p0 p1 hb)
  exact e
theorem ShowApart_law (l : List AV) (h : ArgsOf [([.b, .b, .i .i64, .i .i64, .s, .i .i64, .l [.i .i64, .i .i64, .i .i64, .s] true], true), ([.b, .b, .i .i64, .i .i64, .s, .i .i64, .l [.i .i64, .i .i64, .i .i64, .s] true], true), ([.i .i64, .i .i64, .s, .b, .l [.i .i64, .i .i64, .i .i64, .s] true], true), ([.i .i64, .i .i64, .s, .b, .l [.i .i64, .i .i64, .i .i64, .s] true], true)] l) (hb : bkL l ≤ 1048576) : LM.call n_l42_ShowApart l [] = some (.bool true, []) := by
  obtain ⟨y0, _, rfl, p0, h⟩ := GReport.dec.arg h
  obtain ⟨y1, _, rfl, p1, h⟩ := GReport.dec.arg h
  obtain ⟨y2, _, rfl, p2, h⟩ := GCycle.dec.arg h
  obtain ⟨y3, _, rfl, p3, h⟩ := GCycle.dec.arg h
  obtain rfl := Dec.end_ h
  obtain ⟨q, e, rfl⟩ := l42_ShowApart_sim y0 y1 y2 y3 true (ShowApart_true y0 y1 y2 y3 p0 p1 p2 p3 hb)
  exact e
theorem ShowWhole_law (l : List AV) (h : ArgsOf [([.i .i64, .i .i64, .i .i64, .i .i64, .i .i64, .i .i64, .i .i64, .i .i64, .i .i64, .i .i64], true), ([.i .i64, .i .i64, .i .i64, .i .i64, .i .i64, .i .i64, .i .i64, .i .i64, .i .i64, .i .i64], true), ([.i .i64, .s, .l [.s] false, .l [.l [.i .i64, .i .i64, .i .i64, .s] true] false], true), ([.i .i64, .s, .l [.s] false, .l [.l [.i .i64, .i .i64, .i .i64, .s] true] false], true)] l) (hb : bkL l ≤ 1048576) : LM.call n_l42_ShowWhole l [] = some (.bool true, []) := by
  obtain ⟨y0, _, rfl, p0, h⟩ := GVerdict.dec.arg h
  obtain ⟨y1, _, rfl, p1, h⟩ := GVerdict.dec.arg h
  obtain ⟨y2, _, rfl, p2, h⟩ := GRound.dec.arg h
  obtain ⟨y3, _, rfl, p3, h⟩ := GRound.dec.arg h
  obtain rfl := Dec.end_ h
  obtain ⟨q, e, rfl⟩ := l42_ShowWhole_sim y0 y1 y2 y3 true (ShowWhole_true y0 y1 y2 y3 p0 p1 p2 p3 hb)
  exact e
end Go.Proofs.YtchbgcbdkhbilaaDoor
