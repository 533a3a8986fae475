/-
  Plain laws: what the functions compute, and that the laws say true. Conditions: none beyond each theorem's own.
-/
import Derived.Test.YtfjlpfjpidikjaaGreatDoorPFe
import Derived.Test.YtfjlpfjpidikjaaGreatDoorDb
import Derived.Lib.ItoaMem
namespace Go.Proofs.YtfjlpfjpidikjaaGreatDoor
open Go.Proofs.PF
def GSend.In (x : GSend) : Prop := I64 x.From ∧ I64 x.To ∧ I64 x.Delay ∧ SL x.Bytes
theorem GSend.dec : Dec [.i .i64, .i .i64, .i .i64, .s] true GSend.av GSend.In := by
  intro cs h
  obtain ⟨x0, _, rfl, p0, h⟩ := Dec.i64.cons h
  obtain ⟨x1, _, rfl, p1, h⟩ := Dec.i64.cons h
  obtain ⟨x2, _, rfl, p2, h⟩ := Dec.i64.cons h
  obtain ⟨x3, _, rfl, p3, h⟩ := Dec.str.cons h
  obtain rfl := wfcs_nil h
  exact ⟨⟨x0, x1, x2, x3⟩, rfl, p0, p1, p2, p3⟩
def GBurst.In (x : GBurst) : Prop := I64 x.Node ∧ SL x.Image
theorem GBurst.dec : Dec [.i .i64, .s] true GBurst.av GBurst.In := by
  intro cs h
  obtain ⟨x0, _, rfl, p0, h⟩ := Dec.i64.cons h
  obtain ⟨x1, _, rfl, p1, h⟩ := Dec.str.cons h
  obtain rfl := wfcs_nil h
  exact ⟨⟨x0, x1⟩, rfl, p0, p1⟩
def GWrite.In (x : GWrite) : Prop := I64 x.Node ∧ SL x.Text
theorem GWrite.dec : Dec [.i .i64, .s] true GWrite.av GWrite.In := by
  intro cs h
  obtain ⟨x0, _, rfl, p0, h⟩ := Dec.i64.cons h
  obtain ⟨x1, _, rfl, p1, h⟩ := Dec.str.cons h
  obtain rfl := wfcs_nil h
  exact ⟨⟨x0, x1⟩, rfl, p0, p1⟩
def GTick.In (x : GTick) : Prop := (SL x.Units ∧ ∀ z0 ∈ x.Units, I64 z0) ∧ (SL x.Delays ∧ ∀ z0 ∈ x.Delays, I64 z0) ∧ (SL x.Sends ∧ ∀ z0 ∈ x.Sends, GSend.In z0) ∧ (SL x.Bursts ∧ ∀ z0 ∈ x.Bursts, GBurst.In z0) ∧ (SL x.Strays ∧ ∀ z0 ∈ x.Strays, GSend.In z0) ∧ (SL x.Writes ∧ ∀ z0 ∈ x.Writes, GWrite.In z0)
theorem GTick.dec : Dec [.l [.i .i64] false, .l [.i .i64] false, .l [.i .i64, .i .i64, .i .i64, .s] true, .l [.i .i64, .s] true, .l [.i .i64, .i .i64, .i .i64, .s] true, .l [.i .i64, .s] true] true GTick.av GTick.In := by
  intro cs h
  obtain ⟨x0, _, rfl, p0, h⟩ := (Dec.list Dec.i64).cons h
  obtain ⟨x1, _, rfl, p1, h⟩ := (Dec.list Dec.i64).cons h
  obtain ⟨x2, _, rfl, p2, h⟩ := (Dec.list GSend.dec).cons h
  obtain ⟨x3, _, rfl, p3, h⟩ := (Dec.list GBurst.dec).cons h
  obtain ⟨x4, _, rfl, p4, h⟩ := (Dec.list GSend.dec).cons h
  obtain ⟨x5, _, rfl, p5, h⟩ := (Dec.list GWrite.dec).cons h
  obtain rfl := wfcs_nil h
  exact ⟨⟨x0, x1, x2, x3, x4, x5⟩, rfl, p0, p1, p2, p3, p4, p5⟩
def GScript.In (x : GScript) : Prop := I64 x.Conf.N ∧ I64 x.Conf.F ∧ I64 x.Conf.D ∧ I64 x.Conf.Period ∧ I64 x.Conf.Rate ∧ I64 x.Conf.Drift ∧ I64 x.Conf.Offset ∧ I64 x.Conf.Slot ∧ I64 x.Conf.Mod ∧ I64 x.Conf.Fresh ∧ (SL x.Conf.Table ∧ ∀ z0 ∈ x.Conf.Table, I64 z0) ∧ (SL x.Faulty ∧ ∀ z0 ∈ x.Faulty, I64 z0) ∧ (SL x.Images ∧ ∀ z0 ∈ x.Images, SL z0) ∧ (SL x.Ticks ∧ ∀ z0 ∈ x.Ticks, GTick.In z0)
theorem GScript.dec : Dec [.i .i64, .i .i64, .i .i64, .i .i64, .i .i64, .i .i64, .i .i64, .i .i64, .i .i64, .i .i64, .l [.i .i64] false, .l [.i .i64] false, .l [.s] false, .l [.l [.i .i64] false, .l [.i .i64] false, .l [.i .i64, .i .i64, .i .i64, .s] true, .l [.i .i64, .s] true, .l [.i .i64, .i .i64, .i .i64, .s] true, .l [.i .i64, .s] true] true] true GScript.av GScript.In := by
  intro cs h
  obtain ⟨x0, _, rfl, p0, h⟩ := Dec.i64.cons h
  obtain ⟨x1, _, rfl, p1, h⟩ := Dec.i64.cons h
  obtain ⟨x2, _, rfl, p2, h⟩ := Dec.i64.cons h
  obtain ⟨x3, _, rfl, p3, h⟩ := Dec.i64.cons h
  obtain ⟨x4, _, rfl, p4, h⟩ := Dec.i64.cons h
  obtain ⟨x5, _, rfl, p5, h⟩ := Dec.i64.cons h
  obtain ⟨x6, _, rfl, p6, h⟩ := Dec.i64.cons h
  obtain ⟨x7, _, rfl, p7, h⟩ := Dec.i64.cons h
  obtain ⟨x8, _, rfl, p8, h⟩ := Dec.i64.cons h
  obtain ⟨x9, _, rfl, p9, h⟩ := Dec.i64.cons h
  obtain ⟨x10, _, rfl, p10, h⟩ := (Dec.list Dec.i64).cons h
  obtain ⟨x11, _, rfl, p11, h⟩ := (Dec.list Dec.i64).cons h
  obtain ⟨x12, _, rfl, p12, h⟩ := (Dec.list Dec.str).cons h
  obtain ⟨x13, _, rfl, p13, h⟩ := (Dec.list GTick.dec).cons h
  obtain rfl := wfcs_nil h
  exact ⟨⟨⟨x0, x1, x2, x3, x4, x5, x6, x7, x8, x9, x10⟩, x11, x12, x13⟩, rfl, p0, p1, p2, p3, p4, p5, p6, p7, p8, p9, p10, p11, p12, p13⟩
end Go.Proofs.YtfjlpfjpidikjaaGreatDoor
set_option linter.unusedVariables false
set_option linter.unusedSimpArgs false
namespace Go.Proofs.PF
open Classical in
/-- A loop that ends with false at the first place that fails. -/
theorem loopO_all {f : Int → Option (Int ⊕ (Bool ⊕ Unit))} (n : Nat) (p : Nat → Prop)
    (h : ∀ k : Nat, k < n → f (k : Int) = some (if p k then .inl ((k : Int) + 1) else .inr (.inl false))) (he : f (n : Int) = some (.inr (.inr ()))) :
    loopO f 0 = some (if ∀ k, k < n → p k then .inr () else .inl false) := by
  have : ∀ m k : Nat, k + m = n → loopO f (k : Int) = some (if ∀ j, k ≤ j → j < n → p j then .inr () else .inl false) := by
    intro m
    induction m with
    | zero =>
      intro k hk
      have : k = n := by omega
      subst this
      rw [loopO_inr he, if_pos (fun j h1 h2 => absurd h1 (by omega))]
    | succ m ih =>
      intro k hk
      have h1 := h k (by omega)
      by_cases hp : p k
      · rw [if_pos hp] at h1
        rw [loopO_inl h1]
        have := ih (k + 1) (by omega)
        rw [show ((k : Int) + 1) = ((k + 1 : Nat) : Int) by omega, this]
        by_cases ha : ∀ j, k + 1 ≤ j → j < n → p j
        · rw [if_pos ha, if_pos]
          intro j h1 h2
          by_cases e : j = k
          · subst e; exact hp
          · exact ha j (by omega) h2
        · rw [if_neg ha, if_neg]
          intro hh
          exact ha fun j h1 h2 => hh j (by omega) h2
      · rw [if_neg hp] at h1
        rw [loopO_inr h1, if_neg]
        intro hh
        exact hp (hh k (Nat.le_refl _) (by omega))
  have := this n 0 (by omega)
  simpa using this
open Classical in
/-- A loop that ends with a value at the first place that holds. -/
theorem loopO_any {β : Type} {f : Int → Option (Int ⊕ (β ⊕ Unit))} (n : Nat) (p : Nat → Prop) (b : β)
    (h : ∀ k : Nat, k < n → f (k : Int) = some (if p k then .inr (.inl b) else .inl ((k : Int) + 1))) (he : f (n : Int) = some (.inr (.inr ()))) :
    loopO f 0 = some (if ∃ k, k < n ∧ p k then .inl b else .inr ()) := by
  have : ∀ m k : Nat, k + m = n → loopO f (k : Int) = some (if ∃ j, k ≤ j ∧ j < n ∧ p j then .inl b else .inr ()) := by
    intro m
    induction m with
    | zero =>
      intro k hk
      have : k = n := by omega
      subst this
      rw [loopO_inr he, if_neg (fun ⟨j, h1, h2, _⟩ => absurd h1 (by omega))]
    | succ m ih =>
      intro k hk
      have h1 := h k (by omega)
      by_cases hp : p k
      · rw [if_pos hp] at h1
        rw [loopO_inr h1, if_pos ⟨k, Nat.le_refl _, by omega, hp⟩]
      · rw [if_neg hp] at h1
        rw [loopO_inl h1]
        have := ih (k + 1) (by omega)
        rw [show ((k : Int) + 1) = ((k + 1 : Nat) : Int) by omega, this]
        by_cases ha : ∃ j, k + 1 ≤ j ∧ j < n ∧ p j
        · obtain ⟨j, h1, h2, h3⟩ := ha
          rw [if_pos ⟨j, h1, h2, h3⟩, if_pos ⟨j, by omega, h2, h3⟩]
        · rw [if_neg ha, if_neg]
          rintro ⟨j, h1, h2, h3⟩
          by_cases e : j = k
          · subst e; exact hp h3
          · exact ha ⟨j, by omega, h2, h3⟩
  have := this n 0 (by omega)
  simpa using this
/-- A list grown place by place. -/
theorem loopO_grow {α : Type} {f : List α × Int → Option ((List α × Int) ⊕ List α)} (n : Nat) (g : Nat → List α)
    (h : ∀ k : Nat, k < n → f ((List.range k).flatMap g, (k : Int)) = some (.inl ((List.range k).flatMap g ++ g k, (k : Int) + 1)))
    (he : f ((List.range n).flatMap g, (n : Int)) = some (.inr ((List.range n).flatMap g))) :
    loopO f ([], 0) = some ((List.range n).flatMap g) := by
  refine loopO_for (inv := fun k => ((List.range k).flatMap g, (k : Int))) n (fun k hk => ?_) he
  rw [h k hk]
  simp [List.range_succ]
theorem grow_len {α : Type} (g : Nat → List α) (m : Nat) (hg : ∀ k, (g k).length ≤ m) : ∀ k, ((List.range k).flatMap g).length ≤ k * m
  | 0 => by simp
  | k + 1 => by
    have := grow_len g m hg k
    have := hg k
    simp only [List.range_succ, List.flatMap_append, List.flatMap_cons, List.flatMap_nil, List.append_nil, List.length_append, Nat.add_mul, Nat.one_mul]
    omega
/-- A list turned place by place. -/
theorem loopO_turn {α : Type} {f : Int × List α → Option ((Int × List α) ⊕ List α)} (l : List α) (g : Nat → α)
    (h : ∀ (k : Nat) (pre post : List α) (x : α), k < l.length → pre.length = k → l[k]? = some x → f ((k : Int), pre ++ x :: post) = some (.inl ((k : Int) + 1, pre ++ g k :: post)))
    (he : ∀ l', f ((l.length : Int), l') = some (.inr l')) :
    loopO f (0, l) = some ((List.range l.length).map g) := by
  have : ∀ m k : Nat, k + m = l.length → loopO f ((k : Int), (List.range k).map g ++ l.drop k) = some ((List.range l.length).map g) := by
    intro m
    induction m with
    | zero =>
      intro k hk
      have hk : k = l.length := by omega
      subst hk
      rw [loopO_inr (he _)]
      simp
    | succ m ih =>
      intro k hk
      have hlt : k < l.length := by omega
      rw [List.drop_eq_getElem_cons hlt, loopO_inl (h k _ _ _ hlt (by simp) (List.getElem?_eq_getElem hlt))]
      have := ih (k + 1) (by omega)
      rw [List.range_succ, List.map_append] at this
      simpa using this
  have := this l.length 0 (by omega)
  simpa using this
theorem mod_mid {α : Type} (pre post : List α) (x : α) (k : Nat) (u : α → α) (hk : pre.length = k) : mod? (pre ++ x :: post) k u = some (pre ++ u x :: post) := by
  subst hk
  rw [mod_some _ _ _ (by simp)]
  simp
theorem idx_get {α : Type} {l : List α} {k : Nat} {x : α} (h : l[k]? = some x) : idx? l (k : Int) = some x := by
  obtain ⟨hk, e⟩ := List.getElem?_eq_some_iff.1 h
  rw [idx_nat _ _ hk, e]
open Classical in
theorem loopO_alls {α : Type} {f : Int → Option (Int ⊕ (Bool ⊕ Unit))} (l : List α) (p : α → Prop)
    (h : ∀ (k : Nat) (x : α), k < l.length → l[k]? = some x → f (k : Int) = some (if p x then .inl ((k : Int) + 1) else .inr (.inl false)))
    (he : f (l.length : Int) = some (.inr (.inr ()))) : loopO f 0 = some (if ∀ x ∈ l, p x then .inr () else .inl false) := by
  rw [loopO_all l.length (fun k => ∀ x, l[k]? = some x → p x) (fun k hk => ?_) he]
  · have : (∀ k, k < l.length → ∀ x, l[k]? = some x → p x) ↔ ∀ x ∈ l, p x := by
      constructor
      · intro h x hx
        obtain ⟨k, hk, e⟩ := List.getElem_of_mem hx
        exact h k hk x (List.getElem?_eq_some_iff.2 ⟨hk, e⟩)
      · intro h k hk x hx
        exact h x (List.mem_of_getElem? hx)
    by_cases hp : ∀ x ∈ l, p x
    · rw [if_pos hp, if_pos (this.2 hp)]
    · rw [if_neg hp, if_neg fun hh => hp (this.1 hh)]
  · have e := List.getElem?_eq_getElem hk
    rw [h k _ hk e]
    by_cases hp : p l[k]
    · rw [if_pos hp, if_pos (fun x hx => by rw [e] at hx; cases hx; exact hp)]
    · rw [if_neg hp, if_neg (fun hh => hp (hh _ e))]
open Classical in
theorem loopO_anys {α β : Type} {f : Int → Option (Int ⊕ (β ⊕ Unit))} (l : List α) (p : α → Prop) (b : β)
    (h : ∀ (k : Nat) (x : α), k < l.length → l[k]? = some x → f (k : Int) = some (if p x then .inr (.inl b) else .inl ((k : Int) + 1)))
    (he : f (l.length : Int) = some (.inr (.inr ()))) : loopO f 0 = some (if ∃ x ∈ l, p x then .inl b else .inr ()) := by
  rw [loopO_any l.length (fun k => ∃ x, l[k]? = some x ∧ p x) b (fun k hk => ?_) he]
  · have : (∃ k, k < l.length ∧ ∃ x, l[k]? = some x ∧ p x) ↔ ∃ x ∈ l, p x := by
      constructor
      · rintro ⟨k, hk, x, hx, hp⟩
        exact ⟨x, List.mem_of_getElem? hx, hp⟩
      · rintro ⟨x, hx, hp⟩
        obtain ⟨k, hk, e⟩ := List.getElem_of_mem hx
        exact ⟨k, hk, x, List.getElem?_eq_some_iff.2 ⟨hk, e⟩, hp⟩
    by_cases hp : ∃ x ∈ l, p x
    · rw [if_pos hp, if_pos (this.2 hp)]
    · rw [if_neg hp, if_neg fun hh => hp (this.1 hh)]
  · have e := List.getElem?_eq_getElem hk
    rw [h k _ hk e]
    by_cases hp : p l[k]
    · rw [if_pos hp, if_pos ⟨_, e, hp⟩]
    · rw [if_neg hp, if_neg]
      rintro ⟨x, hx, hh⟩
      rw [e] at hx; cases hx; exact hp hh
/-- A list grown out of another one's places, from a place on. -/
theorem loopO_growl {α β : Type} {f : List β × Int → Option ((List β × Int) ⊕ List β)} (l : List α) (g : α → List β) (hg : ∀ x, (g x).length ≤ 1)
    (h : ∀ (k : Nat) (x : α) (out : List β), k < l.length → l[k]? = some x → out.length ≤ k → f (out, (k : Int)) = some (.inl (out ++ g x, (k : Int) + 1)))
    (he : ∀ out, f (out, (l.length : Int)) = some (.inr out)) :
    ∀ (m k : Nat) (out : List β), k + m = l.length → out.length ≤ k → loopO f (out, (k : Int)) = some (out ++ (l.drop k).flatMap g)
  | 0, k, out, hk, ho => by
    have hk : k = l.length := by omega
    subst hk
    rw [loopO_inr (he _)]; simp
  | m + 1, k, out, hk, ho => by
    have hlt : k < l.length := by omega
    rw [loopO_inl (h k _ _ hlt (List.getElem?_eq_getElem hlt) ho), List.drop_eq_getElem_cons hlt, List.flatMap_cons]
    have := loopO_growl l g hg h he m (k + 1) (out ++ g l[k]) (by omega) (by have := hg l[k]; simp only [List.length_append]; omega)
    rw [show ((k : Int) + 1) = ((k + 1 : Nat) : Int) by omega, this, List.append_assoc]
open Classical in
/-- Two lists held against one another. -/
theorem loopO_eqs {α : Type} {f : Int → Option (Int ⊕ (Bool ⊕ Unit))} (l1 l2 : List α) (hl : l1.length = l2.length)
    (h : ∀ (k : Nat) (x y : α), k < l1.length → l1[k]? = some x → l2[k]? = some y → f (k : Int) = some (if x = y then .inl ((k : Int) + 1) else .inr (.inl false)))
    (he : f (l1.length : Int) = some (.inr (.inr ()))) : loopO f 0 = some (if l1 = l2 then .inr () else .inl false) := by
  have e := loopO_all (f := f) l1.length (fun k => l1[k]? = l2[k]?) (fun k hk => ?_) he
  · rw [e]
    by_cases hh : l1 = l2
    · subst hh
      rw [if_pos rfl, if_pos fun k hk => rfl]
    · rw [if_neg hh, if_neg]
      intro ha
      apply hh
      apply List.ext_getElem hl
      intro k h1 h2
      have := ha k h1
      rw [List.getElem?_eq_getElem h1, List.getElem?_eq_getElem h2] at this
      exact Option.some.inj this
  · have h1 := List.getElem?_eq_getElem hk
    have h2 := List.getElem?_eq_getElem (show k < l2.length by omega)
    rw [h k _ _ hk h1 h2, h1, h2]
    by_cases hh : l1[k] = l2[k]
    · rw [if_pos hh, if_pos (by rw [hh])]
    · rw [if_neg hh, if_neg (fun e => hh (Option.some.inj e))]
end Go.Proofs.PF
set_option linter.unusedVariables false
set_option linter.unusedSimpArgs false
namespace Go.Proofs.YtfjlpfjpidikjaaGreatDoor
open Go.Proofs.PF
theorem lenMax_eq : lenMax = 4294967296 := rfl
theorem wrI {n m : Int} (h : n = m) (h1 : -9223372036854775808 ≤ m ∧ m ≤ 9223372036854775807) : wr n = m := by subst h; exact wr_eq h1
/-! ### Rows -/
/-- What each of a list's items gives, its place told. -/
def rows {α β : Type} (t : Nat → α → List β) : Nat → List α → List β
  | _, [] => []
  | k, x :: r => t k x ++ rows t (k + 1) r
theorem rows_flat {α β : Type} (g : α → List β) : ∀ (l : List α) (k : Nat), rows (fun _ x => g x) k l = l.flatMap g
  | [], _ => rfl
  | x :: r, k => by rw [rows, rows_flat g r, List.flatMap_cons]
theorem rows_mem {α β : Type} {t : Nat → α → List β} {p : β → Prop} : ∀ {l : List α} {k : Nat}, (∀ j, ∀ x ∈ l, ∀ b ∈ t j x, p b) → ∀ b ∈ rows t k l, p b
  | [], _, _, b, hb => by cases hb
  | x :: r, k, h, b, hb => by
    rcases List.mem_append.1 hb with hb | hb
    · exact h k x (by simp) b hb
    · exact rows_mem (fun j y hy => h j y (List.mem_cons_of_mem _ hy)) b hb
theorem loopO_rows {α β σ ρ : Type} {f : σ → Option (σ ⊕ ρ)} (st : List β → Int → σ) (re : List β → ρ) (l : List α) (t : Nat → α → List β) (B : Nat)
    (h : ∀ (k : Nat) x s, k < l.length → l[k]? = some x → s.length + (t k x).length ≤ B → f (st s (k : Int)) = some (.inl (st (s ++ t k x) ((k : Int) + 1))))
    (he : ∀ s, f (st s (l.length : Int)) = some (.inr (re s))) (s0 : List β) (hB : s0.length + (rows t 0 l).length ≤ B) : loopO f (st s0 0) = some (re (s0 ++ rows t 0 l)) := by
  have : ∀ (j k : Nat) (s : List β), k + j = l.length → s.length + (rows t k (l.drop k)).length ≤ B → loopO f (st s (k : Int)) = some (re (s ++ rows t k (l.drop k))) := by
    intro j
    induction j with
    | zero =>
      intro k s hk _
      have : k = l.length := by omega
      subst this
      rw [loopO_inr (he s)]
      simp [rows]
    | succ j ih =>
      intro k s hk hs
      have hlt : k < l.length := by omega
      rw [List.drop_eq_getElem_cons hlt, rows] at hs ⊢
      rw [List.length_append] at hs
      rw [loopO_inl (h k _ s hlt (List.getElem?_eq_getElem hlt) (by omega)), show ((k : Int) + 1) = ((k + 1 : Nat) : Int) by omega, ih (k + 1) _ (by omega) (by rw [List.length_append]; omega), List.append_assoc]
  have := this l.length 0 s0 (by omega) (by simpa using hB)
  simpa using this
/-! ### Numbers -/
theorem dig_len : ∀ (k u : Nat), u < 10 ^ (k + 1) → (Lib.decDigits u).length ≤ k + 1 := by
  intro k
  induction k with
  | zero => intro u h; rw [Lib.decDigits, dif_pos (by omega)]; simp
  | succ k ih =>
    intro u h
    rw [Lib.decDigits]
    split
    · simp
    · rw [List.length_append]
      have := ih (u / 10) (by rw [Nat.pow_succ] at h; omega)
      simp; omega
theorem dig_pos (u : Nat) : 0 < (Lib.decDigits u).length := by
  rw [Lib.decDigits]
  split <;> simp
theorem dig_mem : ∀ (u : Nat), ∀ b ∈ Lib.decDigits u, 48 ≤ b.toNat ∧ b.toNat ≤ 57 := by
  intro u
  induction u using Nat.strongRecOn with
  | _ u ih =>
    intro b hb
    rw [Lib.decDigits] at hb
    have one : ∀ d, d < 10 → 48 ≤ (UInt8.ofNat (48 + d)).toNat ∧ (UInt8.ofNat (48 + d)).toNat ≤ 57 := by
      intro d hd
      rw [UInt8.toNat_ofNat']
      omega
    split at hb
    · rename_i h
      simp only [List.mem_singleton] at hb
      subst hb
      exact one u h
    · rcases List.mem_append.1 hb with hb | hb
      · exact ih (u / 10) (by omega) b hb
      · simp only [List.mem_singleton] at hb
        subst hb
        exact one _ (by omega)
/-- A numeral's number. -/
def numOf (l : List UInt8) : Nat := l.foldl (fun a b => 10 * a + (b.toNat - 48)) 0
theorem numOf_dig : ∀ (u : Nat), numOf (Lib.decDigits u) = u := by
  intro u
  induction u using Nat.strongRecOn with
  | _ u ih =>
    rw [Lib.decDigits]
    split
    · rename_i h
      simp only [numOf, List.foldl_cons, List.foldl_nil, UInt8.toNat_ofNat']
      omega
    · have := ih (u / 10) (by omega)
      simp only [numOf, List.foldl_append, List.foldl_cons, List.foldl_nil, UInt8.toNat_ofNat'] at this ⊢
      rw [this]
      omega
theorem dig_inj {u v : Nat} (h : Lib.decDigits u = Lib.decDigits v) : u = v := by rw [← numOf_dig u, h, numOf_dig]
theorem itoa_len {n : Int} (h : I64 n) : (Lib.itoa n).length ≤ 20 := by
  unfold Lib.itoa
  have h1 := h.1
  have h2 := h.2
  split
  · have := dig_len 18 n.natAbs (by omega)
    simp; omega
  · have := dig_len 18 n.toNat (by omega)
    omega
theorem itoa_mem (n : Int) : ∀ b ∈ Lib.itoa n, b = 45 ∨ (48 ≤ b.toNat ∧ b.toNat ≤ 57) := by
  intro b hb
  unfold Lib.itoa at hb
  split at hb
  · rcases List.mem_cons.1 hb with rfl | hb
    · exact .inl rfl
    · exact .inr (dig_mem _ b hb)
  · exact .inr (dig_mem _ b hb)
theorem itoa_inj {n m : Int} (h : Lib.itoa n = Lib.itoa m) : n = m := by
  have no : ∀ u (l : List UInt8), Lib.decDigits u ≠ 45 :: l := by
    intro u l e
    have := dig_mem u 45 (by rw [e]; simp)
    simp at this
  unfold Lib.itoa at h
  split at h
  · split at h
    · simp only [List.cons.injEq, true_and] at h
      have := dig_inj h
      omega
    · exact absurd h.symm (no _ _)
  · split at h
    · exact absurd h (no _ _)
    · have := dig_inj h
      omega
theorem Itoa_eq {n : Int} (h : I64 n) : strconv_Itoa n = some (Lib.itoa n) := by
  unfold strconv_Itoa
  exact if_pos h
theorem dd {m : Nat} (h : ¬ m < 10) : Lib.decDigits m = Lib.decDigits (m / 10) ++ [UInt8.ofNat (48 + m % 10)] := by rw [Lib.decDigits, dif_neg h]
/-! ### Words -/
def hd (k : Nat) : UInt8 := ([48, 49, 50, 51, 52, 53, 54, 55, 56, 57, 97, 98, 99, 100, 101, 102] : List UInt8).getD k 0
def hx (b : UInt8) : List UInt8 := [hd (b.toNat / 16), hd (b.toNat % 16)]
def word (s : List UInt8) : List UInt8 := if s = [] then [45] else s.flatMap hx
theorem hd_idx : ∀ k : Fin 16, idx? ([48, 49, 50, 51, 52, 53, 54, 55, 56, 57, 97, 98, 99, 100, 101, 102] : List UInt8) (k.val : Int) = some (hd k.val) := by decide
theorem hd_at {k : Nat} (h : k < 16) : idx? ([48, 49, 50, 51, 52, 53, 54, 55, 56, 57, 97, 98, 99, 100, 101, 102] : List UInt8) (k : Int) = some (hd k) := hd_idx ⟨k, h⟩
theorem hx_len (s : List UInt8) : (s.flatMap hx).length = 2 * s.length := by
  induction s with
  | nil => rfl
  | cons b s ih => rw [List.flatMap_cons, List.length_append, ih, List.length_cons]; simp [hx]; omega
theorem word_len (s : List UInt8) : (word s).length ≤ 2 * s.length + 1 := by
  unfold word
  split
  · simp
  · rw [hx_len]; omega
theorem u8_lt (b : UInt8) : b.toNat < 256 := b.toNat_lt
theorem shr4 (b : UInt8) : shrI .u8 (b.toNat : Int) 4 = ((b.toNat / 16 : Nat) : Int) := by
  show (b.toNat : Int).fdiv (2 ^ min (4 : Int).toNat IntKind.u8.bits) = _
  rw [show (2 : Int) ^ min (4 : Int).toNat IntKind.u8.bits = 16 by decide, Int.fdiv_eq_ediv_of_nonneg _ (by decide)]
  omega
theorem and15 (b : UInt8) : andI .u8 (b.toNat : Int) 15 = ((b.toNat % 16 : Nat) : Int) := by
  have all : ∀ k : Fin 256, andI .u8 (k.val : Int) 15 = ((k.val % 16 : Nat) : Int) := by decide +kernel
  exact all ⟨b.toNat, u8_lt b⟩
theorem ints_hx (b : UInt8) : [((hd (b.toNat / 16)).toNat : Int), ((hd (b.toNat % 16)).toNat : Int)] = intsOf (hx b) := rfl
theorem bytes_ints (s : List UInt8) : bytesOf (intsOf s) = s := by
  simp only [bytesOf, intsOf, List.map_map]
  refine (List.map_congr_left fun b _ => ?_).trans (List.map_id s)
  show UInt8.ofNat ((b.toNat : Int)).toNat = b
  simp
theorem ints_app (a b : List UInt8) : intsOf (a ++ b) = intsOf a ++ intsOf b := by simp [intsOf]
theorem ints_flat (s : List UInt8) : s.flatMap (fun b => intsOf (hx b)) = intsOf (s.flatMap hx) := by
  induction s with
  | nil => rfl
  | cons b s ih => rw [List.flatMap_cons, List.flatMap_cons, ih, ints_app]
theorem put_eq (l out : List Int) (h : out.length + l.length ≤ lenMax) : lines_writer_put l (Glines_writer.mk out) = some (Glines_writer.mk (out ++ l)) := by
  unfold lines_writer_put
  rw [if_pos h]
theorem word0_eq (s : List UInt8) (out : List Int) (h : out.length + 2 * s.length ≤ 1000000000) : lines_writer_word_0 s (List.length s : Int) 0 (Glines_writer.mk out) = some (Glines_writer.mk (out ++ intsOf (s.flatMap hx))) := by
  unfold lines_writer_word_0
  have := loopO_rows (f := fun s_1 : Int × Glines_writer => lines_writer_word_0_step s (List.length s : Int) s_1.1 s_1.2) (fun o i => (i, Glines_writer.mk o)) Glines_writer.mk s (fun _ b => intsOf (hx b)) 1000000000
    (fun k b o hk hb hl => by
      show lines_writer_word_0_step _ _ _ _ = _
      unfold lines_writer_word_0_step
      have hl' : o.length + 2 ≤ 1000000000 := hl
      have l := u8_lt b
      rw [if_pos (by omega), idx_get hb, Option.bind_some, shr4, hd_at (by omega), Option.bind_some, Option.bind_some, and15, hd_at (by omega), Option.bind_some, put_eq _ _ (by rw [lenMax_eq]; simp; omega), Option.bind_some, ints_hx]
      rw [wrI rfl (by omega)])
    (fun o => by
      show lines_writer_word_0_step _ _ _ _ = _
      unfold lines_writer_word_0_step
      rw [if_neg (by omega)]) out (by rw [rows_flat, ints_flat]; simp only [intsOf, List.length_map, hx_len]; exact h)
  rw [rows_flat, ints_flat] at this
  exact this
theorem rhex (s : List UInt8) (h : s.length ≤ 500000000) : r40_hex s = some (word s) := by
  unfold r40_hex word
  by_cases e : s = []
  · subst e; rfl
  · rw [if_neg e, if_neg e, wrI rfl (by omega), if_pos ⟨by omega, by rw [lenMax_eq]; omega⟩]
    have := loopO_rows (f := fun s_1 : List Int × Int => r40_hex_0_step s ([48, 49, 50, 51, 52, 53, 54, 55, 56, 57, 97, 98, 99, 100, 101, 102] : List UInt8) s_1.1 s_1.2) (fun o i => (o, i)) id s (fun _ b => intsOf (hx b)) 1000000000
      (fun k b o hk hb hl => by
        show r40_hex_0_step _ _ _ _ = _
        unfold r40_hex_0_step
        have hl' : o.length + 2 ≤ 1000000000 := hl
        have l := u8_lt b
        have e1 : IntKind.wrap .u8 (Int.tdiv (b.toNat : Int) 16) = ((b.toNat / 16 : Nat) : Int) := by
          rw [Int.tdiv_eq_ediv_of_nonneg (by omega)]
          simp only [IntKind.wrap, IntKind.bits, IntKind.signed]
          simp
          omega
        have e2 : Int.tmod (b.toNat : Int) 16 = ((b.toNat % 16 : Nat) : Int) := by rw [Int.tmod_eq_emod_of_nonneg (by omega)]; omega
        rw [if_pos (by omega), idx_get hb, Option.bind_some, e1, hd_at (by omega), Option.bind_some, Option.bind_some, e2, hd_at (by omega), Option.bind_some, if_pos (by rw [lenMax_eq]; simp; omega), ints_hx]
        rw [wrI rfl (by omega)])
      (fun o => by
        show r40_hex_0_step _ _ _ _ = _
        unfold r40_hex_0_step
        rw [if_neg (by omega)]
        rfl) [] (by rw [rows_flat, ints_flat]; simp only [intsOf, List.length_map, hx_len]; simp; omega)
    rw [rows_flat, ints_flat] at this
    unfold r40_hex_0
    rw [this, Option.bind_some]
    simp only [id, List.nil_append, bytes_ints]
/-! ### Words as numbers -/
def dg (b : UInt8) : Prop := 48 ≤ b.toNat ∧ b.toNat ≤ 57
instance (b : UInt8) : Decidable (dg b) := by unfold dg; infer_instance
def numF : List UInt8 → Nat → Option Nat
  | [], n => some n
  | b :: r, n => if dg b then numF r (10 * n + (b.toNat - 48)) else none
def numV (s : List UInt8) : Option Nat := if s.length = 0 ∨ 6 < s.length ∨ (1 < s.length ∧ s[0]? = some 48) then none else numF s 0
theorem num_loop {β : Type} {f : Int × Int → Option ((Int × Int) ⊕ (β ⊕ Int))} (s : List UInt8) (bad : Int → β) (hs : s.length ≤ 6)
    (h : ∀ (k : Nat) (b : UInt8) (n : Nat), k < s.length → s[k]? = some b → n < 1000000 → f ((n : Int), (k : Int)) = some (if dg b then .inl (((10 * n + (b.toNat - 48) : Nat) : Int), (k : Int) + 1) else .inr (.inl (bad n))))
    (he : ∀ n, f (n, (s.length : Int)) = some (.inr (.inr n))) : ∃ m, loopO f (0, 0) = some (match numF s 0 with | some n => .inr (n : Int) | none => .inl (bad m)) := by
  have : ∀ (j k n : Nat), k + j = s.length → n < 10 ^ k → ∃ m, loopO f ((n : Int), (k : Int)) = some (match numF (s.drop k) n with | some n => .inr (n : Int) | none => .inl (bad m)) := by
    intro j
    induction j with
    | zero =>
      intro k n hk _
      obtain rfl : k = s.length := by omega
      refine ⟨0, ?_⟩
      rw [loopO_inr (he _), List.drop_length]
      rfl
    | succ j ih =>
      intro k n hk hn
      have hlt : k < s.length := by omega
      have hn6 : n < 1000000 := by
        have : 10 ^ k ≤ 10 ^ 6 := Nat.pow_le_pow_right (by omega) (by omega)
        omega
      have hb := h k s[k] n hlt (List.getElem?_eq_getElem hlt) hn6
      rw [List.drop_eq_getElem_cons hlt, numF]
      have lb := s[k].toNat_lt
      by_cases hd : dg s[k]
      · rw [if_pos hd] at hb ⊢
        rw [loopO_inl hb, show ((k : Int) + 1) = ((k + 1 : Nat) : Int) by omega]
        have hd' := hd.2
        have hd'' := hd.1
        exact ih (k + 1) _ (by omega) (by rw [Nat.pow_succ]; omega)
      · rw [if_neg hd] at hb ⊢
        exact ⟨n, loopO_inr hb⟩
  exact this s.length 0 0 (by omega) (by simp)
theorem wrap8 {n : Int} (h : 0 ≤ n ∧ n ≤ 255) : IntKind.wrap .u8 n = n := by
  simp only [IntKind.wrap, IntKind.bits, IntKind.signed]
  simp
  omega
theorem numF_nil (n : Nat) : numF [] n = some n := rfl
/-! ### Words as bytes -/
def nib (b : UInt8) : Option Nat := if 48 ≤ b.toNat ∧ b.toNat ≤ 57 then some (b.toNat - 48) else if 97 ≤ b.toNat ∧ b.toNat ≤ 102 then some (b.toNat - 87) else none
def bytesG : List UInt8 → Option (List UInt8)
  | a :: b :: r => match nib a, nib b with
    | some x, some y => (bytesG r).map (UInt8.ofNat (16 * x + y) :: ·)
    | _, _ => none
  | _ => some []
def bytesV (s : List UInt8) : Option (List UInt8) := if s = [45] then some [] else if s.length = 0 ∨ s.length % 2 = 1 then none else bytesG s
theorem nib_lt {b : UInt8} {x : Nat} (h : nib b = some x) : x < 16 := by
  unfold nib at h
  split at h
  · injection h with h; omega
  · split at h
    · injection h with h; omega
    · cases h
theorem pair_loop {β : Type} {f : List Int × Int → Option ((List Int × Int) ⊕ (β ⊕ List Int))} (s : List UInt8) (bad : List Int → β) (hs : s.length ≤ 1000000000)
    (h : ∀ (k : Nat) (a b : UInt8) (out : List Int), k + 1 < s.length → s[k]? = some a → s[k + 1]? = some b → out.length ≤ 1000000000 → f (out, (k : Int)) = some (match nib a, nib b with
      | some x, some y => .inl (out ++ [((16 * x + y : Nat) : Int)], (k : Int) + 2)
      | _, _ => .inr (.inl (bad out))))
    (he : ∀ out, f (out, ((2 * (s.length / 2) : Nat) : Int)) = some (.inr (.inr out))) : ∃ m, loopO f ([], 0) = some (match bytesG s with | some l => .inr (intsOf l) | none => .inl (bad m)) := by
  have : ∀ (j k : Nat) (out : List Int), k + 2 * j = 2 * (s.length / 2) → out.length ≤ k → ∃ m, loopO f (out, (k : Int)) = some (match bytesG (s.drop k) with | some l => .inr (out ++ intsOf l) | none => .inl (bad m)) := by
    intro j
    induction j with
    | zero =>
      intro k out hk _
      obtain rfl : k = 2 * (s.length / 2) := by omega
      refine ⟨[], ?_⟩
      rw [loopO_inr (he _)]
      have hl : (s.drop (2 * (s.length / 2))).length < 2 := by rw [List.length_drop]; omega
      match hd : s.drop (2 * (s.length / 2)), hl with
      | [], _ => simp [bytesG, intsOf]
      | [x], _ => simp [bytesG, intsOf]
    | succ j ih =>
      intro k out hk ho
      have h1 : k + 1 < s.length := by omega
      have h0 : k < s.length := by omega
      have hb := h k s[k] s[k + 1] out h1 (List.getElem?_eq_getElem h0) (List.getElem?_eq_getElem h1) (by omega)
      rw [List.drop_eq_getElem_cons h0, List.drop_eq_getElem_cons h1, bytesG]
      cases ha : nib s[k] with
      | none =>
        rw [ha] at hb
        exact ⟨out, loopO_inr hb⟩
      | some x =>
        cases hc : nib s[k + 1] with
        | none =>
          rw [ha, hc] at hb
          exact ⟨out, loopO_inr hb⟩
        | some y =>
          rw [ha, hc] at hb
          rw [loopO_inl hb, show ((k : Int) + 2) = ((k + 2 : Nat) : Int) by omega]
          obtain ⟨m, hm⟩ := ih (k + 2) (out ++ [((16 * x + y : Nat) : Int)]) (by omega) (by simp; omega)
          refine ⟨m, ?_⟩
          rw [hm]
          have hx := nib_lt ha
          have hy := nib_lt hc
          cases bytesG (s.drop (k + 1 + 1)) with
          | none => rfl
          | some l =>
            simp only [Option.map_some, intsOf, List.map_cons, List.append_assoc, List.cons_append, List.nil_append]
            rw [UInt8.toNat_ofNat', Nat.mod_eq_of_lt (by omega)]
  have := this (s.length / 2) 0 [] (by omega) (by simp)
  simpa using this
def digs : List UInt8 := [48, 49, 50, 51, 52, 53, 54, 55, 56, 57, 97, 98, 99, 100, 101, 102]
theorem index_eq (b : UInt8) : strings_IndexByte digs ((b.toNat : Nat) : Int) = some (match nib b with | some x => (x : Int) | none => -1) := by
  have all : ∀ k : Fin 256, Lib.indexByte digs (UInt8.ofNat k.val) = (match nib (UInt8.ofNat k.val) with | some x => (x : Int) | none => -1) := by decide +kernel
  have := all ⟨b.toNat, b.toNat_lt⟩
  simp only [UInt8.ofNat_toNat] at this
  unfold strings_IndexByte
  have e : ((b.toNat : Nat) : Int).toNat.toUInt8 = b := by rw [Int.toNat_natCast]; exact UInt8.ofNat_toNat
  rw [e, this]
theorem or_eq {x y : Nat} (hx : x < 16) (hy : y < 16) : w8 (orI .i64 (shlI .i64 (x : Int) 4) (y : Int)) = ((16 * x + y : Nat) : Int) := by
  have all : ∀ a b : Fin 16, orI .i64 (shlI .i64 (a.val : Int) 4) (b.val : Int) = ((16 * a.val + b.val : Nat) : Int) := by decide +kernel
  rw [all ⟨x, hx⟩ ⟨y, hy⟩, w8_eq (by simp only; omega)]
/-! ### There and back -/
theorem nib_hd : ∀ k : Fin 16, nib (hd k.val) = some k.val := by decide
theorem hd_nib {b : UInt8} {x : Nat} (h : nib b = some x) : hd x = b := by
  have all : ∀ k : Fin 256, ∀ x : Fin 16, nib (UInt8.ofNat k.val) = some x.val → hd x.val = UInt8.ofNat k.val := by decide +kernel
  have := all ⟨b.toNat, b.toNat_lt⟩ ⟨x, nib_lt h⟩
  simp only [UInt8.ofNat_toNat] at this
  exact this h
theorem bytesG_hx : ∀ (s : List UInt8), bytesG (s.flatMap hx) = some s
  | [] => rfl
  | b :: s => by
    have l := u8_lt b
    rw [List.flatMap_cons]
    simp only [hx, List.cons_append, List.nil_append, bytesG]
    rw [nib_hd ⟨b.toNat / 16, by omega⟩, nib_hd ⟨b.toNat % 16, by omega⟩]
    simp only
    rw [bytesG_hx s, Option.map_some]
    rw [show 16 * (b.toNat / 16) + b.toNat % 16 = b.toNat by omega, UInt8.ofNat_toNat]
theorem bytesV_word (s : List UInt8) : bytesV (word s) = some s := by
  unfold word
  by_cases h : s = []
  · subst h; rfl
  · rw [if_neg h]
    have hl := hx_len s
    have h0 : s.length ≠ 0 := by simpa using h
    unfold bytesV
    rw [if_neg (by intro e; rw [e] at hl; simp at hl; omega), if_neg (by omega), bytesG_hx]
theorem hx_bytesG : ∀ (s : List UInt8) {x : List UInt8}, bytesG s = some x → s.length % 2 = 0 → x.flatMap hx = s
  | [], x, h, _ => by cases h; rfl
  | [a], x, _, h2 => by simp at h2
  | a :: b :: r, x, h, h2 => by
    rw [bytesG] at h
    cases ha : nib a with
    | none => rw [ha] at h; cases h
    | some p =>
      cases hb : nib b with
      | none => rw [ha, hb] at h; cases h
      | some q =>
        rw [ha, hb] at h
        obtain ⟨y, hy, rfl⟩ := Option.map_eq_some_iff.1 h
        have hp := nib_lt ha
        have hq := nib_lt hb
        rw [List.flatMap_cons, hx_bytesG r hy (by simp only [List.length_cons] at h2; omega)]
        simp only [hx, UInt8.toNat_ofNat']
        rw [show (16 * p + q) % 2 ^ 8 / 16 = p by omega, show (16 * p + q) % 2 ^ 8 % 16 = q by omega, hd_nib ha, hd_nib hb]
        rfl
theorem word_bytesV {s x : List UInt8} (h : bytesV s = some x) : word x = s := by
  unfold bytesV at h
  by_cases h1 : s = [45]
  · rw [if_pos h1] at h; cases h; rw [h1]; rfl
  · rw [if_neg h1] at h
    split at h
    · cases h
    · rename_i h2
      have := hx_bytesG s h (by omega)
      unfold word
      rw [if_neg, this]
      rintro rfl
      rw [← this] at h2
      simp at h2
end Go.Proofs.YtfjlpfjpidikjaaGreatDoor
set_option linter.unusedVariables false
set_option linter.unusedSimpArgs false
namespace Go.Proofs.YtfjlpfjpidikjaaGreatDoor
open Go.Proofs.PF
theorem bytesG_len : ∀ (s : List UInt8) {x : List UInt8}, bytesG s = some x → x.length ≤ s.length
  | [], x, h => by cases h; simp
  | [a], x, h => by cases h; simp
  | a :: b :: r, x, h => by
    rw [bytesG] at h
    split at h
    · obtain ⟨y, hy, rfl⟩ := Option.map_eq_some_iff.1 h
      have := bytesG_len r hy
      simp only [List.length_cons]
      omega
    · cases h
theorem bytesV_len {s x : List UInt8} (h : bytesV s = some x) : x.length ≤ s.length := by
  unfold bytesV at h
  split at h
  · cases h; simp
  · split at h
    · cases h
    · exact bytesG_len s h
theorem known40 : (l40_known).bind (fun r => some r) = some true := rfl
theorem known40' : l40_known = some true := rfl
end Go.Proofs.YtfjlpfjpidikjaaGreatDoor
set_option linter.unusedVariables false
set_option linter.unusedSimpArgs false
namespace Go.Proofs.YtfjlpfjpidikjaaGreatDoor.cf
open Go.Proofs.PF
def I (n : Int) : Prop := -9223372036854775808 ≤ n ∧ n ≤ 9223372036854775807
structure CIn (c : GConf) : Prop where
  n : I c.N
  f : I c.F
  d : I c.D
  period : I c.Period
  rate : I c.Rate
  drift : I c.Drift
  table : (c.Table.length : Int) ≤ 9223372036854775807
  own : ∀ x ∈ c.Table, I x
def Nodes (c : GConf) : Prop := 4 ≤ c.N ∧ c.N ≤ 13 ∧ 0 ≤ c.F ∧ c.F ≤ 4 ∧ 3 * c.F < c.N
instance (c : GConf) : Decidable (Nodes c) := by unfold Nodes; infer_instance
def Links (c : GConf) : Prop := 1 ≤ c.D ∧ c.D ≤ 4
instance (c : GConf) : Decidable (Links c) := by unfold Links; infer_instance
def Nums (c : GConf) : Prop := 6 * (c.F + 1) * c.D + 1 ≤ c.Period ∧ c.Period ≤ 400 ∧ 1 ≤ c.Rate ∧ c.Rate ≤ 64 ∧ 0 ≤ c.Drift ∧ c.Drift ≤ c.Rate - 1 ∧ 0 ≤ c.Offset ∧ c.Offset ≤ 30000 ∧ 1 ≤ c.Slot ∧ c.Slot ≤ 30000 ∧ 2 ≤ c.Mod ∧ c.Mod ≤ 250 ∧ 1 ≤ c.Fresh ∧ c.Fresh ≤ 100
instance (c : GConf) : Decidable (Nums c) := by unfold Nums; infer_instance
def Owned (c : GConf) : Prop := 1 ≤ c.Table.length ∧ c.Table.length ≤ 32 ∧ (∀ x ∈ c.Table, 0 ≤ x ∧ x < c.N) ∧ ∀ k : Nat, (k : Int) < c.N → (k : Int) ∈ c.Table
open Classical in
noncomputable def plainV (c : GConf) : Int := if ¬ Nodes c then 7 else if ¬ Links c then 10 else if ¬ Nums c then 8 else if ¬ Owned c then 11 else 0
theorem has_eq (s : Gconf_span) (n : Int) : conf_span_has s n = some (decide (s.f_low ≤ n ∧ n ≤ s.f_high)) := by
  unfold conf_span_has
  split <;> simp [*]
theorem within_eq (n a b : Int) : r03_within n a b = some (decide (a ≤ n ∧ n ≤ b)) := by
  unfold r03_within
  split <;> simp [*]
theorem some_dec {b : Bool} {p : Prop} [Decidable p] (h : b = true ↔ p) : some b = some (decide p) := by
  by_cases hp : p
  · rw [h.2 hp, decide_eq_true hp]
  · rw [decide_eq_false hp]
    cases b
    · rfl
    · exact absurd (h.1 rfl) hp
theorem nodes_eq (c : GConf) : conf_nodes c = some (decide (Nodes c)) := by
  unfold conf_nodes
  simp only [has_eq, Option.bind_some, decide_eq_true_eq]
  split
  · rename_i h1
    split
    · rename_i h2
      rw [wr_eq (show -9223372036854775808 ≤ 3 * c.F ∧ 3 * c.F ≤ 9223372036854775807 by omega)]
      refine some_dec ?_
      simp only [decide_eq_true_eq]
      unfold Nodes; omega
    · rename_i h2
      refine some_dec ?_
      unfold Nodes; simp; omega
  · rename_i h1
    refine some_dec ?_
    unfold Nodes; simp; omega
theorem wrI {n : Int} (h : -9223372036854775808 ≤ n) (h' : n ≤ 9223372036854775807) : wr n = n := wr_eq ⟨h, h'⟩
theorem low_eq (c : GConf) (hn : Nodes c) (hl : Links c) : wr (wr (wr (6 * wr (c.F + 1)) * c.D) + 1) = 6 * (c.F + 1) * c.D + 1 := by
  obtain ⟨_, _, f0, f4, _⟩ := hn
  obtain ⟨d0, d4⟩ := hl
  rw [wrI (n := c.F + 1) (by omega) (by omega), wrI (n := 6 * (c.F + 1)) (by omega) (by omega)]
  have h1 : 6 * (c.F + 1) * c.D ≤ 30 * 4 := Int.mul_le_mul (by omega) d4 (by omega) (by omega)
  have h2 : 0 ≤ 6 * (c.F + 1) * c.D := Int.mul_nonneg (by omega) (by omega)
  rw [wrI (n := 6 * (c.F + 1) * c.D) (by omega) (by omega), wrI (by omega) (by omega)]
theorem numbers_eq (c : GConf) (hc : CIn c) (hn : Nodes c) (hl : Links c) : conf_numbers c = some (decide (Nums c)) := by
  unfold conf_numbers
  simp only [low_eq c hn hl]
  have hr : 1 ≤ c.Rate ∧ c.Rate ≤ 64 ∨ ¬ (1 ≤ c.Rate ∧ c.Rate ≤ 64) := by omega
  have hw : wr (c.Rate - 1) = c.Rate - 1 ∨ ¬ (1 ≤ c.Rate ∧ c.Rate ≤ 64) := by
    rcases hr with h | h
    · exact .inl (wrI (by omega) (by omega))
    · exact .inr h
  generalize wr (c.Rate - 1) = w at hw
  have hiff : (∀ z ∈ [Gs_nI_spanG.mk c.Period ⟨6 * (c.F + 1) * c.D + 1, 400⟩, ⟨c.Rate, ⟨1, 64⟩⟩, ⟨c.Drift, ⟨0, w⟩⟩, ⟨c.Offset, ⟨0, 30000⟩⟩, ⟨c.Slot, ⟨1, 30000⟩⟩, ⟨c.Mod, ⟨2, 250⟩⟩, ⟨c.Fresh, ⟨1, 100⟩⟩], z.f_span.f_low ≤ z.f_n ∧ z.f_n ≤ z.f_span.f_high) ↔ Nums c := by
    simp only [List.mem_cons, List.not_mem_nil, or_false, forall_eq_or_imp, forall_eq, Nums]
    omega
  have hlen : [Gs_nI_spanG.mk c.Period ⟨6 * (c.F + 1) * c.D + 1, 400⟩, ⟨c.Rate, ⟨1, 64⟩⟩, ⟨c.Drift, ⟨0, w⟩⟩, ⟨c.Offset, ⟨0, 30000⟩⟩, ⟨c.Slot, ⟨1, 30000⟩⟩, ⟨c.Mod, ⟨2, 250⟩⟩, ⟨c.Fresh, ⟨1, 100⟩⟩].length = 7 := rfl
  generalize [Gs_nI_spanG.mk c.Period ⟨6 * (c.F + 1) * c.D + 1, 400⟩, ⟨c.Rate, ⟨1, 64⟩⟩, ⟨c.Drift, ⟨0, w⟩⟩, ⟨c.Offset, ⟨0, 30000⟩⟩, ⟨c.Slot, ⟨1, 30000⟩⟩, ⟨c.Mod, ⟨2, 250⟩⟩, ⟨c.Fresh, ⟨1, 100⟩⟩] = l at hiff hlen
  unfold conf_numbers_0
  rw [loopO_alls (f := fun s : Int => conf_numbers_0_step l l.length s) l (fun z => z.f_span.f_low ≤ z.f_n ∧ z.f_n ≤ z.f_span.f_high)
    (fun k z hk hz => by
      unfold conf_numbers_0_step
      rw [if_pos (by omega), idx_get hz, Option.bind_some, has_eq, Option.bind_some, wrI (by omega) (by omega)]
      by_cases h : z.f_span.f_low ≤ z.f_n ∧ z.f_n ≤ z.f_span.f_high
      · rw [decide_eq_true h, if_neg (by decide), if_pos h]
      · rw [decide_eq_false h, if_pos (by decide), if_neg h])
    (by unfold conf_numbers_0_step; rw [if_neg (by omega)]), Option.bind_some]
  by_cases h : Nums c
  · rw [if_pos (hiff.2 h)]; simp [h]
  · rw [if_neg (fun hh => h (hiff.1 hh))]; simp [h]
end Go.Proofs.YtfjlpfjpidikjaaGreatDoor.cf
set_option linter.unusedVariables false
set_option linter.unusedSimpArgs false
namespace Go.Proofs.YtfjlpfjpidikjaaGreatDoor.cf
open Go.Proofs.PF
def at13 (x : Ar13 Int) (k : Nat) : Int := (x.get? k).getD 0
theorem lt13 {k : Nat} (h : k < 13) : k = 0 ∨ k = 1 ∨ k = 2 ∨ k = 3 ∨ k = 4 ∨ k = 5 ∨ k = 6 ∨ k = 7 ∨ k = 8 ∨ k = 9 ∨ k = 10 ∨ k = 11 ∨ k = 12 := by omega
theorem get13 (x : Ar13 Int) (k : Nat) (h : k < 13) : x.get? k = some (at13 x k) := by
  rcases lt13 h with e | e | e | e | e | e | e | e | e | e | e | e | e <;> subst e <;> rfl
theorem set13 (x : Ar13 Int) (k : Nat) (v : Int) (h : k < 13) : ∃ y, x.set? k v = some y ∧ ∀ j, j < 13 → at13 y j = if j = k then v else at13 x j := by
  rcases lt13 h with e | e | e | e | e | e | e | e | e | e | e | e | e <;> subst e <;>
    exact ⟨_, rfl, fun j hj => by rcases lt13 hj with e | e | e | e | e | e | e | e | e | e | e | e | e <;> subst e <;> rfl⟩
theorem eta13 (x : Ar13 Int) : Ar13.mk x.a0 x.a1 x.a2 x.a3 x.a4 x.a5 x.a6 x.a7 x.a8 x.a9 x.a10 x.a11 x.a12 = x := rfl
theorem table0 (c : GConf) (sl : Gconf_span) (hn : c.N ≤ 13) (ht : c.Table.length ≤ 32) : ∀ (m k : Nat) (o : Ar13 Int), k + m = c.Table.length →
    (∀ j, j < 13 → at13 o j = ((c.Table.take k).countP (fun x => x == (j : Int)) : Nat)) →
    ∃ r, loopO (fun s : Int × (Ar13 Int) => conf_table_0_step c c.Table c.Table.length sl s.1 s.2) ((k : Int), o) = some r ∧
      ((∃ x ∈ c.Table.drop k, ¬ (0 ≤ x ∧ x < c.N)) → ∃ o', r = .inl (false, o')) ∧
      ((∀ x ∈ c.Table.drop k, 0 ≤ x ∧ x < c.N) → ∃ o', r = .inr o' ∧ ∀ j, j < 13 → at13 o' j = (c.Table.countP (fun x => x == (j : Int)) : Nat))
  | 0, k, o, hk, ho => by
    have hk : k = c.Table.length := by omega
    subst hk
    refine ⟨.inr o, loopO_inr ?_, fun h => ?_, fun _ => ⟨o, rfl, fun j hj => ?_⟩⟩
    · simp only [conf_table_0_step]; rw [if_neg (by omega)]
    · simp at h
    · rw [ho j hj, List.take_length]
  | m + 1, k, o, hk, ho => by
    have hlt : k < c.Table.length := by omega
    have hg := List.getElem?_eq_getElem hlt
    have hd := List.drop_eq_getElem_cons hlt
    generalize hx : c.Table[k] = x at hg hd
    have hstep : conf_table_0_step c c.Table c.Table.length sl (k : Int) o = if x < 0 then some (.inr (.inl (false, o))) else if c.N ≤ x then some (.inr (.inl (false, o))) else
        if 0 ≤ x ∧ x < (13 : Nat) then (Ar13.get? o (Int.toNat x)).bind fun z2 => if 0 ≤ x ∧ x < (13 : Nat) then (Ar13.set? o (Int.toNat x) (wr (z2 + 1))).bind fun y0 => some (.inl ((wr ((k : Int) + 1)), y0)) else none else none := by
      unfold conf_table_0_step
      rw [if_pos (by omega), idx_get hg, Option.bind_some, eta13]
    by_cases hok : 0 ≤ x ∧ x < c.N
    · rw [if_neg (by omega), if_neg (by omega), if_pos (by omega), get13 _ _ (by omega), Option.bind_some, if_pos (by omega), wrI (n := (k : Int) + 1) (by omega) (by omega)] at hstep
      have hw : wr (at13 o x.toNat + 1) = at13 o x.toNat + 1 := by
        rw [ho _ (by omega)]
        have := List.countP_le_length (p := fun y => y == ((x.toNat : Nat) : Int)) (l := c.Table.take k)
        simp only [List.length_take] at this
        exact wrI (by omega) (by omega)
      rw [hw] at hstep
      obtain ⟨y, hy, hyj⟩ := set13 o x.toNat (at13 o x.toNat + 1) (by omega)
      rw [hy, Option.bind_some] at hstep
      have ih := table0 c sl hn ht m (k + 1) y (by omega) (fun j hj => by
        rw [hyj j hj, List.take_add_one, hg, List.countP_append, ho j hj]
        have hx' : ((x.toNat : Nat) : Int) = x := Int.toNat_of_nonneg hok.1
        by_cases e : j = x.toNat
        · subst e
          rw [if_pos rfl, ho _ hj]
          simp [hx']
        · rw [if_neg e]
          have : ¬ x = (j : Int) := by omega
          simp [this])
      rw [loopO_inl (t := (((k + 1 : Nat) : Int), y)) (by simpa using hstep)]
      obtain ⟨r, h1, h2, h3⟩ := ih
      refine ⟨r, h1, fun ⟨z, hz, hzz⟩ => h2 ⟨z, ?_, hzz⟩, fun h => h3 fun z hz => h z ?_⟩
      · rw [hd] at hz
        rcases List.mem_cons.1 hz with e | e
        · subst e; exact absurd hok hzz
        · exact e
      · rw [hd]; exact List.mem_cons_of_mem _ hz
    · refine ⟨.inl (false, o), loopO_inr ?_, fun _ => ⟨o, rfl⟩, fun h => absurd (h x (by rw [hd]; simp)) hok⟩
      show conf_table_0_step c c.Table c.Table.length sl (k : Int) o = _
      rw [hstep]
      by_cases h0 : x < 0
      · rw [if_pos h0]
      · rw [if_neg h0, if_pos (by omega)]
theorem table_eq (c : GConf) (hn : Nodes c) : conf_table c = some (@decide (Owned c) (Classical.propDecidable _)) := by
  classical
  have hb : (Classical.propDecidable (Owned c)) = (Classical.propDecidable (Owned c)) := rfl
  unfold conf_table
  rw [has_eq, Option.bind_some]
  by_cases hl : (1 : Int) ≤ c.Table.length ∧ (c.Table.length : Int) ≤ 32
  · rw [decide_eq_true (show _ from hl), if_neg (by decide)]
    have h13 : c.N ≤ 13 := hn.2.1
    have h4 : 4 ≤ c.N := hn.1
    obtain ⟨r, h1, h2, h3⟩ := table0 c ⟨1, 32⟩ h13 (by omega) c.Table.length 0 (Ar13.mk 0 0 0 0 0 0 0 0 0 0 0 0 0) (by omega) (fun j hj => by
      rcases lt13 hj with e | e | e | e | e | e | e | e | e | e | e | e | e <;> subst e <;> rfl)
    have e0 : conf_table_0 c c.Table (c.Table.length : Int) ⟨1, 32⟩ 0 (Ar13.mk 0 0 0 0 0 0 0 0 0 0 0 0 0) = some r := h1
    rw [e0, Option.bind_some]
    by_cases ha : ∀ x ∈ c.Table, 0 ≤ x ∧ x < c.N
    · obtain ⟨o, ho, hj⟩ := h3 (by simpa using ha)
      subst ho
      simp only [Sum.elim_inr]
      rw [if_pos (by omega)]
      have e1 := loopO_all (f := fun s => conf_table_1_step (c.N.toNat - 0) ((c.N.toNat - 0 : Nat) : Int) o ⟨1, 32⟩ s) c.N.toNat (fun k => (k : Int) ∈ c.Table) (fun k hk => ?_) ?_
      rotate_left
      · simp only [conf_table_1_step]
        rw [if_pos (by omega), if_pos (by omega), eta13, Int.toNat_natCast, get13 _ _ (by omega), Option.bind_some, wrI (by omega) (by omega), hj k (by omega)]
        have : (((c.Table.countP (fun x => x == (k : Int)) : Nat) : Int) = 0) ↔ ¬ (k : Int) ∈ c.Table := by
          rw [← List.count_eq_countP, Int.natCast_eq_zero, List.count_eq_zero]
        by_cases hm : (k : Int) ∈ c.Table
        · rw [if_neg (fun h => this.1 h hm), if_pos hm]
        · rw [if_pos (this.2 hm), if_neg hm]
      · simp only [conf_table_1_step]
        rw [if_neg (by omega)]
      unfold conf_table_1
      rw [e1, Option.bind_some]
      by_cases hk : ∀ k, k < c.N.toNat → (k : Int) ∈ c.Table
      · rw [if_pos hk]
        refine some_dec ⟨fun _ => ⟨by omega, by omega, ha, fun k h => hk k (by omega)⟩, fun _ => rfl⟩
      · rw [if_neg hk]
        refine some_dec ⟨fun h => Bool.noConfusion h, fun h => absurd (fun k hk' => h.2.2.2 k (by omega)) hk⟩
    · obtain ⟨o, ho⟩ := h2 (by
        simp only [List.drop_zero]
        exact Classical.not_forall.1 ha |>.elim fun x hx => ⟨x, (Classical.not_imp.1 hx).1, (Classical.not_imp.1 hx).2⟩)
      subst ho
      exact some_dec ⟨fun h => Bool.noConfusion h, fun h => absurd h.2.2.1 ha⟩
  · rw [decide_eq_false (show ¬ _ from hl), if_pos (by decide)]
    exact some_dec ⟨fun h => Bool.noConfusion h, fun h => absurd ⟨by have := h.1; omega, by have := h.2.1; omega⟩ hl⟩
theorem conf_plain (c : GConf) (hc : CIn c) : conf_Plain c = some (plainV c) := by
  classical
  unfold conf_Plain plainV
  rw [nodes_eq, Option.bind_some]
  by_cases hn : Nodes c
  · rw [decide_eq_true hn, if_neg (by decide), if_neg (fun h => h hn), has_eq, Option.bind_some]
    by_cases hl : Links c
    · rw [show decide (1 ≤ c.D ∧ c.D ≤ 4) = true from decide_eq_true hl, if_neg (by decide), if_neg (fun h => h hl), numbers_eq c hc hn hl, Option.bind_some]
      by_cases hu : Nums c
      · rw [decide_eq_true hu, if_neg (by decide), if_neg (fun h => h hu), table_eq c hn, Option.bind_some]
        by_cases ho : Owned c
        · rw [@decide_eq_true _ (Classical.propDecidable _) ho, if_neg (by decide), if_neg (fun h => h ho)]
        · rw [@decide_eq_false _ (Classical.propDecidable _) ho, if_pos (by decide), if_pos ho]
      · rw [decide_eq_false hu, if_pos (by decide), if_pos hu]
    · rw [show decide (1 ≤ c.D ∧ c.D ≤ 4) = false from decide_eq_false hl, if_pos (by decide), if_pos hl]
  · rw [decide_eq_false hn, if_pos (by decide), if_pos hn]
theorem owned1 (n : Int) (c : GConf) (hl : c.Table.length ≤ 32) : r03_owned_1 c n false 0 = some (decide (n ∈ c.Table)) := by
  have h := loopO_for (f := fun s : Bool × Int => r03_owned_1_step c n s.1 s.2) (inv := fun k => (decide (n ∈ c.Table.take k), (k : Int))) c.Table.length (r := decide (n ∈ c.Table)) (fun k hk => ?_) ?_
  · exact h
  · have hg := List.getElem?_eq_getElem hk
    simp only [r03_owned_1_step]
    have ht : n ∈ c.Table.take (k + 1) ↔ n ∈ c.Table.take k ∨ c.Table[k] = n := by
      rw [List.take_add_one, hg, List.mem_append]
      simp only [Option.toList_some, List.mem_singleton, eq_comm]
    rw [if_pos (by omega), wrI (by omega) (by omega), idx_get hg, Option.bind_some]
    by_cases hm : n ∈ c.Table.take k
    · simp only [hm, ht, decide_true, if_true, true_or, Int.natCast_add, Int.cast_ofNat_Int]
    · simp only [hm, ht, decide_false, false_or, Int.natCast_add, Int.cast_ofNat_Int]; rw [if_neg (by decide)]
  · simp only [r03_owned_1_step]
    rw [if_neg (by omega), List.take_length]
theorem owned_eq (c : GConf) (hn : Nodes c) (hl : (1 : Int) ≤ c.Table.length ∧ (c.Table.length : Int) ≤ 32) : r03_owned c = some (@decide (Owned c) (Classical.propDecidable _)) := by
  classical
  have h13 : c.N ≤ 13 := hn.2.1
  have h4 : 4 ≤ c.N := hn.1
  have e0 := loopO_alls (f := fun s => r03_owned_0_step c s) c.Table (fun x => 0 ≤ x ∧ x < c.N) (fun k x hk hx => ?_) ?_
  rotate_left
  · simp only [r03_owned_0_step]
    rw [if_pos (by omega), idx_get hx, Option.bind_some, within_eq, Option.bind_some, wrI (n := c.N - 1) (by omega) (by omega), wrI (by omega) (by omega)]
    by_cases h : 0 ≤ x ∧ x < c.N
    · rw [decide_eq_true (by omega), if_neg (by decide), if_pos h]
    · rw [decide_eq_false (by omega), if_pos (by decide), if_neg h]
  · simp only [r03_owned_0_step]
    rw [if_neg (by omega)]
  have e1 := loopO_all (f := fun s => r03_owned_2_step c s) c.N.toNat (fun k => (k : Int) ∈ c.Table) (fun k hk => ?_) ?_
  rotate_left
  · simp only [r03_owned_2_step]
    rw [if_pos (by omega), owned1 _ _ (by omega), Option.bind_some, wrI (by omega) (by omega)]
    by_cases h : (k : Int) ∈ c.Table
    · rw [decide_eq_true h, if_neg (by decide), if_pos h]
    · rw [decide_eq_false h, if_pos (by decide), if_neg h]
  · simp only [r03_owned_2_step]
    rw [if_neg (by omega)]
  unfold r03_owned r03_owned_0 r03_owned_2
  rw [e0, Option.bind_some]
  by_cases ha : ∀ x ∈ c.Table, 0 ≤ x ∧ x < c.N
  · rw [if_pos ha]
    simp only [Sum.elim_inr]
    rw [e1, Option.bind_some]
    by_cases hk : ∀ k, k < c.N.toNat → (k : Int) ∈ c.Table
    · rw [if_pos hk]
      exact some_dec ⟨fun _ => ⟨by omega, by omega, ha, fun k h => hk k (by omega)⟩, fun _ => rfl⟩
    · rw [if_neg hk]
      exact some_dec ⟨fun h => Bool.noConfusion h, fun h => absurd (fun k hk' => h.2.2.2 k (by omega)) hk⟩
  · rw [if_neg ha]
    exact some_dec ⟨fun h => Bool.noConfusion h, fun h => absurd h.2.2.1 ha⟩
theorem r03_plain (c : GConf) (hc : CIn c) : r03_Plain c = some (plainV c) := by
  classical
  unfold r03_Plain plainV
  simp only [within_eq, Option.bind_some]
  have ite_not {p : Prop} [Decidable p] {α : Type} (x y : α) : (if (!decide p) = true then x else y) = if p then y else x := by
    by_cases h : p <;> simp [h]
  simp only [ite_not]
  by_cases hn : Nodes c
  · have hw : wr (3 * c.F) = 3 * c.F := wrI (by have := hn.2.2.1; omega) (by have := hn.2.2.2.1; omega)
    rw [if_pos (show 4 ≤ c.N ∧ c.N ≤ 13 from ⟨hn.1, hn.2.1⟩), if_pos (show 0 ≤ c.F ∧ c.F ≤ 4 from ⟨hn.2.2.1, hn.2.2.2.1⟩), hw, if_neg (by have := hn.2.2.2.2; omega), if_neg (show ¬ ¬ Nodes c from fun h => h hn)]
    by_cases hl : Links c
    · rw [if_pos (show 1 ≤ c.D ∧ c.D ≤ 4 from hl), if_neg (show ¬ ¬ Links c from fun h => h hl), low_eq c hn hl]
      by_cases hu : Nums c
      · have hu' := hu
        obtain ⟨a1, a2, b1, b2, c1, c2, d1, d2, e1, e2, f1, f2, g1, g2⟩ := hu'
        rw [if_pos ⟨a1, a2⟩, if_pos ⟨b1, b2⟩, wrI (n := c.Rate - 1) (by omega) (by omega), if_pos ⟨c1, c2⟩, if_pos ⟨d1, d2⟩, if_pos ⟨e1, e2⟩, if_pos ⟨f1, f2⟩, if_pos ⟨g1, g2⟩, if_neg (show ¬ ¬ Nums c from fun h => h hu)]
        by_cases ht : (1 : Int) ≤ c.Table.length ∧ (c.Table.length : Int) ≤ 32
        · rw [if_pos ht, owned_eq c hn ht, Option.bind_some]
          by_cases ho : Owned c
          · rw [@decide_eq_true _ (Classical.propDecidable _) ho, if_neg (by decide), if_neg (show ¬ ¬ Owned c from fun h => h ho)]
          · rw [@decide_eq_false _ (Classical.propDecidable _) ho, if_pos (by decide), if_pos (show ¬ Owned c from ho)]
        · rw [if_neg ht, if_pos]
          intro h; exact ht ⟨by have := h.1; omega, by have := h.2.1; omega⟩
      · rw [if_pos (show ¬ Nums c from hu)]
        by_cases h1 : 6 * (c.F + 1) * c.D + 1 ≤ c.Period ∧ c.Period ≤ 400
        · rw [if_pos h1]
          by_cases h2 : 1 ≤ c.Rate ∧ c.Rate ≤ 64
          · rw [if_pos h2, wrI (n := c.Rate - 1) (by omega) (by omega)]
            by_cases h3 : 0 ≤ c.Drift ∧ c.Drift ≤ c.Rate - 1
            · rw [if_pos h3]
              by_cases h4 : 0 ≤ c.Offset ∧ c.Offset ≤ 30000
              · rw [if_pos h4]
                by_cases h5 : 1 ≤ c.Slot ∧ c.Slot ≤ 30000
                · rw [if_pos h5]
                  by_cases h6 : 2 ≤ c.Mod ∧ c.Mod ≤ 250
                  · rw [if_pos h6]
                    by_cases h7 : 1 ≤ c.Fresh ∧ c.Fresh ≤ 100
                    · exact absurd ⟨h1.1, h1.2, h2.1, h2.2, h3.1, h3.2, h4.1, h4.2, h5.1, h5.2, h6.1, h6.2, h7.1, h7.2⟩ hu
                    · rw [if_neg h7]
                  · rw [if_neg h6]
                · rw [if_neg h5]
              · rw [if_neg h4]
            · rw [if_neg h3]
          · rw [if_neg h2]
        · rw [if_neg h1]
    · rw [if_neg (show ¬ (1 ≤ c.D ∧ c.D ≤ 4) from hl), if_pos (show ¬ Links c from hl)]
  · rw [if_pos (show ¬ Nodes c from hn)]
    by_cases h1 : 4 ≤ c.N ∧ c.N ≤ 13
    · rw [if_pos h1]
      by_cases h2 : 0 ≤ c.F ∧ c.F ≤ 4
      · rw [if_pos h2, wrI (n := 3 * c.F) (by omega) (by omega), if_pos]
        have : ¬ 3 * c.F < c.N := fun h => hn ⟨h1.1, h1.2, h2.1, h2.2, h⟩
        omega
      · rw [if_neg h2]
    · rw [if_neg h1]
/-- A conf that is plain. -/
def Pl (c : GConf) : Prop := Nodes c ∧ Links c ∧ Nums c ∧ Owned c
theorem plain_zero (c : GConf) : plainV c = 0 ↔ Pl c := by
  classical
  unfold plainV Pl
  by_cases h1 : Nodes c <;> by_cases h2 : Links c <;> by_cases h3 : Nums c <;> by_cases h4 : Owned c <;> simp [h1, h2, h3, h4]
end Go.Proofs.YtfjlpfjpidikjaaGreatDoor.cf
set_option linter.unusedVariables false
set_option linter.unusedSimpArgs false
namespace Go.Proofs.YtfjlpfjpidikjaaGreatDoor
open Go.Proofs.PF
/-! ### Configurations -/
theorem mulB {a b A B : Int} (h1 : 0 ≤ a) (h2 : a ≤ A) (h3 : 0 ≤ b) (h4 : b ≤ B) : 0 ≤ a * b ∧ a * b ≤ A * B :=
  ⟨Int.mul_nonneg h1 h3, Int.le_trans (Int.mul_le_mul_of_nonneg_right h2 h3) (Int.mul_le_mul_of_nonneg_left h4 (Int.le_trans h1 h2))⟩
def midV (c : GConf) : Int := c.Offset + ((c.Table.length : Int) - 1) * c.Slot + c.Slot / 2
def apV (c : GConf) : Int := 2 * c.Drift * midV c
def gdV (c : GConf) : Int := (apV c + (c.Rate - c.Drift) - 1) / (c.Rate - c.Drift) + c.Rate + (c.D + 1) * c.Drift
open Classical in
noncomputable def rightV (c : GConf) : Int := if cf.plainV c ≠ 0 then cf.plainV c else
  if c.Slot ≤ 2 * gdV c ∨ (c.Period - 1) * (c.Rate - c.Drift) < midV c + c.D * c.Rate + gdV c ∨ 32768 ≤ c.Period * (c.Rate + c.Drift) then 8 else 0
theorem ceil_eq {a s : Int} (ha : 0 ≤ a) (hs : 1 ≤ s) : (a + s - 1) / s = if 0 < a % s then a / s + 1 else a / s := by
  have h1 := Int.emod_add_mul_ediv a s
  have h2 := Int.emod_nonneg a (show s ≠ 0 by omega)
  have h3 := Int.emod_lt_of_pos a (show 0 < s by omega)
  have e : a + s - 1 = (a % s + s - 1) + s * (a / s) := by omega
  rw [e, Int.add_mul_ediv_left _ _ (by omega)]
  split
  · have : (a % s + s - 1) / s = 1 := by
      rw [show a % s + s - 1 = (a % s - 1) + s * 1 by omega, Int.add_mul_ediv_left _ _ (by omega), Int.ediv_eq_zero_of_lt (by omega) (by omega)]; rfl
    omega
  · have : (a % s + s - 1) / s = 0 := Int.ediv_eq_zero_of_lt (by omega) (by omega)
    omega
structure CB (c : GConf) : Prop where
  len : 1 ≤ (c.Table.length : Int) ∧ (c.Table.length : Int) ≤ 32
  sl : 0 ≤ ((c.Table.length : Int) - 1) * c.Slot ∧ ((c.Table.length : Int) - 1) * c.Slot ≤ 930000
  mid : 0 ≤ midV c ∧ midV c ≤ 975000
  ap : 0 ≤ apV c ∧ apV c ≤ 122850000
  q : 0 ≤ apV c / (c.Rate - c.Drift) ∧ apV c / (c.Rate - c.Drift) ≤ 122850000
  g : 0 ≤ gdV c ∧ gdV c ≤ 123000000
  dd : 0 ≤ (c.D + 1) * c.Drift ∧ (c.D + 1) * c.Drift ≤ 315
  dr : 0 ≤ c.D * c.Rate ∧ c.D * c.Rate ≤ 256
  pr : 0 ≤ (c.Period - 1) * (c.Rate - c.Drift) ∧ (c.Period - 1) * (c.Rate - c.Drift) ≤ 25536
  per : 7 ≤ c.Period
  pf : 0 ≤ c.Period * (c.Rate + c.Drift) ∧ c.Period * (c.Rate + c.Drift) ≤ 50800
theorem cb {c : GConf} (h : cf.Pl c) : CB c := by
  obtain ⟨⟨n1, n2, n3, n4, n5⟩, ⟨l1, l2⟩, ⟨p1, p2, r1, r2, d1, d2, o1, o2, s1, s2, m1, m2, f1, f2⟩, ⟨t1, t2, t3, t4⟩⟩ := h
  have h0 := mulB (a := c.F + 1) (b := c.D) (A := 5) (B := 4) (by omega) (by omega) (by omega) (by omega)
  have e0 : 6 * (c.F + 1) * c.D = 6 * ((c.F + 1) * c.D) := by rw [Int.mul_assoc]
  have hs := mulB (a := (c.Table.length : Int) - 1) (b := c.Slot) (A := 31) (B := 30000) (by omega) (by omega) (by omega) (by omega)
  have hm : 0 ≤ midV c ∧ midV c ≤ 975000 := by unfold midV; omega
  have ha := mulB (a := 2 * c.Drift) (b := midV c) (A := 126) (B := 975000) (by omega) (by omega) hm.1 hm.2
  have ha' : 0 ≤ apV c ∧ apV c ≤ 122850000 := by unfold apV; omega
  have hd := mulB (a := c.D + 1) (b := c.Drift) (A := 5) (B := 63) (by omega) (by omega) (by omega) (by omega)
  have hq1 : 0 ≤ apV c / (c.Rate - c.Drift) := Int.ediv_nonneg ha'.1 (by omega)
  have hq2 : apV c / (c.Rate - c.Drift) ≤ apV c := Int.ediv_le_self _ ha'.1
  have hn : 1 ≤ (c.F + 1) * c.D := by have := mulB (a := 1) (b := 1) (A := c.F + 1) (B := c.D) (by omega) (by omega) (by omega) (by omega); omega
  refine ⟨by omega, by omega, hm, ha', ⟨hq1, by omega⟩, ?_, by omega, ?_, ?_, by omega, ?_⟩
  · unfold gdV
    rw [ceil_eq ha'.1 (by omega)]
    split <;> omega
  · have := mulB (a := c.D) (b := c.Rate) (A := 4) (B := 64) (by omega) (by omega) (by omega) (by omega); omega
  · have := mulB (a := c.Period - 1) (b := c.Rate - c.Drift) (A := 399) (B := 64) (by omega) (by omega) (by omega) (by omega); omega
  · have := mulB (a := c.Period) (b := c.Rate + c.Drift) (A := 400) (B := 127) (by omega) (by omega) (by omega) (by omega); omega
theorem begin_eq {c : GConf} (h : cf.Pl c) : wr (c.Offset + wr (wr ((c.Table.length : Int) - 1) * c.Slot)) = c.Offset + ((c.Table.length : Int) - 1) * c.Slot := by
  have b := cb h
  obtain ⟨l1, l2⟩ := b.len
  obtain ⟨s1, s2⟩ := b.sl
  obtain ⟨-, -, ⟨p1, p2, r1, r2, d1, d2, o1, o2, s1, s2, m1, m2, f1, f2⟩, -⟩ := h
  rw [wrI (n := (c.Table.length : Int) - 1) rfl (by omega), wrI (n := ((c.Table.length : Int) - 1) * c.Slot) rfl (by omega), wrI rfl (by omega)]
theorem mid_eq {c : GConf} (h : cf.Pl c) : wr (wr (c.Offset + wr (wr ((c.Table.length : Int) - 1) * c.Slot)) + wr (Int.tdiv c.Slot 2)) = midV c := by
  have b := cb h
  obtain ⟨s1, s2⟩ := b.sl
  rw [begin_eq h]
  obtain ⟨-, -, ⟨p1, p2, r1, r2, d1, d2, o1, o2, s1, s2, m1, m2, f1, f2⟩, -⟩ := h
  rw [Int.tdiv_eq_ediv_of_nonneg (by omega), wrI (n := c.Slot / 2) rfl (by omega), wrI rfl (by omega)]
  rfl
theorem pl_of {c : GConf} (h : cf.plainV c = 0) : cf.Pl c := (cf.plain_zero c).1 h
theorem bound_right (c : GConf) (hc : cf.CIn c) : bound_Right c = some (rightV c) := by
  unfold bound_Right bound_of rightV
  rw [cf.conf_plain c hc, Option.bind_some, Option.bind_some]
  by_cases h0 : cf.plainV c = 0
  · have hp := pl_of h0
    have b := cb hp
    obtain ⟨a1, a2⟩ := b.ap
    obtain ⟨g1, g2⟩ := b.g
    obtain ⟨q1, q2⟩ := b.q
    obtain ⟨k1, k2⟩ := b.dd
    obtain ⟨u1, u2⟩ := b.dr
    obtain ⟨v1, v2⟩ := b.pr
    obtain ⟨w1, w2⟩ := b.pf
    obtain ⟨m1, m2⟩ := b.mid
    have pp := b.per
    have hm := mid_eq hp
    obtain ⟨⟨n1, n2, n3, n4, n5⟩, ⟨l1, l2⟩, ⟨p1, p2, r1, r2, d1, d2, o1, o2, s1, s2, -, -, f1, f2⟩, -⟩ := hp
    have hg : bound_plain_guard (Gbound_plain.mk c) = some (gdV c) := by
      unfold bound_plain_guard bound_plain_last bound_plain_middle bound_plain_begin bound_plain_slowest
      simp only [Option.bind_some]
      rw [hm, wrI (n := c.Rate - c.Drift) rfl (by omega), if_neg (by omega), wrI (n := 2 * c.Drift) rfl (by omega), show 2 * c.Drift * midV c = apV c from rfl, wrI (n := apV c) rfl (by omega), wrI (n := apV c + (c.Rate - c.Drift)) rfl (by omega),
        wrI (n := apV c + (c.Rate - c.Drift) - 1) rfl (by omega), Int.tdiv_eq_ediv_of_nonneg (by omega), wrI (n := c.D + 1) rfl (by omega), wrI (n := (c.D + 1) * c.Drift) rfl (by omega)]
      have e := ceil_eq (a := apV c) (s := c.Rate - c.Drift) a1 (by omega)
      have e2 : 0 ≤ (apV c + (c.Rate - c.Drift) - 1) / (c.Rate - c.Drift) ∧ (apV c + (c.Rate - c.Drift) - 1) / (c.Rate - c.Drift) ≤ 122850001 := by rw [e]; split <;> omega
      rw [wrI (n := (apV c + (c.Rate - c.Drift) - 1) / (c.Rate - c.Drift)) rfl (by omega), wrI (n := (apV c + (c.Rate - c.Drift) - 1) / (c.Rate - c.Drift) + c.Rate) rfl (by omega), wrI rfl (by omega)]
      rfl
    rw [if_neg (by simp [h0]), if_neg (by simp [h0])]
    simp only
    rw [hg, Option.bind_some]
    unfold bound_sound_parts bound_sound_ends bound_sound_turns bound_plain_fastest bound_plain_last bound_plain_middle bound_plain_begin bound_plain_slowest
    simp only [Option.bind_some]
    rw [hm, wrI (n := 2 * gdV c) rfl (by omega), wrI (n := c.D * c.Rate) rfl (by omega), wrI (n := midV c + c.D * c.Rate) rfl (by omega), wrI (n := midV c + c.D * c.Rate + gdV c) rfl (by omega), wrI (n := c.Period - 1) rfl (by omega), wrI (n := c.Rate - c.Drift) rfl (by omega),
      wrI (n := (c.Period - 1) * (c.Rate - c.Drift)) rfl (by omega), wrI (n := c.Rate + c.Drift) rfl (by omega), wrI (n := c.Period * (c.Rate + c.Drift)) rfl (by omega)]
    by_cases e1 : c.Slot ≤ 2 * gdV c
    · rw [show decide (2 * gdV c < c.Slot) = false from decide_eq_false (by omega), if_pos (show (!false) = true from rfl), if_pos (.inl e1)]
    · rw [show decide (2 * gdV c < c.Slot) = true from decide_eq_true (by omega), if_neg (by decide)]
      by_cases e2 : (c.Period - 1) * (c.Rate - c.Drift) < midV c + c.D * c.Rate + gdV c
      · rw [show decide (midV c + c.D * c.Rate + gdV c ≤ (c.Period - 1) * (c.Rate - c.Drift)) = false from decide_eq_false (by omega), if_pos (show (!false) = true from rfl), if_pos (.inr (.inl e2))]
      · rw [show decide (midV c + c.D * c.Rate + gdV c ≤ (c.Period - 1) * (c.Rate - c.Drift)) = true from decide_eq_true (by omega), if_neg (by decide)]
        by_cases e3 : 32768 ≤ c.Period * (c.Rate + c.Drift)
        · rw [show decide (c.Period * (c.Rate + c.Drift) < 32768) = false from decide_eq_false (by omega), if_pos (show (!false) = true from rfl), if_pos (.inr (.inr e3))]
        · rw [show decide (c.Period * (c.Rate + c.Drift) < 32768) = true from decide_eq_true (by omega), if_neg (by decide), if_neg (by omega)]
  · rw [if_pos h0, decide_eq_false h0]
    rfl
theorem r04_right (c : GConf) (hc : cf.CIn c) : r04_Right c = some (rightV c) := by
  unfold r04_Right rightV
  rw [cf.r03_plain c hc, Option.bind_some]
  by_cases h0 : cf.plainV c = 0
  · have hp := pl_of h0
    have b := cb hp
    obtain ⟨t1, t2⟩ := b.len
    obtain ⟨a1, a2⟩ := b.ap
    obtain ⟨g1, g2⟩ := b.g
    obtain ⟨q1, q2⟩ := b.q
    obtain ⟨k1, k2⟩ := b.dd
    obtain ⟨u1, u2⟩ := b.dr
    obtain ⟨v1, v2⟩ := b.pr
    obtain ⟨w1, w2⟩ := b.pf
    obtain ⟨m1, m2⟩ := b.mid
    have pp := b.per
    have hm := mid_eq hp
    have hb := begin_eq hp
    obtain ⟨⟨n1, n2, n3, n4, n5⟩, ⟨l1, l2⟩, ⟨p1, p2, r1, r2, d1, d2, o1, o2, s1, s2, -, -, f1, f2⟩, -⟩ := hp
    have hw : wr ((c.Table.length : Int) - 1) = (c.Table.length : Int) - 1 := wrI rfl (by omega)
    have hbg : r04_Begin c (wr ((c.Table.length : Int) - 1)) = some (wr (c.Offset + wr (wr ((c.Table.length : Int) - 1) * c.Slot))) := by
      unfold r04_Begin
      rw [cf.r03_plain c hc, Option.bind_some, if_neg (by simp [h0]), if_neg (by rw [hw]; omega), if_neg (by rw [hw]; omega)]
    have hmd : r04_Middle c (wr ((c.Table.length : Int) - 1)) = some (midV c) := by
      unfold r04_Middle
      rw [cf.r03_plain c hc, Option.bind_some, if_neg (by simp [h0]), if_neg (by rw [hw]; omega), if_neg (by rw [hw]; omega), hbg, Option.bind_some, hm]
    have hg : r04_Guard c = some (gdV c) := by
      unfold r04_Guard
      rw [cf.r03_plain c hc, Option.bind_some, if_neg (by simp [h0]), hmd, Option.bind_some, wrI (n := c.Rate - c.Drift) rfl (by omega), if_neg (by omega), wrI (n := 2 * c.Drift) rfl (by omega), show 2 * c.Drift * midV c = apV c from rfl, wrI (n := apV c) rfl (by omega),
        Int.tdiv_eq_ediv_of_nonneg a1, Int.tmod_eq_emod_of_nonneg a1, wrI (n := apV c / (c.Rate - c.Drift)) rfl (by omega), wrI (n := c.D + 1) rfl (by omega), wrI (n := (c.D + 1) * c.Drift) rfl (by omega)]
      unfold gdV
      rw [ceil_eq a1 (by omega)]
      split
      · rw [wrI (n := apV c / (c.Rate - c.Drift) + 1) rfl (by omega), wrI (n := apV c / (c.Rate - c.Drift) + 1 + c.Rate) rfl (by omega), wrI rfl (by omega)]
      · rw [wrI (n := apV c / (c.Rate - c.Drift) + c.Rate) rfl (by omega), wrI rfl (by omega)]
    have hz : ¬ cf.plainV c ≠ 0 := by simp [h0]
    rw [if_neg hz, if_neg hz, hg, Option.bind_some, hmd, Option.bind_some, wrI (n := 2 * gdV c) rfl (by omega), wrI (n := c.D * c.Rate) rfl (by omega), wrI (n := midV c + c.D * c.Rate) rfl (by omega), wrI (n := midV c + c.D * c.Rate + gdV c) rfl (by omega), wrI (n := c.Period - 1) rfl (by omega), wrI (n := c.Rate - c.Drift) rfl (by omega),
      wrI (n := (c.Period - 1) * (c.Rate - c.Drift)) rfl (by omega), wrI (n := c.Rate + c.Drift) rfl (by omega), wrI (n := c.Period * (c.Rate + c.Drift)) rfl (by omega)]
    by_cases e1 : c.Slot ≤ 2 * gdV c
    · rw [if_pos e1, if_pos (.inl e1)]
    · rw [if_neg e1]
      by_cases e2 : (c.Period - 1) * (c.Rate - c.Drift) < midV c + c.D * c.Rate + gdV c
      · rw [if_pos e2, if_pos (.inr (.inl e2))]
      · rw [if_neg e2]
        by_cases e3 : 32768 ≤ c.Period * (c.Rate + c.Drift)
        · rw [if_pos e3, if_pos (.inr (.inr e3))]
        · rw [if_neg e3, if_neg (by omega)]
  · rw [if_pos h0, if_pos h0]
    rfl
/-! ### Lists of which something holds -/
theorem notd {β : Type} {p : Prop} [Decidable p] {a b : β} : (if (!decide p) = true then some a else some b) = some (if p then b else a) := by by_cases h : p <;> simp [h]
theorem dec_and {p q : Prop} [Decidable p] [Decidable q] : (if p then some (decide q) else some false) = some (decide (p ∧ q)) := by by_cases h : p <;> simp [h]
theorem every_eq {α : Type} (f : Int → Option (Int ⊕ (Bool ⊕ Unit))) (l : List α) (p : α → Prop) [DecidablePred p]
    (h : ∀ (k : Nat) x, k < l.length → l[k]? = some x → f (k : Int) = some (if p x then .inl ((k : Int) + 1) else .inr (.inl false))) (he : f (l.length : Int) = some (.inr (.inr ()))) :
    ((loopO f 0).bind fun r2 => Sum.elim (fun r3 => some r3) (fun _ => some true) r2) = some (decide (∀ x ∈ l, p x)) := by
  rw [loopO_alls l p (fun k x hk hx => by rw [h k x hk hx]; by_cases hp : p x <;> simp [hp]) he]
  by_cases hp : ∀ x ∈ l, p x
  · rw [if_pos hp, decide_eq_true hp]; rfl
  · rw [if_neg hp, decide_eq_false hp]; rfl
theorem every_fix {α γ : Type} (f : Int × γ → Option ((Int × γ) ⊕ ((Bool × γ) ⊕ γ))) (c : γ) (l : List α) (p : α → Prop) [DecidablePred p]
    (h : ∀ (k : Nat) x, k < l.length → l[k]? = some x → f ((k : Int), c) = some (if p x then .inl ((k : Int) + 1, c) else .inr (.inl (false, c)))) (he : f ((l.length : Int), c) = some (.inr (.inr c))) :
    ((loopO f (0, c)).bind fun r2 => Sum.elim (fun r3 => some (r3.1, r3.2)) (fun r4 => some (true, r4)) r2) = some (decide (∀ x ∈ l, p x), c) := by
  have : ∀ m k : Nat, k + m = l.length → loopO f ((k : Int), c) = some (if ∀ x ∈ l.drop k, p x then .inr c else .inl (false, c)) := by
    intro m
    induction m with
    | zero =>
      intro k hk
      obtain rfl : k = l.length := by omega
      rw [loopO_inr he, List.drop_length, if_pos (by simp)]
    | succ m ih =>
      intro k hk
      have hlt : k < l.length := by omega
      have h1 := h k l[k] hlt (List.getElem?_eq_getElem hlt)
      rw [List.drop_eq_getElem_cons hlt]
      by_cases hp : p l[k]
      · rw [if_pos hp] at h1
        rw [loopO_inl h1, show ((k : Int) + 1) = ((k + 1 : Nat) : Int) by omega, ih (k + 1) (by omega)]
        simp only [List.mem_cons, forall_eq_or_imp, hp, true_and]
      · rw [if_neg hp] at h1
        have hn : ¬ ∀ x ∈ l[k] :: l.drop (k + 1), p x := fun hh => hp (hh _ (List.mem_cons_self ..))
        rw [loopO_inr h1, if_neg hn]
  have := this l.length 0 (by omega)
  rw [show ((0 : Nat) : Int) = 0 from rfl, List.drop_zero] at this
  rw [this]
  by_cases hp : ∀ x ∈ l, p x
  · rw [if_pos hp, decide_eq_true hp]; rfl
  · rw [if_neg hp, decide_eq_false hp]; rfl
/-- The first error. -/
def firstE : List Int → Int
  | [] => 0
  | e :: r => if e ≠ 0 then e else firstE r
theorem first_eq {α : Type} (f : Int → Option (Int ⊕ (Int ⊕ Unit))) (l : List α) (e : α → Int)
    (h : ∀ (k : Nat) x, k < l.length → l[k]? = some x → f (k : Int) = some (if e x ≠ 0 then .inr (.inl (e x)) else .inl ((k : Int) + 1))) (he : f (l.length : Int) = some (.inr (.inr ()))) :
    loopO f 0 = some (if firstE (l.map e) ≠ 0 then .inl (firstE (l.map e)) else .inr ()) := by
  have : ∀ m k : Nat, k + m = l.length → loopO f (k : Int) = some (if firstE ((l.drop k).map e) ≠ 0 then .inl (firstE ((l.drop k).map e)) else .inr ()) := by
    intro m
    induction m with
    | zero =>
      intro k hk
      obtain rfl : k = l.length := by omega
      rw [loopO_inr he, List.drop_length]
      rfl
    | succ m ih =>
      intro k hk
      have hlt : k < l.length := by omega
      have h1 := h k l[k] hlt (List.getElem?_eq_getElem hlt)
      rw [List.drop_eq_getElem_cons hlt, List.map_cons, firstE]
      by_cases hp : e l[k] ≠ 0
      · rw [if_pos hp] at h1 ⊢
        rw [loopO_inr h1, if_pos hp]
      · rw [if_neg hp] at h1 ⊢
        rw [loopO_inl h1, show ((k : Int) + 1) = ((k + 1 : Nat) : Int) by omega, ih (k + 1) (by omega)]
  simpa using this l.length 0 (by omega)
/-- The place of a value. -/
theorem find_eq (f : Int → Option (Int ⊕ (Int ⊕ Unit))) (l : List Int) (v : Int)
    (h : ∀ (k : Nat) x, k < l.length → l[k]? = some x → f (k : Int) = some (if v = x then .inr (.inl (k : Int)) else .inl ((k : Int) + 1))) (he : f (l.length : Int) = some (.inr (.inr ()))) :
    ∃ r, ((loopO f 0).bind fun r2 => Sum.elim (fun r3 => some r3) (fun _ => some (-1)) r2) = some r ∧ decide (0 ≤ r) = decide (v ∈ l) := by
  have : ∀ m k : Nat, k + m = l.length → ∃ r, loopO f (k : Int) = some r ∧ ((v ∈ l.drop k ∧ ∃ j : Nat, r = .inl (j : Int)) ∨ (v ∉ l.drop k ∧ r = .inr ())) := by
    intro m
    induction m with
    | zero =>
      intro k hk
      obtain rfl : k = l.length := by omega
      exact ⟨_, loopO_inr he, .inr ⟨by simp, rfl⟩⟩
    | succ m ih =>
      intro k hk
      have hlt : k < l.length := by omega
      have h1 := h k l[k] hlt (List.getElem?_eq_getElem hlt)
      rw [List.drop_eq_getElem_cons hlt]
      by_cases hp : v = l[k]
      · rw [if_pos hp] at h1
        exact ⟨_, loopO_inr h1, .inl ⟨List.mem_cons.2 (.inl hp), k, rfl⟩⟩
      · rw [if_neg hp] at h1
        obtain ⟨r, e, hr⟩ := ih (k + 1) (by omega)
        refine ⟨r, by rw [loopO_inl h1]; exact e, ?_⟩
        simpa only [List.mem_cons, hp, false_or] using hr
  obtain ⟨r, e, hr⟩ := this l.length 0 (by omega)
  rw [show ((0 : Nat) : Int) = 0 from rfl] at e
  rw [e]
  rw [List.drop_zero] at hr
  rcases hr with ⟨h1, j, rfl⟩ | ⟨h1, rfl⟩
  · exact ⟨_, rfl, by simp [h1]⟩
  · exact ⟨_, rfl, by simp [h1]⟩
end Go.Proofs.YtfjlpfjpidikjaaGreatDoor
set_option linter.unusedVariables false
set_option linter.unusedSimpArgs false
namespace Go.Proofs.YtfjlpfjpidikjaaGreatDoor
open Go.Proofs.PF
def clV (n : Int) : Int := if n < 0 then 0 else if 13 < n then 13 else n
def IsN (c : GConf) (n : Int) : Prop := 0 ≤ n ∧ n < clV c.N
instance (c : GConf) (n : Int) : Decidable (IsN c n) := by unfold IsN; infer_instance
def Ns (l : List Int) (m : Int) : Prop := (l.length : Int) ≤ m ∧ ∀ x ∈ l, 0 ≤ x ∧ x ≤ 65535
instance (l : List Int) (m : Int) : Decidable (Ns l m) := by unfold Ns; infer_instance
def Nm (c : GConf) (t : GTick) : Prop := (∀ s ∈ t.Sends, IsN c s.From ∧ IsN c s.To) ∧ (∀ s ∈ t.Strays, IsN c s.From ∧ IsN c s.To) ∧ (∀ b ∈ t.Bursts, IsN c b.Node) ∧ ∀ w ∈ t.Writes, IsN c w.Node
instance (c : GConf) (t : GTick) : Decidable (Nm c t) := by unfold Nm; infer_instance
def Sh (t : GTick) : Prop := (∀ s ∈ t.Sends, (s.Bytes.length : Int) ≤ 40) ∧ (∀ s ∈ t.Strays, (s.Bytes.length : Int) ≤ 40) ∧ ∀ b ∈ t.Bursts, (b.Image.length : Int) ≤ 8000
instance (t : GTick) : Decidable (Sh t) := by unfold Sh; infer_instance
def Fl (t : GTick) : Prop := 40 < (t.Sends.length : Int) ∨ 40 < (t.Bursts.length : Int) ∨ 40 < (t.Strays.length : Int) ∨ 40 < (t.Writes.length : Int)
instance (t : GTick) : Decidable (Fl t) := by unfold Fl; infer_instance
def tickV (c : GConf) (t : GTick) : Int :=
  if ¬ Ns t.Units c.N then 2 else if ¬ Ns t.Delays (wr (c.N * c.N)) then 2 else if ¬ (∀ s ∈ t.Sends, 0 ≤ s.Delay ∧ s.Delay ≤ 65535) then 2 else if ¬ (∀ s ∈ t.Strays, 0 ≤ s.Delay ∧ s.Delay ≤ 65535) then 2
  else if Fl t then 9 else if ¬ Nm c t then 7 else if ¬ Sh t then 6 else if ¬ (∀ w ∈ t.Writes, (w.Text.length : Int) ≤ 16) then 15 else 0
def Fc (c : GConf) (l : List Int) : Prop := ∀ k x, l[k]? = some x → IsN c x ∧ x ∉ l.take k
open Classical in
noncomputable def scriptV (s : GScript) : Int := if rightV s.Conf ≠ 0 then rightV s.Conf else if ¬ Fc s.Conf s.Faulty then 7 else if s.Conf.N < (s.Images.length : Int) then 6 else if 2000 < (s.Ticks.length : Int) then 6
  else if ¬ (∀ i ∈ s.Images, (i.length : Int) ≤ 8000) then 6 else firstE (s.Ticks.map (tickV s.Conf))
structure TIn (t : GTick) : Prop where
  u : t.Units.length ≤ 100000000
  d : t.Delays.length ≤ 100000000
  s : t.Sends.length ≤ 100000000
  b : t.Bursts.length ≤ 100000000
  y : t.Strays.length ≤ 100000000
  w : t.Writes.length ≤ 100000000
structure SIn (s : GScript) : Prop where
  conf : cf.CIn s.Conf
  f : s.Faulty.length ≤ 100000000
  i : s.Images.length ≤ 100000000
  t : s.Ticks.length ≤ 100000000
  tt : ∀ t ∈ s.Ticks, TIn t
/-! ### Nodes -/
theorem is_eq (c : GConf) (n : Int) : script_is c n = some (decide (IsN c n)) := by
  have e : script_nodes c = some (clV c.N) := by
    unfold script_nodes num_Clamp clV
    split
    · rfl
    · rw [if_neg (by omega)]
      split <;> rfl
  unfold script_is
  rw [e, Option.bind_some]
  exact dec_and
theorem node_eq (c : GConf) (n : Int) : r33_node c n = some (decide (IsN c n)) := by
  have e : r01_Clamp c.N 0 13 = some (clV c.N) := by
    unfold r01_Clamp clV
    split
    · rfl
    · rw [if_neg (by omega)]
      congr 1
      rw [Int.min_def]
      split <;> split <;> omega
  unfold r33_node
  rw [e, Option.bind_some]
  exact dec_and
theorem contains_eq (l : List Int) (v : Int) (hl : l.length ≤ 1000000000) : slices_Contains_int_int l v = some (decide (v ∈ l)) := by
  obtain ⟨r, h1, h2⟩ := find_eq (fun s => slices_Index_int_int_0_step l v (l.length : Int) s) l v (fun k x hk hx => by
    simp only [slices_Index_int_int_0_step]
    rw [if_pos (by omega), idx_get hx, Option.bind_some, wrI rfl (by omega)]
    by_cases h : v = x <;> simp [h]) (by simp only [slices_Index_int_int_0_step]; rw [if_neg (by omega)])
  have : slices_Index_int_int l v = some r := h1
  unfold slices_Contains_int_int
  rw [this, Option.bind_some, h2]
theorem in_eq (l : List Int) (v : Int) (hl : l.length ≤ 1000000000) : r14_In l v = some (decide (v ∈ l)) := by
  have L := loopO_anys (f := fun s => r14_In_0_step l v s) l (fun x => x = v) true (fun k x hk hx => by
    simp only [r14_In_0_step]
    rw [if_pos (by omega), idx_get hx, Option.bind_some, wrI rfl (by omega)]
    by_cases h : x = v <;> simp [h]) (by simp only [r14_In_0_step]; rw [if_neg (by omega)])
  unfold r14_In r14_In_0
  rw [L]
  by_cases h : v ∈ l
  · rw [if_pos ⟨v, h, rfl⟩, decide_eq_true h]; rfl
  · rw [if_neg (by rintro ⟨x, hx, rfl⟩; exact h hx), decide_eq_false h]; rfl
/-! ### A tick, the program's way -/
theorem num1_eq (n : Int) : script_numbers_1 n = some (decide (0 ≤ n ∧ n ≤ 65535)) := dec_and
theorem wait1_eq (s : GSend) : script_tick_1 s = some (decide (0 ≤ s.Delay ∧ s.Delay ≤ 65535)) := dec_and
theorem ints_eq (l : List Int) (hl : l.length ≤ 100000000) : script_every_int l = some (decide (∀ x ∈ l, 0 ≤ x ∧ x ≤ 65535)) :=
  every_eq (fun s => script_every_int_0_step l (l.length : Int) s) l (fun x => 0 ≤ x ∧ x ≤ 65535) (fun k x hk hx => by
    simp only [script_every_int_0_step]
    rw [if_pos (by omega), idx_get hx, Option.bind_some, num1_eq, Option.bind_some, wrI rfl (by omega), notd]) (by simp only [script_every_int_0_step]; rw [if_neg (by omega)])
theorem nums_eq (l : List Int) (m : Int) (hl : l.length ≤ 100000000) : script_numbers l m = some (decide (Ns l m)) := by
  unfold script_numbers
  rw [ints_eq l hl, Option.bind_some]
  exact dec_and
theorem waits_eq (l : List GSend) (hl : l.length ≤ 100000000) : script_every_api_Send_v2 l = some (decide (∀ s ∈ l, 0 ≤ s.Delay ∧ s.Delay ≤ 65535)) :=
  every_eq (fun s => script_every_api_Send_v2_0_step l (l.length : Int) s) l (fun s => 0 ≤ s.Delay ∧ s.Delay ≤ 65535) (fun k x hk hx => by
    simp only [script_every_api_Send_v2_0_step]
    rw [if_pos (by omega), idx_get hx, Option.bind_some, wait1_eq, Option.bind_some, wrI rfl (by omega), notd]) (by simp only [script_every_api_Send_v2_0_step]; rw [if_neg (by omega)])
theorem shorts_eq (l : List GSend) (hl : l.length ≤ 100000000) : script_every_api_Send_v1 l = some (decide (∀ s ∈ l, (s.Bytes.length : Int) ≤ 40)) :=
  every_eq (fun s => script_every_api_Send_v1_0_step l (l.length : Int) s) l (fun s => (s.Bytes.length : Int) ≤ 40) (fun k x hk hx => by
    simp only [script_every_api_Send_v1_0_step, script_short_1]
    rw [if_pos (by omega), idx_get hx, Option.bind_some, Option.bind_some, wrI rfl (by omega), notd]) (by simp only [script_every_api_Send_v1_0_step]; rw [if_neg (by omega)])
theorem shortb_eq (l : List GBurst) (hl : l.length ≤ 100000000) : script_every_api_Burst_v1 l = some (decide (∀ s ∈ l, (s.Image.length : Int) ≤ 8000)) :=
  every_eq (fun s => script_every_api_Burst_v1_0_step l (l.length : Int) s) l (fun s => (s.Image.length : Int) ≤ 8000) (fun k x hk hx => by
    simp only [script_every_api_Burst_v1_0_step, script_short_2]
    rw [if_pos (by omega), idx_get hx, Option.bind_some, Option.bind_some, wrI rfl (by omega), notd]) (by simp only [script_every_api_Burst_v1_0_step]; rw [if_neg (by omega)])
theorem texts_eq (l : List GWrite) (hl : l.length ≤ 100000000) : script_every_api_Write_v1 l = some (decide (∀ s ∈ l, (s.Text.length : Int) ≤ 16)) :=
  every_eq (fun s => script_every_api_Write_v1_0_step l (l.length : Int) s) l (fun s => (s.Text.length : Int) ≤ 16) (fun k x hk hx => by
    simp only [script_every_api_Write_v1_0_step, script_tick_2]
    rw [if_pos (by omega), idx_get hx, Option.bind_some, Option.bind_some, wrI rfl (by omega), notd]) (by simp only [script_every_api_Write_v1_0_step]; rw [if_neg (by omega)])
theorem images_eq (l : List (List UInt8)) (hl : l.length ≤ 100000000) : script_every_string l = some (decide (∀ s ∈ l, (s.length : Int) ≤ 8000)) :=
  every_eq (fun s => script_every_string_0_step l (l.length : Int) s) l (fun s => (s.length : Int) ≤ 8000) (fun k x hk hx => by
    simp only [script_every_string_0_step, script_Right_1]
    rw [if_pos (by omega), idx_get hx, Option.bind_some, Option.bind_some, wrI rfl (by omega), notd]) (by simp only [script_every_string_0_step]; rw [if_neg (by omega)])
theorem named1_eq (c : GConf) (s : GSend) : script_named_1 s c = some (decide (IsN c s.From ∧ IsN c s.To), c) := by
  unfold script_named_1
  rw [is_eq, is_eq, Option.bind_some, Option.bind_some]
  by_cases h : IsN c s.From <;> simp [h]
theorem ends_eq (c : GConf) (l : List GSend) (hl : l.length ≤ 100000000) : script_every_api_Send l c = some (decide (∀ s ∈ l, IsN c s.From ∧ IsN c s.To), c) :=
  every_fix (fun s => script_every_api_Send_0_step l (l.length : Int) s.1 s.2) c l (fun s => IsN c s.From ∧ IsN c s.To) (fun k x hk hx => by
    simp only [script_every_api_Send_0_step]
    rw [if_pos (by omega), idx_get hx, Option.bind_some, named1_eq, Option.bind_some, wrI rfl (by omega), notd]) (by simp only [script_every_api_Send_0_step]; rw [if_neg (by omega)])
theorem endb_eq (c : GConf) (l : List GBurst) (hl : l.length ≤ 100000000) : script_every_api_Burst l c = some (decide (∀ s ∈ l, IsN c s.Node), c) :=
  every_fix (fun s => script_every_api_Burst_0_step l (l.length : Int) s.1 s.2) c l (fun s => IsN c s.Node) (fun k x hk hx => by
    simp only [script_every_api_Burst_0_step, script_named_2]
    rw [if_pos (by omega), idx_get hx, Option.bind_some, is_eq, Option.bind_some, Option.bind_some, wrI rfl (by omega), notd]) (by simp only [script_every_api_Burst_0_step]; rw [if_neg (by omega)])
theorem endw_eq (c : GConf) (l : List GWrite) (hl : l.length ≤ 100000000) : script_every_api_Write l c = some (decide (∀ s ∈ l, IsN c s.Node), c) :=
  every_fix (fun s => script_every_api_Write_0_step l (l.length : Int) s.1 s.2) c l (fun s => IsN c s.Node) (fun k x hk hx => by
    simp only [script_every_api_Write_0_step, script_named_3]
    rw [if_pos (by omega), idx_get hx, Option.bind_some, is_eq, Option.bind_some, Option.bind_some, wrI rfl (by omega), notd]) (by simp only [script_every_api_Write_0_step]; rw [if_neg (by omega)])
theorem named_eq (c : GConf) (t : GTick) (ht : TIn t) : script_named c t = some (decide (Nm c t)) := by
  unfold script_named
  simp only [ends_eq c _ ht.s, ends_eq c _ ht.y, endb_eq c _ ht.b, endw_eq c _ ht.w, Option.bind_some, decide_eq_true_eq]
  by_cases h1 : ∀ s ∈ t.Sends, IsN c s.From ∧ IsN c s.To
  · rw [if_pos h1]
    by_cases h2 : ∀ s ∈ t.Strays, IsN c s.From ∧ IsN c s.To
    · rw [if_pos h2]
      by_cases h3 : ∀ s ∈ t.Bursts, IsN c s.Node
      · rw [if_pos h3]
        congr 1
        exact Bool.eq_iff_iff.2 (by simp only [decide_eq_true_eq]; exact ⟨fun h => ⟨h1, h2, h3, h⟩, fun h => h.2.2.2⟩)
      · rw [if_neg h3, decide_eq_false fun h => h3 h.2.2.1]
    · rw [if_neg h2, decide_eq_false fun h => h2 h.2.1]
  · rw [if_neg h1, decide_eq_false fun h => h1 h.1]
theorem short_eq (t : GTick) (ht : TIn t) : script_short t = some (decide (Sh t)) := by
  unfold script_short
  simp only [shorts_eq _ ht.s, shorts_eq _ ht.y, shortb_eq _ ht.b, Option.bind_some, decide_eq_true_eq]
  by_cases h1 : ∀ s ∈ t.Sends, (s.Bytes.length : Int) ≤ 40
  · rw [if_pos h1]
    by_cases h2 : ∀ s ∈ t.Strays, (s.Bytes.length : Int) ≤ 40
    · rw [if_pos h2]
      congr 1
      exact Bool.eq_iff_iff.2 (by simp only [decide_eq_true_eq]; exact ⟨fun h => ⟨h1, h2, h⟩, fun h => h.2.2⟩)
    · rw [if_neg h2, decide_eq_false fun h => h2 h.2.1]
  · rw [if_neg h1, decide_eq_false fun h => h1 h.1]
theorem full_eq (t : GTick) : script_full t = some (decide (Fl t)) := by
  unfold script_full
  rw [mmL_max]
  congr 1
  refine Bool.eq_iff_iff.2 (decide_eq_true_iff.trans (Iff.trans ?_ decide_eq_true_iff.symm))
  simp only [List.foldl_cons, List.foldl_nil]
  unfold Fl
  omega
theorem tick_eq (c : GConf) (t : GTick) (ht : TIn t) : script_tick c t = some (tickV c t) := by
  unfold script_tick tickV
  simp only [nums_eq _ _ ht.u, nums_eq _ _ ht.d, waits_eq _ ht.s, waits_eq _ ht.y, full_eq, named_eq c t ht, short_eq t ht, texts_eq _ ht.w, Option.bind_some, Bool.not_eq_true', decide_eq_false_iff_not, decide_eq_true_eq]
  repeat (split; first | rfl | skip)
  all_goals first | rfl | skip
/-! ### The same, the document's way -/
theorem within33_eq (l : List Int) (m : Int) (hl : l.length ≤ 1000000000) : r33_within l m = some (decide (Ns l m)) := by
  have e : ((loopO (fun s => r33_within_0_step l s) 0).bind fun r2 => Sum.elim (fun r3 => some r3) (fun _ => some true) r2) = some (decide (∀ x ∈ l, 0 ≤ x ∧ x ≤ 65535)) :=
    every_eq (fun s => r33_within_0_step l s) l (fun x => 0 ≤ x ∧ x ≤ 65535) (fun k x hk hx => by
      simp only [r33_within_0_step]
      rw [if_pos (by omega), idx_get hx, Option.bind_some, Option.bind_some, wrI rfl (by omega)]
      by_cases h1 : x < 0
      · rw [if_pos h1, if_neg (by omega)]
      · rw [if_neg h1]
        by_cases h2 : 65535 < x
        · rw [if_pos h2, if_neg (by omega)]
        · rw [if_neg h2, if_pos (by omega)]) (by simp only [r33_within_0_step]; rw [if_neg (by omega)])
  unfold r33_within
  by_cases h : m < (l.length : Int)
  · rw [if_pos h, decide_eq_false (fun hh : Ns l m => absurd hh.1 (by omega))]
  · rw [if_neg h]
    refine Eq.trans e ?_
    congr 1
    exact Bool.eq_iff_iff.2 (by simp only [decide_eq_true_eq]; exact ⟨fun hh => ⟨by omega, hh⟩, fun hh => hh.2⟩)
theorem waits33_eq (t : GTick) (ht : TIn t) : r33_waits t = some (t.Sends.map GSend.Delay ++ t.Strays.map GSend.Delay) := by
  have h1 := ht.s
  have h2 := ht.y
  have e : ∀ (l : List GSend), l.flatMap (fun s => [s.Delay]) = l.map GSend.Delay := by
    intro l
    induction l with
    | nil => rfl
    | cons x l ih => rw [List.flatMap_cons, ih]; rfl
  have L1 := loopO_rows (f := fun s : List Int × Int => r33_waits_0_step t t.Sends (t.Sends.length : Int) s.1 s.2) (fun o i => (o, i)) id t.Sends (fun _ s => [s.Delay]) 4294967296 (fun k x o hk hx hl => by
    show r33_waits_0_step _ _ _ _ _ = _
    unfold r33_waits_0_step
    rw [if_pos (by omega), idx_get hx, Option.bind_some, if_pos (by rw [lenMax_eq]; exact hl), wrI rfl (by omega)]) (fun o => by
    show r33_waits_0_step _ _ _ _ _ = _
    unfold r33_waits_0_step
    rw [if_neg (by omega)]; rfl) [] (by rw [rows_flat, e]; simp; omega)
  have L2 := loopO_rows (f := fun s : List Int × Int => r33_waits_1_step t.Strays (t.Strays.length : Int) s.1 s.2) (fun o i => (o, i)) id t.Strays (fun _ s => [s.Delay]) 4294967296 (fun k x o hk hx hl => by
    show r33_waits_1_step _ _ _ _ = _
    unfold r33_waits_1_step
    rw [if_pos (by omega), idx_get hx, Option.bind_some, if_pos (by rw [lenMax_eq]; exact hl), wrI rfl (by omega)]) (fun o => by
    show r33_waits_1_step _ _ _ _ = _
    unfold r33_waits_1_step
    rw [if_neg (by omega)]; rfl) (t.Sends.map GSend.Delay) (by rw [rows_flat, e]; simp; omega)
  rw [rows_flat, e] at L1 L2
  unfold r33_waits r33_waits_0
  rw [L1, Option.bind_some]
  unfold r33_waits_1
  rw [id, List.nil_append, L2]
  rfl
theorem nodes33_eq (c : GConf) (t : GTick) (ht : TIn t) : r33_nodes c t = some (decide (Nm c t)) := by
  have h1 := ht.s
  have h2 := ht.y
  have h3 := ht.b
  have h4 := ht.w
  have L0 := loopO_alls (f := fun s => r33_nodes_0_step c t t.Sends (t.Sends.length : Int) s) t.Sends (fun s => IsN c s.From ∧ IsN c s.To) (fun k x hk hx => by
    simp only [r33_nodes_0_step]
    rw [if_pos (by omega), idx_get hx, Option.bind_some, node_eq, Option.bind_some, node_eq, Option.bind_some, wrI rfl (by omega)]
    by_cases a : IsN c x.From <;> by_cases b : IsN c x.To <;> simp [a, b]) (by simp only [r33_nodes_0_step]; rw [if_neg (by omega)])
  have L1 := loopO_alls (f := fun s => r33_nodes_1_step c t t.Strays (t.Strays.length : Int) s) t.Strays (fun s => IsN c s.From ∧ IsN c s.To) (fun k x hk hx => by
    simp only [r33_nodes_1_step]
    rw [if_pos (by omega), idx_get hx, Option.bind_some, node_eq, Option.bind_some, node_eq, Option.bind_some, wrI rfl (by omega)]
    by_cases a : IsN c x.From <;> by_cases b : IsN c x.To <;> simp [a, b]) (by simp only [r33_nodes_1_step]; rw [if_neg (by omega)])
  have L2 := loopO_alls (f := fun s => r33_nodes_2_step c t t.Bursts (t.Bursts.length : Int) s) t.Bursts (fun s => IsN c s.Node) (fun k x hk hx => by
    simp only [r33_nodes_2_step]
    rw [if_pos (by omega), idx_get hx, Option.bind_some, node_eq, Option.bind_some, wrI rfl (by omega)]
    by_cases a : IsN c x.Node <;> simp [a]) (by simp only [r33_nodes_2_step]; rw [if_neg (by omega)])
  have L3 := loopO_alls (f := fun s => r33_nodes_3_step c t.Writes (t.Writes.length : Int) s) t.Writes (fun s => IsN c s.Node) (fun k x hk hx => by
    simp only [r33_nodes_3_step]
    rw [if_pos (by omega), idx_get hx, Option.bind_some, node_eq, Option.bind_some, wrI rfl (by omega)]
    by_cases a : IsN c x.Node <;> simp [a]) (by simp only [r33_nodes_3_step]; rw [if_neg (by omega)])
  unfold r33_nodes r33_nodes_0 r33_nodes_1 r33_nodes_2 r33_nodes_3
  rw [L0, Option.bind_some, L1, L2, L3]
  by_cases a0 : ∀ s ∈ t.Sends, IsN c s.From ∧ IsN c s.To
  · rw [if_pos a0]
    by_cases a1 : ∀ s ∈ t.Strays, IsN c s.From ∧ IsN c s.To
    · rw [if_pos a1]
      by_cases a2 : ∀ s ∈ t.Bursts, IsN c s.Node
      · rw [if_pos a2]
        by_cases a3 : ∀ s ∈ t.Writes, IsN c s.Node
        · rw [if_pos a3, decide_eq_true ⟨a0, a1, a2, a3⟩]; rfl
        · rw [if_neg a3, decide_eq_false fun h => a3 h.2.2.2]; rfl
      · rw [if_neg a2, decide_eq_false fun h => a2 h.2.2.1]; rfl
    · rw [if_neg a1, decide_eq_false fun h => a1 h.2.1]; rfl
  · rw [if_neg a0, decide_eq_false fun h => a0 h.1]; rfl
theorem long33_eq (t : GTick) (ht : TIn t) : r33_long t = some (decide (¬ Sh t)) := by
  have h1 := ht.s
  have h2 := ht.y
  have h3 := ht.b
  have L0 := loopO_anys (f := fun s => r33_long_0_step t t.Sends (t.Sends.length : Int) s) t.Sends (fun s => 40 < (s.Bytes.length : Int)) true (fun k x hk hx => by
    simp only [r33_long_0_step]
    rw [if_pos (by omega), idx_get hx, Option.bind_some, wrI rfl (by omega)]
    by_cases a : 40 < (x.Bytes.length : Int) <;> simp [a]) (by simp only [r33_long_0_step]; rw [if_neg (by omega)])
  have L1 := loopO_anys (f := fun s => r33_long_1_step t t.Strays (t.Strays.length : Int) s) t.Strays (fun s => 40 < (s.Bytes.length : Int)) true (fun k x hk hx => by
    simp only [r33_long_1_step]
    rw [if_pos (by omega), idx_get hx, Option.bind_some, wrI rfl (by omega)]
    by_cases a : 40 < (x.Bytes.length : Int) <;> simp [a]) (by simp only [r33_long_1_step]; rw [if_neg (by omega)])
  have L2 := loopO_anys (f := fun s => r33_long_2_step t.Bursts (t.Bursts.length : Int) s) t.Bursts (fun s => 8000 < (s.Image.length : Int)) true (fun k x hk hx => by
    simp only [r33_long_2_step]
    rw [if_pos (by omega), idx_get hx, Option.bind_some, wrI rfl (by omega)]
    by_cases a : 8000 < (x.Image.length : Int) <;> simp [a]) (by simp only [r33_long_2_step]; rw [if_neg (by omega)])
  unfold r33_long r33_long_0 r33_long_1 r33_long_2
  rw [L0, Option.bind_some, L1, L2]
  by_cases a0 : ∃ s ∈ t.Sends, 40 < (s.Bytes.length : Int)
  · rw [if_pos a0, decide_eq_true (by obtain ⟨s, h5, h6⟩ := a0; exact fun h => absurd (h.1 s h5) (by omega))]; rfl
  · rw [if_neg a0]
    by_cases a1 : ∃ s ∈ t.Strays, 40 < (s.Bytes.length : Int)
    · rw [if_pos a1, decide_eq_true (by obtain ⟨s, h5, h6⟩ := a1; exact fun h => absurd (h.2.1 s h5) (by omega))]; rfl
    · rw [if_neg a1]
      by_cases a2 : ∃ s ∈ t.Bursts, 8000 < (s.Image.length : Int)
      · rw [if_pos a2, decide_eq_true (by obtain ⟨s, h5, h6⟩ := a2; exact fun h => absurd (h.2.2 s h5) (by omega))]; rfl
      · rw [if_neg a2, decide_eq_false (fun h => h ⟨fun s hs => Int.not_lt.1 fun hh => a0 ⟨s, hs, hh⟩, fun s hs => Int.not_lt.1 fun hh => a1 ⟨s, hs, hh⟩, fun s hs => Int.not_lt.1 fun hh => a2 ⟨s, hs, hh⟩⟩)]; rfl
theorem tick33_eq (c : GConf) (t : GTick) (ht : TIn t) : r33_tick c t = some (tickV c t) := by
  have h1 := ht.s
  have h2 := ht.y
  have h4 := ht.w
  have L := loopO_anys (f := fun s => r33_tick_0_step t.Writes (t.Writes.length : Int) s) t.Writes (fun s => 16 < (s.Text.length : Int)) (15 : Int) (fun k x hk hx => by
    simp only [r33_tick_0_step]
    rw [if_pos (by omega), idx_get hx, Option.bind_some, wrI rfl (by omega)]
    by_cases a : 16 < (x.Text.length : Int) <;> simp [a]) (by simp only [r33_tick_0_step]; rw [if_neg (by omega)])
  have hw : Ns (t.Sends.map GSend.Delay ++ t.Strays.map GSend.Delay) ((t.Sends.length : Int) + (t.Strays.length : Int)) ↔ (∀ s ∈ t.Sends, 0 ≤ s.Delay ∧ s.Delay ≤ 65535) ∧ (∀ s ∈ t.Strays, 0 ≤ s.Delay ∧ s.Delay ≤ 65535) := by
    unfold Ns
    simp only [List.length_append, List.length_map, List.mem_append, List.mem_map]
    constructor
    · rintro ⟨-, h⟩
      exact ⟨fun s hs => h _ (.inl ⟨s, hs, rfl⟩), fun s hs => h _ (.inr ⟨s, hs, rfl⟩)⟩
    · rintro ⟨ha, hb⟩
      refine ⟨by omega, ?_⟩
      rintro x (⟨s, hs, rfl⟩ | ⟨s, hs, rfl⟩)
      · exact ha s hs
      · exact hb s hs
  unfold r33_tick tickV r33_tick_0
  rw [within33_eq _ _ (by have := ht.u; omega), within33_eq _ _ (by have := ht.d; omega), waits33_eq t ht, wrI (n := (t.Sends.length : Int) + (t.Strays.length : Int)) rfl (by omega)]
  simp only [Option.bind_some]
  rw [within33_eq _ _ (by simp; omega), nodes33_eq c t ht, long33_eq t ht, L]
  simp only [Option.bind_some, Bool.not_eq_true', decide_eq_false_iff_not, decide_eq_true_eq]
  by_cases a1 : Ns t.Units c.N
  · rw [if_neg (not_not_intro a1), if_neg (not_not_intro a1)]
    by_cases a2 : Ns t.Delays (wr (c.N * c.N))
    · rw [if_neg (not_not_intro a2), if_neg (not_not_intro a2)]
      by_cases a3 : ∀ s ∈ t.Sends, 0 ≤ s.Delay ∧ s.Delay ≤ 65535
      · by_cases a4 : ∀ s ∈ t.Strays, 0 ≤ s.Delay ∧ s.Delay ≤ 65535
        · rw [if_neg (not_not_intro (hw.2 ⟨a3, a4⟩)), if_neg (not_not_intro a3), if_neg (not_not_intro a4)]
          by_cases a5 : Fl t
          · rw [if_pos a5]
            unfold Fl at a5
            iterate 4 (split; · rfl)
            exfalso; omega
          · rw [if_neg a5]
            unfold Fl at a5
            iterate 4 (split; · exfalso; omega)
            by_cases a6 : Nm c t
            · rw [if_neg (not_not_intro a6), if_neg (not_not_intro a6)]
              by_cases a7 : Sh t
              · rw [if_neg (not_not_intro a7), if_neg (not_not_intro a7)]
                by_cases a8 : ∃ s ∈ t.Writes, 16 < (s.Text.length : Int)
                · rw [if_pos a8, if_pos (show ¬ ∀ w ∈ t.Writes, (w.Text.length : Int) ≤ 16 from by obtain ⟨s, h5, h6⟩ := a8; exact fun h => absurd (h s h5) (by omega))]; rfl
                · have a9 : ∀ w ∈ t.Writes, (w.Text.length : Int) ≤ 16 := fun s hs => Int.not_lt.1 fun hh => a8 ⟨s, hs, hh⟩
                  rw [if_neg a8, if_neg (not_not_intro a9)]; rfl
              · rw [if_pos a7, if_pos a7]
            · rw [if_pos a6, if_pos a6]
        · have n : ¬ Ns (t.Sends.map GSend.Delay ++ t.Strays.map GSend.Delay) ((t.Sends.length : Int) + (t.Strays.length : Int)) := fun h => a4 (hw.1 h).2
          rw [if_pos n, if_neg (not_not_intro a3), if_pos a4]
      · have n : ¬ Ns (t.Sends.map GSend.Delay ++ t.Strays.map GSend.Delay) ((t.Sends.length : Int) + (t.Strays.length : Int)) := fun h => a3 (hw.1 h).1
        rw [if_pos n, if_pos a3]
    · rw [if_pos a2, if_pos a2]
  · rw [if_pos a1, if_pos a1]
/-! ### Scripts -/
theorem faulty_p (c : GConf) (l : List Int) : (∃ k, k < l.length ∧ ∃ x, l[k]? = some x ∧ ¬ (IsN c x ∧ x ∉ l.take k)) ↔ ¬ Fc c l := by
  unfold Fc
  constructor
  · rintro ⟨k, hk, x, hx, h⟩ hh
    exact h (hh k x hx)
  · intro h
    obtain ⟨k, h⟩ := Classical.not_forall.1 h
    obtain ⟨x, h⟩ := Classical.not_forall.1 h
    obtain ⟨hx, h⟩ := Classical.not_imp.1 h
    exact ⟨k, (List.getElem?_eq_some_iff.1 hx).1, x, hx, h⟩
theorem script_right (s : GScript) (h : SIn s) : script_Right s = some (scriptV s) := by
  classical
  have f1 := h.f
  have f2 := h.t
  have LF := loopO_any (f := fun i => script_faulty_0_step s s.Faulty (s.Faulty.length : Int) i) s.Faulty.length (fun k => ∃ x, s.Faulty[k]? = some x ∧ ¬ (IsN s.Conf x ∧ x ∉ s.Faulty.take k)) false (fun k hk => by
    simp only [script_faulty_0_step]
    have hx := List.getElem?_eq_getElem hk
    rw [if_pos (by omega), idx_get hx, Option.bind_some, is_eq, Option.bind_some, if_pos (show 0 ≤ (k : Int) ∧ (k : Int) ≤ (s.Faulty.length : Nat) by omega), Int.toNat_natCast, contains_eq _ _ (by simp; omega), Option.bind_some, wrI rfl (by omega), hx]
    simp only [Option.some.injEq, exists_eq_left']
    by_cases a : IsN s.Conf s.Faulty[k] <;> by_cases b : s.Faulty[k] ∈ s.Faulty.take k <;> simp [a, b]) (by simp only [script_faulty_0_step]; rw [if_neg (by omega)])
  have LT := first_eq (fun i => script_Right_0_step s s.Ticks (s.Ticks.length : Int) i) s.Ticks (tickV s.Conf) (fun k x hk hx => by
    simp only [script_Right_0_step]
    rw [if_pos (by omega), idx_get hx, Option.bind_some, tick_eq _ _ (h.tt x (List.mem_of_getElem? hx)), Option.bind_some, wrI rfl (by omega)]
    split <;> rfl) (by simp only [script_Right_0_step]; rw [if_neg (by omega)])
  unfold script_Right scriptV
  rw [bound_right _ h.conf, Option.bind_some]
  by_cases h0 : rightV s.Conf ≠ 0
  · rw [if_pos h0, if_pos h0]
  · rw [if_neg h0, if_neg h0]
    unfold script_faulty script_faulty_0
    rw [LF, images_eq _ h.i]
    by_cases h1 : Fc s.Conf s.Faulty
    · rw [if_neg (fun hh => (faulty_p _ _).1 hh h1), if_neg (not_not_intro h1)]
      rw [Option.bind_some, Sum.elim_inr, Option.bind_some, if_neg (show ¬ (!true) = true by decide)]
      split
      · rfl
      · split
        · rfl
        · rw [Option.bind_some]
          by_cases h2 : ∀ i ∈ s.Images, (i.length : Int) ≤ 8000
          · rw [decide_eq_true h2, if_neg (by decide), if_neg (fun hh => hh h2)]
            unfold script_Right_0
            rw [LT]
            by_cases h3 : firstE (s.Ticks.map (tickV s.Conf)) = 0
            · rw [if_neg (fun hh => hh h3), h3]; rfl
            · rw [if_pos h3]; rfl
          · rw [decide_eq_false h2, if_pos (show (!false) = true from rfl), if_pos h2]
    · rw [if_pos ((faulty_p _ _).2 h1), if_pos h1]
      rfl
theorem r33_right (s : GScript) (h : SIn s) : r33_Right s = some (scriptV s) := by
  classical
  have f1 := h.f
  have f2 := h.t
  have f3 := h.i
  have LF := loopO_any (f := fun i => r33_Right_0_step s i) s.Faulty.length (fun k => ∃ x, s.Faulty[k]? = some x ∧ ¬ (IsN s.Conf x ∧ x ∉ s.Faulty.take k)) (7 : Int) (fun k hk => by
    simp only [r33_Right_0_step]
    have hx := List.getElem?_eq_getElem hk
    rw [if_pos (by omega), idx_get hx, Option.bind_some, node_eq, Option.bind_some, if_pos (show 0 ≤ (k : Int) ∧ (k : Int) ≤ (s.Faulty.length : Nat) by omega), Option.bind_some, Int.toNat_natCast, in_eq _ _ (by simp; omega), Option.bind_some, wrI rfl (by omega), hx]
    simp only [Option.some.injEq, exists_eq_left']
    by_cases a : IsN s.Conf s.Faulty[k] <;> by_cases b : s.Faulty[k] ∈ s.Faulty.take k <;> simp [a, b]) (by simp only [r33_Right_0_step]; rw [if_neg (by omega)])
  have LI := loopO_anys (f := fun i => r33_Right_1_step s i) s.Images (fun i => 8000 < (i.length : Int)) (6 : Int) (fun k x hk hx => by
    simp only [r33_Right_1_step]
    rw [if_pos (by omega), idx_get hx, Option.bind_some, wrI rfl (by omega)]
    by_cases a : 8000 < (x.length : Int) <;> simp [a]) (by simp only [r33_Right_1_step]; rw [if_neg (by omega)])
  have LT := first_eq (fun i => r33_Right_2_step s i) s.Ticks (tickV s.Conf) (fun k x hk hx => by
    simp only [r33_Right_2_step]
    rw [if_pos (by omega), idx_get hx, Option.bind_some, tick33_eq _ _ (h.tt x (List.mem_of_getElem? hx)), Option.bind_some, wrI rfl (by omega)]
    split <;> rfl) (by simp only [r33_Right_2_step]; rw [if_neg (by omega)])
  unfold r33_Right scriptV
  rw [r04_right _ h.conf, Option.bind_some]
  by_cases h0 : rightV s.Conf ≠ 0
  · rw [if_pos h0, if_pos h0]; rfl
  · rw [if_neg h0, if_neg h0]
    unfold r33_Right_0 r33_Right_1 r33_Right_2
    rw [LF, LI, LT]
    by_cases h1 : Fc s.Conf s.Faulty
    · rw [if_neg (fun hh => (faulty_p _ _).1 hh h1), if_neg (not_not_intro h1)]
      rw [Option.bind_some, Sum.elim_inr]
      split
      · rfl
      · split
        · rfl
        · rw [Option.bind_some]
          by_cases h2 : ∃ i ∈ s.Images, 8000 < (i.length : Int)
          · have h5 : ¬ ∀ i ∈ s.Images, (i.length : Int) ≤ 8000 := by obtain ⟨x, h5, h6⟩ := h2; exact fun hh => absurd (hh x h5) (by omega)
            rw [if_pos h2, if_pos h5]; rfl
          · have h5 : ∀ i ∈ s.Images, (i.length : Int) ≤ 8000 := fun x hx => Int.not_lt.1 fun h9 => h2 ⟨x, hx, h9⟩
            rw [if_neg h2, if_neg (not_not_intro h5), Sum.elim_inr, Option.bind_some]
            by_cases h3 : firstE (s.Ticks.map (tickV s.Conf)) = 0
            · rw [if_neg (not_not_intro h3), h3]; rfl
            · rw [if_pos h3]; rfl
    · rw [if_pos ((faulty_p _ _).2 h1), if_pos h1]
      rfl
end Go.Proofs.YtfjlpfjpidikjaaGreatDoor
set_option linter.unusedVariables false
set_option linter.unusedSimpArgs false
namespace Go.Proofs.YtfjlpfjpidikjaaGreatDoor
open Go.Proofs.PF
def num (n : Int) : List UInt8 := 32 :: Lib.itoa n
def lineL (head : List UInt8) (l : List Int) : List UInt8 := head ++ l.flatMap num
def someT (head : List UInt8) (l : List Int) : List UInt8 := if l = [] then [] else lineL head l ++ [10]
def evT (head bytes : List UInt8) (l : List Int) : List UInt8 := lineL head l ++ 32 :: (word bytes ++ [10])
def sendT (s : GSend) : List UInt8 := evT [115, 101, 110, 100] s.Bytes [s.From, s.To, s.Delay]
def burstT (b : GBurst) : List UInt8 := evT [98, 117, 114, 115, 116] b.Image [b.Node]
def strayT (s : GSend) : List UInt8 := evT [115, 116, 114, 97, 121] s.Bytes [s.From, s.To, s.Delay]
def writeT (w : GWrite) : List UInt8 := evT [119, 114, 105, 116, 101] w.Text [w.Node]
def tickA (t : GTick) : List UInt8 := [116, 105, 99, 107, 10] ++ someT [117, 110, 105, 116, 115] t.Units ++ someT [100, 101, 108, 97, 121, 115] t.Delays
def tickT (t : GTick) : List UInt8 := tickA t ++ t.Sends.flatMap sendT ++ t.Bursts.flatMap burstT ++ t.Strays.flatMap strayT ++ t.Writes.flatMap writeT
def imageT (i : List UInt8) : List UInt8 := evT [105, 109, 97, 103, 101] i []
def confL (c : GConf) : List Int := [c.N, c.F, c.D, c.Period, c.Rate, c.Drift, c.Offset, c.Slot, c.Mod, c.Fresh]
def headA (s : GScript) : List UInt8 := lineL [99, 111, 110, 102] (confL s.Conf) ++ [10] ++ someT [116, 97, 98, 108, 101] s.Conf.Table ++ someT [102, 97, 117, 108, 116, 121] s.Faulty
def scriptT (s : GScript) : List UInt8 := headA s ++ s.Images.flatMap imageT ++ s.Ticks.flatMap tickT ++ [101, 110, 100, 10]
def D6 (l : List Int) : Prop := ∀ n ∈ l, 0 ≤ n ∧ n < 1000000
structure TG (t : GTick) : Prop where
  u : D6 t.Units
  d : D6 t.Delays
  s : ∀ x ∈ t.Sends, D6 [x.From, x.To, x.Delay]
  b : ∀ x ∈ t.Bursts, D6 [x.Node]
  y : ∀ x ∈ t.Strays, D6 [x.From, x.To, x.Delay]
  w : ∀ x ∈ t.Writes, D6 [x.Node]
structure ScG (s : GScript) : Prop where
  c : D6 (confL s.Conf)
  t : D6 s.Conf.Table
  f : D6 s.Faulty
  tt : ∀ x ∈ s.Ticks, TG x
  len : (scriptT s).length ≤ 1000000000
/-! ### The program's writer -/
@[reducible] def W (t : List UInt8) : Glines_writer := Glines_writer.mk (intsOf t)
theorem ints_len (t : List UInt8) : (intsOf t).length = t.length := by simp [intsOf]
theorem word_ge (s : List UInt8) : 2 * s.length ≤ (word s).length := by
  unfold word
  split
  · rename_i h; simp [h]
  · rw [hx_len]; omega
theorem flat_at {α β : Type} {g : α → List β} {l : List α} {x : α} (h : x ∈ l) : (g x).length ≤ (l.flatMap g).length := by
  obtain ⟨a, b, rfl⟩ := List.append_of_mem h
  simp; omega
theorem wput (l t : List UInt8) (h : (t ++ l).length ≤ 1000000000) : lines_writer_put (intsOf l) (W t) = some (W (t ++ l)) := by
  rw [List.length_append] at h
  rw [put_eq _ _ (by rw [lenMax_eq, ints_len, ints_len]; omega), ← ints_app]
theorem wput10 (t : List UInt8) (h : (t ++ [10]).length ≤ 1000000000) : lines_writer_put [10] (W t) = some (W (t ++ [10])) := wput [10] t h
theorem wput32 (t : List UInt8) (h : (t ++ [32]).length ≤ 1000000000) : lines_writer_put [32] (W t) = some (W (t ++ [32])) := wput [32] t h
theorem d6_i64 {n : Int} (h : 0 ≤ n ∧ n < 1000000) : I64 n := ⟨by omega, by omega⟩
theorem wnums (l : List Int) (t : List UInt8) (hd : D6 l) (h : (t ++ l.flatMap num).length ≤ 1000000000) : lines_writer_numbers_0 l (l.length : Int) 0 (W t) = some (W (t ++ l.flatMap num)) := by
  unfold lines_writer_numbers_0
  rw [List.length_append] at h
  have hl : l.length ≤ (l.flatMap num).length := by
    clear h hd
    induction l with
    | nil => simp
    | cons x l ih => rw [List.flatMap_cons, List.length_append, List.length_cons]; unfold num at ih ⊢; rw [List.length_cons]; omega
  have := loopO_rows (f := fun s : Int × Glines_writer => lines_writer_numbers_0_step l (l.length : Int) s.1 s.2) (fun o i => (i, W o)) W l (fun _ n => num n) 1000000000
    (fun k n o hk hn ho => by
      show lines_writer_numbers_0_step _ _ _ _ = _
      unfold lines_writer_numbers_0_step
      unfold num at ho
      rw [List.length_cons] at ho
      rw [if_pos (by omega), idx_get hn, Option.bind_some, wput32 _ (by rw [List.length_append]; simp; omega), Option.bind_some, Itoa_eq (d6_i64 (hd n (List.mem_of_getElem? hn))), Option.bind_some,
        if_pos (by rw [lenMax_eq, ints_len, ints_len, List.length_append]; simp; omega), ← ints_app, List.append_assoc, wrI rfl (by omega)]
      rfl)
    (fun o => by
      show lines_writer_numbers_0_step _ _ _ _ = _
      unfold lines_writer_numbers_0_step
      rw [if_neg (by omega)]) t (by rw [rows_flat]; omega)
  rw [rows_flat] at this
  exact this
theorem wnumbers (head : List UInt8) (l : List Int) (t : List UInt8) (hd : D6 l) (h : (t ++ lineL head l).length ≤ 1000000000) : lines_writer_numbers head l (W t) = some (W (t ++ lineL head l)) := by
  unfold lines_writer_numbers
  unfold lineL at h ⊢
  rw [← List.append_assoc] at h ⊢
  rw [if_pos (by rw [lenMax_eq, ints_len, ints_len]; simp only [List.length_append] at h; omega), ← ints_app, wnums l _ hd h]
  rfl
theorem wsome (head : List UInt8) (l : List Int) (t : List UInt8) (hd : D6 l) (h : (t ++ someT head l).length ≤ 1000000000) : lines_writer_some head l (W t) = some (W (t ++ someT head l)) := by
  unfold lines_writer_some
  unfold someT at h ⊢
  by_cases e : l = []
  · rw [if_pos (by rw [e]; rfl), if_pos e, List.append_nil]
  · rw [if_neg e] at h ⊢
    rw [← List.append_assoc] at h ⊢
    rw [if_neg (by have := List.length_pos_iff.2 e; omega), wnumbers head l t hd (by rw [List.length_append] at h; omega), Option.bind_some, wput10 _ h]
    rfl
theorem wsome1 (head : List UInt8) (l : List Int) (t : List UInt8) (hd : D6 l) (h : (t ++ someT head l).length ≤ 1000000000) : lines_writer_some_v1 head l (W t) = some (W (t ++ someT head l)) := wsome head l t hd h
theorem wword (s t : List UInt8) (h : (t ++ word s).length ≤ 1000000000) : lines_writer_word s (W t) = some (W (t ++ word s)) := by
  have hg := word_ge s
  rw [List.length_append] at h
  unfold lines_writer_word
  by_cases e : s = []
  · subst e
    rw [if_pos rfl, show lines_writer_put [45] (W t) = some (W (t ++ [45])) from wput [45] t (by rw [List.length_append]; exact h), Option.bind_some, word0_eq [] _ (by rw [ints_len, List.length_append]; have : (word []).length = 1 := rfl; simp only [List.length_cons, List.length_nil]; omega)]
    simp [word, intsOf]
  · rw [if_neg e, show lines_writer_word_0a = lines_writer_word_0 from rfl, word0_eq s _ (by rw [ints_len]; omega), Option.bind_some, ← ints_app, word, if_neg e]
theorem ev_len (head bytes : List UInt8) (l : List Int) : (evT head bytes l).length = (lineL head l).length + (word bytes).length + 2 := by
  unfold evT
  simp only [List.length_append, List.length_cons, List.length_nil]
  omega
theorem wevent (head bytes : List UInt8) (l : List Int) (t : List UInt8) (hd : D6 l) (h : (t ++ evT head bytes l).length ≤ 1000000000) : lines_writer_event head bytes l (W t) = some (W (t ++ evT head bytes l)) := by
  rw [List.length_append, ev_len] at h
  unfold lines_writer_event
  rw [wnumbers head l t hd (by rw [List.length_append]; omega), Option.bind_some, wput32 _ (by simp only [List.length_append, List.length_cons, List.length_nil]; omega), Option.bind_some,
    wword _ _ (by simp only [List.length_append, List.length_cons, List.length_nil]; omega), Option.bind_some, wput10 _ (by simp only [List.length_append, List.length_cons, List.length_nil]; omega), Option.bind_some]
  unfold evT
  simp only [List.append_assoc, List.cons_append, List.nil_append]
theorem flat_le {α : Type} {g : α → List UInt8} (hg : ∀ x, 1 ≤ (g x).length) : ∀ l : List α, l.length ≤ (l.flatMap g).length
  | [] => by simp
  | x :: l => by
    have := flat_le hg l
    have := hg x
    rw [List.flatMap_cons, List.length_append, List.length_cons]; omega
theorem evs_eq {α : Type} (f : Int × Glines_writer → Option ((Int × Glines_writer) ⊕ Glines_writer)) (l : List α) (g : α → List UInt8) (hg : ∀ x, 1 ≤ (g x).length)
    (h : ∀ (k : Nat) x o, k < l.length → k < 1000000000 → l[k]? = some x → (o ++ g x).length ≤ 1000000000 → f ((k : Int), W o) = some (.inl ((k : Int) + 1, W (o ++ g x))))
    (he : ∀ o, f ((l.length : Int), W o) = some (.inr (W o))) (t : List UInt8) (hl : (t ++ l.flatMap g).length ≤ 1000000000) : loopO f (0, W t) = some (W (t ++ l.flatMap g)) := by
  rw [List.length_append] at hl
  have hh := flat_le hg l
  have := loopO_rows (f := f) (fun o i => (i, W o)) W l (fun _ x => g x) 1000000000 (fun k x o hk hx ho => h k x o hk (by omega) hx (by rw [List.length_append]; exact ho)) he t (by rw [rows_flat]; exact hl)
  rw [rows_flat] at this
  exact this
theorem ev_pos (head bytes : List UInt8) (l : List Int) : 1 ≤ (evT head bytes l).length := by rw [ev_len]; omega
theorem wtick (t : GTick) (h : TG t) (o : List UInt8) (hl : (o ++ tickT t).length ≤ 1000000000) : lines_writer_tick t (W o) = some (W (o ++ tickT t)) := by
  unfold tickT tickA at hl ⊢
  simp only [← List.append_assoc] at hl ⊢
  have hl4 := hl; rw [List.length_append] at hl
  have hl3 : ((((((o ++ [116, 105, 99, 107, 10]) ++ someT [117, 110, 105, 116, 115] t.Units) ++ someT [100, 101, 108, 97, 121, 115] t.Delays) ++ t.Sends.flatMap sendT) ++ t.Bursts.flatMap burstT) ++ t.Strays.flatMap strayT).length ≤ 1000000000 := by omega
  have hl := hl3; rw [List.length_append] at hl
  have hl2 : (((((o ++ [116, 105, 99, 107, 10]) ++ someT [117, 110, 105, 116, 115] t.Units) ++ someT [100, 101, 108, 97, 121, 115] t.Delays) ++ t.Sends.flatMap sendT) ++ t.Bursts.flatMap burstT).length ≤ 1000000000 := by omega
  have hl := hl2; rw [List.length_append] at hl
  have hl1 : ((((o ++ [116, 105, 99, 107, 10]) ++ someT [117, 110, 105, 116, 115] t.Units) ++ someT [100, 101, 108, 97, 121, 115] t.Delays) ++ t.Sends.flatMap sendT).length ≤ 1000000000 := by omega
  have hl := hl1; rw [List.length_append] at hl
  have hl0 : (((o ++ [116, 105, 99, 107, 10]) ++ someT [117, 110, 105, 116, 115] t.Units) ++ someT [100, 101, 108, 97, 121, 115] t.Delays).length ≤ 1000000000 := by omega
  have hl := hl0; rw [List.length_append] at hl
  have hlu : ((o ++ [116, 105, 99, 107, 10]) ++ someT [117, 110, 105, 116, 115] t.Units).length ≤ 1000000000 := by omega
  have hl := hlu; rw [List.length_append] at hl
  have hlh : (o ++ [116, 105, 99, 107, 10]).length ≤ 1000000000 := by omega
  have L0 := evs_eq (fun s : Int × Glines_writer => lines_writer_tick_0_step t t.Sends (t.Sends.length : Int) s.1 s.2) t.Sends sendT (fun x => ev_pos _ _ _) (fun k x o hk hk2 hx ho => by
    show lines_writer_tick_0_step _ _ _ _ _ = _
    unfold lines_writer_tick_0_step
    rw [if_pos (by omega), idx_get hx, Option.bind_some, wevent _ _ _ _ (h.s x (List.mem_of_getElem? hx)) ho, Option.bind_some, wrI rfl (by omega)]; rfl) (fun o => by
    show lines_writer_tick_0_step _ _ _ _ _ = _
    unfold lines_writer_tick_0_step
    rw [if_neg (by omega)]) _ hl1
  have L1 := evs_eq (fun s : Int × Glines_writer => lines_writer_tick_1_step t t.Bursts (t.Bursts.length : Int) s.1 s.2) t.Bursts burstT (fun x => ev_pos _ _ _) (fun k x o hk hk2 hx ho => by
    show lines_writer_tick_1_step _ _ _ _ _ = _
    unfold lines_writer_tick_1_step
    rw [if_pos (by omega), idx_get hx, Option.bind_some, wevent _ _ _ _ (h.b x (List.mem_of_getElem? hx)) ho, Option.bind_some, wrI rfl (by omega)]; rfl) (fun o => by
    show lines_writer_tick_1_step _ _ _ _ _ = _
    unfold lines_writer_tick_1_step
    rw [if_neg (by omega)]) _ hl2
  have L2 := evs_eq (fun s : Int × Glines_writer => lines_writer_tick_2_step t t.Strays (t.Strays.length : Int) s.1 s.2) t.Strays strayT (fun x => ev_pos _ _ _) (fun k x o hk hk2 hx ho => by
    show lines_writer_tick_2_step _ _ _ _ _ = _
    unfold lines_writer_tick_2_step
    rw [if_pos (by omega), idx_get hx, Option.bind_some, wevent _ _ _ _ (h.y x (List.mem_of_getElem? hx)) ho, Option.bind_some, wrI rfl (by omega)]; rfl) (fun o => by
    show lines_writer_tick_2_step _ _ _ _ _ = _
    unfold lines_writer_tick_2_step
    rw [if_neg (by omega)]) _ hl3
  have L3 := evs_eq (fun s : Int × Glines_writer => lines_writer_tick_3_step t.Writes (t.Writes.length : Int) s.1 s.2) t.Writes writeT (fun x => ev_pos _ _ _) (fun k x o hk hk2 hx ho => by
    show lines_writer_tick_3_step _ _ _ _ = _
    unfold lines_writer_tick_3_step
    rw [if_pos (by omega), idx_get hx, Option.bind_some, wevent _ _ _ _ (h.w x (List.mem_of_getElem? hx)) ho, Option.bind_some, wrI rfl (by omega)]; rfl) (fun o => by
    show lines_writer_tick_3_step _ _ _ _ = _
    unfold lines_writer_tick_3_step
    rw [if_neg (by omega)]) _ hl4
  rw [List.length_append] at hlh
  simp only [List.length_cons, List.length_nil] at hlh
  unfold lines_writer_tick lines_writer_tick_0 lines_writer_tick_1 lines_writer_tick_2 lines_writer_tick_3
  rw [show lines_writer_numbers_v2 [116, 105, 99, 107] ([] : List Int) (W o) = some (W (o ++ [116, 105, 99, 107])) from wnumbers [116, 105, 99, 107] [] o (fun n hn => by cases hn) (by rw [List.length_append]; simp [lineL]; omega), Option.bind_some,
    wput10 _ (by simp only [List.length_append, List.length_cons, List.length_nil]; omega), Option.bind_some, show o ++ [116, 105, 99, 107] ++ [10] = o ++ [116, 105, 99, 107, 10] by simp,
    wsome1 _ _ _ h.u hlu, Option.bind_some, wsome1 _ _ _ h.d hl0, Option.bind_some, L0, Option.bind_some, L1, Option.bind_some, L2, Option.bind_some, L3, Option.bind_some]
theorem tick_pos (t : GTick) : 1 ≤ (tickT t).length := by
  unfold tickT tickA
  simp only [List.length_append, List.length_cons, List.length_nil]
  omega
theorem wend1 (X : List UInt8) (h : X.length + 4 ≤ 1000000000) : lines_writer_numbers_v2 [101, 110, 100] ([] : List Int) (W X) = some (W (X ++ [101, 110, 100])) :=
  wnumbers [101, 110, 100] [] X (fun n hn => by cases hn) (by simp only [lineL, List.flatMap_nil, List.append_nil, List.length_append, List.length_cons, List.length_nil]; omega)
theorem wend2 (X : List UInt8) (h : X.length + 4 ≤ 1000000000) : lines_writer_put [10] (W (X ++ [101, 110, 100])) = some (W (X ++ [101, 110, 100, 10])) := by
  rw [wput10 _ (by simp only [List.length_append, List.length_cons, List.length_nil]; omega), List.append_assoc]
  rfl
theorem wscript (s : GScript) (h : ScG s) (hr : script_Right s = some 0) : lines_Write s = some (scriptT s, 0) := by
  have hl := h.len
  unfold scriptT headA at hl
  have hl2 := hl; rw [List.length_append] at hl2
  have hl3 : ((lineL [99, 111, 110, 102] (confL s.Conf) ++ [10] ++ someT [116, 97, 98, 108, 101] s.Conf.Table ++ someT [102, 97, 117, 108, 116, 121] s.Faulty ++ s.Images.flatMap imageT) ++ s.Ticks.flatMap tickT).length ≤ 1000000000 := by omega
  have hl4 := hl3; rw [List.length_append] at hl4
  have hl5 : ((lineL [99, 111, 110, 102] (confL s.Conf) ++ [10] ++ someT [116, 97, 98, 108, 101] s.Conf.Table ++ someT [102, 97, 117, 108, 116, 121] s.Faulty) ++ s.Images.flatMap imageT).length ≤ 1000000000 := by omega
  have hl6 := hl5; rw [List.length_append] at hl6
  have hl7 : ((lineL [99, 111, 110, 102] (confL s.Conf) ++ [10] ++ someT [116, 97, 98, 108, 101] s.Conf.Table) ++ someT [102, 97, 117, 108, 116, 121] s.Faulty).length ≤ 1000000000 := by omega
  have hl8 := hl7; rw [List.length_append] at hl8
  have hl9 : ((lineL [99, 111, 110, 102] (confL s.Conf) ++ [10]) ++ someT [116, 97, 98, 108, 101] s.Conf.Table).length ≤ 1000000000 := by omega
  have hl10 := hl9; rw [List.length_append] at hl10
  have hl11 : (([] : List UInt8) ++ someT [99, 111, 110, 102] (confL s.Conf)).length ≤ 1000000000 := by
    rw [List.nil_append, someT, if_neg (by simp [confL])]; omega
  have L0 := evs_eq (fun z : Int × Glines_writer => lines_Write_0_step s s.Images (s.Images.length : Int) s.Conf z.1 z.2) s.Images imageT (fun x => ev_pos _ _ _) (fun k x o hk hk2 hx ho => by
    show lines_Write_0_step _ _ _ _ _ _ = _
    unfold lines_Write_0_step
    rw [if_pos (by omega), idx_get hx, Option.bind_some, wevent _ _ _ _ (fun n hn => by cases hn) ho, Option.bind_some, wrI rfl (by omega)]; rfl) (fun o => by
    show lines_Write_0_step _ _ _ _ _ _ = _
    unfold lines_Write_0_step
    rw [if_neg (by omega)]) _ hl5
  have L1 := evs_eq (fun z : Int × Glines_writer => lines_Write_1_step s.Ticks (s.Ticks.length : Int) s.Conf z.1 z.2) s.Ticks tickT tick_pos (fun k x o hk hk2 hx ho => by
    show lines_Write_1_step _ _ _ _ _ = _
    unfold lines_Write_1_step
    rw [if_pos (by omega), idx_get hx, Option.bind_some, wtick _ (h.tt x (List.mem_of_getElem? hx)) _ ho, Option.bind_some, wrI rfl (by omega)]) (fun o => by
    show lines_Write_1_step _ _ _ _ _ = _
    unfold lines_Write_1_step
    rw [if_neg (by omega)]) _ hl3
  simp only [List.length_cons, List.length_nil] at hl2
  unfold lines_Write lines_Write_0 lines_Write_1
  rw [hr, Option.bind_some, if_neg (by simp)]
  have e1 := wsome [99, 111, 110, 102] (confL s.Conf) [] h.c hl11
  rw [List.nil_append, someT, if_neg (by simp [confL])] at e1
  rw [show lines_writer_some ([99, 111, 110, 102] : List UInt8) [s.Conf.N, s.Conf.F, s.Conf.D, s.Conf.Period, s.Conf.Rate, s.Conf.Drift, s.Conf.Offset, s.Conf.Slot, s.Conf.Mod, s.Conf.Fresh] (Glines_writer.mk ([] : List Int)) = some (W (lineL [99, 111, 110, 102] (confL s.Conf) ++ [10])) from e1,
    Option.bind_some, wsome1 _ _ _ h.t hl9, Option.bind_some, wsome1 _ _ _ h.f hl7, Option.bind_some, L0, Option.bind_some, L1, Option.bind_some,
    wend1 _ (by omega), Option.bind_some, wend2 _ (by omega), Option.bind_some, bytes_ints]
  rfl
end Go.Proofs.YtfjlpfjpidikjaaGreatDoor
set_option linter.unusedVariables false
set_option linter.unusedSimpArgs false
namespace Go.Proofs.YtfjlpfjpidikjaaGreatDoor
open Go.Proofs.PF
theorem byte_dig (d : Nat) (h : d < 10) : r01_Byte (wr (48 + (d : Int))) = some [UInt8.ofNat (48 + d)] := by
  unfold r01_Byte
  rw [wrI rfl (by omega), w8_eq (by omega)]
  simp only [bytesOf, List.map_cons, List.map_nil]
  rw [show (48 + (d : Int)).toNat = 48 + d by omega]
theorem digits_body (f : Int → Option (List UInt8)) (m : Nat) (h : m < 1000000) (hf : 10 ≤ m → f ((m / 10 : Nat) : Int) = some (Lib.decDigits (m / 10))) : r40_digits_body f (m : Int) = some (Lib.decDigits m) := by
  unfold r40_digits_body
  have e1 : Int.tdiv (m : Int) 10 = ((m / 10 : Nat) : Int) := by rw [Int.tdiv_eq_ediv_of_nonneg (by omega)]; omega
  have e2 : Int.tmod (m : Int) 10 = ((m % 10 : Nat) : Int) := by rw [Int.tmod_eq_emod_of_nonneg (by omega)]; omega
  by_cases c1 : m < 10
  · rw [if_pos (by omega), byte_dig m c1, Option.bind_some, Lib.decDigits, dif_pos c1]
  · have hl := dig_len 18 (m / 10) (by omega)
    rw [if_neg (by omega), e1, e2, wrI rfl (by omega), hf (by omega), Option.bind_some, byte_dig (m % 10) (by omega), Option.bind_some, if_pos (by simp; omega), dd c1]
theorem digits_iter : ∀ (k m : Nat), m < 1000000 → m < 10 ^ (k + 1) → ∀ j, k < j → iterO (fun r (p : Int) => r40_digits_body (fun n0 => r n0) p) j (m : Int) = some (Lib.decDigits m) := by
  intro k
  induction k with
  | zero =>
    intro m h hk j hj
    obtain ⟨j, rfl⟩ : ∃ i, j = i + 1 := ⟨j - 1, by omega⟩
    exact digits_body _ m h fun hh => absurd hh (by omega)
  | succ k ih =>
    intro m h hk j hj
    obtain ⟨j, rfl⟩ : ∃ i, j = i + 1 := ⟨j - 1, by omega⟩
    exact digits_body _ m h fun hh => ih _ (by omega) (by rw [Nat.pow_succ] at hk; omega) j (by omega)
theorem digits_eq {n : Int} (h : 0 ≤ n ∧ n < 1000000) : r40_digits n = some (Lib.itoa n) := by
  obtain ⟨m, rfl⟩ : ∃ m : Nat, n = (m : Int) := ⟨n.toNat, by omega⟩
  rw [Lib.itoa_nonneg]
  have := le_recN
  exact digits_iter 18 m (by omega) (by omega) recN (by omega)
theorem rrow (head : List UInt8) (l : List Int) (hd : D6 l) (h : (lineL head l).length ≤ 1000000000) : r40_row head l = some (lineL head l) := by
  have hl := flat_le (g := num) (fun x => by unfold num; simp) l
  unfold lineL at h
  rw [List.length_append] at h
  have := loopO_rows (f := fun s : List UInt8 × Int => r40_row_0_step l s.1 s.2) (fun o i => (o, i)) id l (fun _ n => num n) 1000000000
    (fun k n o hk hn ho => by
      show r40_row_0_step _ _ _ = _
      unfold r40_row_0_step
      unfold num at ho
      rw [List.length_cons] at ho
      rw [if_pos (by omega), if_pos (by simp; omega), idx_get hn, Option.bind_some, digits_eq (hd n (List.mem_of_getElem? hn)), Option.bind_some, if_pos (by simp; omega), List.append_assoc, wrI rfl (by omega)]
      rfl)
    (fun o => by
      show r40_row_0_step _ _ _ = _
      unfold r40_row_0_step
      rw [if_neg (by omega)]; rfl) head (by rw [rows_flat]; omega)
  rw [rows_flat] at this
  unfold r40_row r40_row_0
  rw [this]
  rfl
theorem rsome (head : List UInt8) (l : List Int) (hd : D6 l) (h : (someT head l).length ≤ 1000000000) : r40_some head l = some (someT head l) := by
  unfold r40_some
  unfold someT at h ⊢
  by_cases e : l = []
  · rw [if_pos (by rw [e]; rfl), if_pos e]
  · rw [if_neg e] at h ⊢
    rw [List.length_append] at h
    rw [if_neg (by have := List.length_pos_iff.2 e; omega), rrow head l hd (by omega), Option.bind_some, if_pos (by simp only [List.length_cons, List.length_nil] at h ⊢; omega)]
theorem evs_eq' {α : Type} (f : List UInt8 × Int → Option ((List UInt8 × Int) ⊕ List UInt8)) (l : List α) (g : α → List UInt8) (hg : ∀ x, 1 ≤ (g x).length)
    (h : ∀ (k : Nat) x o, k < l.length → k < 1000000000 → l[k]? = some x → o.length + (g x).length ≤ 1000000000 → f (o, (k : Int)) = some (.inl (o ++ g x, (k : Int) + 1)))
    (he : ∀ o, f (o, (l.length : Int)) = some (.inr o)) (t : List UInt8) (hl : (t ++ l.flatMap g).length ≤ 1000000000) : loopO f (t, 0) = some (t ++ l.flatMap g) := by
  rw [List.length_append] at hl
  have hh := flat_le hg l
  have := loopO_rows (f := f) (fun o i => (o, i)) id l (fun _ x => g x) 1000000000 (fun k x o hk hx ho => h k x o hk (by omega) hx ho) he t (by rw [rows_flat]; exact hl)
  rw [rows_flat] at this
  exact this
/-- A round that writes an event. -/
theorem rev_eq (head bytes : List UInt8) (l : List Int) (o : List UInt8) (k : Nat) (hk : k < 1000000000) (hd : D6 l) (h : o.length + (evT head bytes l).length ≤ 1000000000) :
    ((r40_row head l).bind fun r3 => if List.length o + List.length r3 ≤ 9223372036854775807 then
      if List.length (o ++ r3) + List.length ([32] : List UInt8) ≤ 9223372036854775807 then
        (r40_hex bytes).bind fun r4 =>
        if List.length ((o ++ r3) ++ ([32] : List UInt8)) + List.length r4 ≤ 9223372036854775807 then
          if List.length (((o ++ r3) ++ ([32] : List UInt8)) ++ r4) + List.length ([10] : List UInt8) ≤ 9223372036854775807 then
            (some (.inl (((((o ++ r3) ++ ([32] : List UInt8)) ++ r4) ++ ([10] : List UInt8)), (wr ((k : Int) + 1)))) : Option ((List UInt8 × Int) ⊕ List UInt8))
          else none
        else none
      else none
    else none) = some (.inl (o ++ evT head bytes l, (k : Int) + 1)) := by
  rw [ev_len] at h
  have hw := word_ge bytes
  rw [rrow head l hd (by omega), Option.bind_some, if_pos (by omega), if_pos (by simp only [List.length_append, List.length_cons, List.length_nil]; omega), rhex bytes (by omega), Option.bind_some,
    if_pos (by simp only [List.length_append, List.length_cons, List.length_nil]; omega), if_pos (by simp only [List.length_append, List.length_cons, List.length_nil]; omega), wrI rfl (by omega)]
  unfold evT
  simp only [List.append_assoc, List.cons_append, List.nil_append]
theorem rtick (t : GTick) (h : TG t) (hl : (tickT t).length ≤ 1000000000) : r40_tick t = some (tickT t) := by
  unfold tickT tickA at hl ⊢
  have hl4 := hl; rw [List.length_append] at hl
  have hl3 : ((((([116, 105, 99, 107, 10] ++ someT [117, 110, 105, 116, 115] t.Units) ++ someT [100, 101, 108, 97, 121, 115] t.Delays) ++ t.Sends.flatMap sendT) ++ t.Bursts.flatMap burstT) ++ t.Strays.flatMap strayT).length ≤ 1000000000 := by omega
  have hl := hl3; rw [List.length_append] at hl
  have hl2 : (((([116, 105, 99, 107, 10] ++ someT [117, 110, 105, 116, 115] t.Units) ++ someT [100, 101, 108, 97, 121, 115] t.Delays) ++ t.Sends.flatMap sendT) ++ t.Bursts.flatMap burstT).length ≤ 1000000000 := by omega
  have hl := hl2; rw [List.length_append] at hl
  have hl1 : ((([116, 105, 99, 107, 10] ++ someT [117, 110, 105, 116, 115] t.Units) ++ someT [100, 101, 108, 97, 121, 115] t.Delays) ++ t.Sends.flatMap sendT).length ≤ 1000000000 := by omega
  have hl := hl1; rw [List.length_append] at hl
  have hl0 : (([116, 105, 99, 107, 10] ++ someT [117, 110, 105, 116, 115] t.Units) ++ someT [100, 101, 108, 97, 121, 115] t.Delays).length ≤ 1000000000 := by omega
  have hl := hl0; rw [List.length_append, List.length_append] at hl
  have L0 := evs_eq' (fun s : List UInt8 × Int => r40_tick_0_step t t.Sends (t.Sends.length : Int) s.1 s.2) t.Sends sendT (fun x => ev_pos _ _ _) (fun k x o hk hk2 hx ho => by
    show r40_tick_0_step _ _ _ _ _ = _
    unfold r40_tick_0_step
    rw [if_pos (by omega), idx_get hx, Option.bind_some]
    exact rev_eq _ _ _ _ k hk2 (h.s x (List.mem_of_getElem? hx)) ho) (fun o => by
    show r40_tick_0_step _ _ _ _ _ = _
    unfold r40_tick_0_step
    rw [if_neg (by omega)]) _ hl1
  have L1 := evs_eq' (fun s : List UInt8 × Int => r40_tick_1_step t t.Bursts (t.Bursts.length : Int) s.1 s.2) t.Bursts burstT (fun x => ev_pos _ _ _) (fun k x o hk hk2 hx ho => by
    show r40_tick_1_step _ _ _ _ _ = _
    unfold r40_tick_1_step
    rw [if_pos (by omega), idx_get hx, Option.bind_some]
    exact rev_eq _ _ _ _ k hk2 (h.b x (List.mem_of_getElem? hx)) ho) (fun o => by
    show r40_tick_1_step _ _ _ _ _ = _
    unfold r40_tick_1_step
    rw [if_neg (by omega)]) _ hl2
  have L2 := evs_eq' (fun s : List UInt8 × Int => r40_tick_2_step t t.Strays (t.Strays.length : Int) s.1 s.2) t.Strays strayT (fun x => ev_pos _ _ _) (fun k x o hk hk2 hx ho => by
    show r40_tick_2_step _ _ _ _ _ = _
    unfold r40_tick_2_step
    rw [if_pos (by omega), idx_get hx, Option.bind_some]
    exact rev_eq _ _ _ _ k hk2 (h.y x (List.mem_of_getElem? hx)) ho) (fun o => by
    show r40_tick_2_step _ _ _ _ _ = _
    unfold r40_tick_2_step
    rw [if_neg (by omega)]) _ hl3
  have L3 := evs_eq' (fun s : List UInt8 × Int => r40_tick_3_step t.Writes (t.Writes.length : Int) s.1 s.2) t.Writes writeT (fun x => ev_pos _ _ _) (fun k x o hk hk2 hx ho => by
    show r40_tick_3_step _ _ _ _ = _
    unfold r40_tick_3_step
    rw [if_pos (by omega), idx_get hx, Option.bind_some]
    exact rev_eq _ _ _ _ k hk2 (h.w x (List.mem_of_getElem? hx)) ho) (fun o => by
    show r40_tick_3_step _ _ _ _ = _
    unfold r40_tick_3_step
    rw [if_neg (by omega)]) _ hl4
  unfold r40_tick r40_tick_0 r40_tick_1 r40_tick_2 r40_tick_3
  rw [rsome _ _ h.u (by omega), Option.bind_some, if_pos (by omega), rsome _ _ h.d (by omega), Option.bind_some, if_pos (by rw [List.length_append]; omega), L0, Option.bind_some, L1, Option.bind_some, L2, Option.bind_some, L3, Option.bind_some]
theorem rscript (s : GScript) (h : ScG s) (hr : r33_Right s = some 0) : r40_Write s = some (scriptT s, 0) := by
  have hl := h.len
  unfold scriptT headA at hl
  have hl2 := hl; rw [List.length_append] at hl2
  have hl3 : ((lineL [99, 111, 110, 102] (confL s.Conf) ++ [10] ++ someT [116, 97, 98, 108, 101] s.Conf.Table ++ someT [102, 97, 117, 108, 116, 121] s.Faulty ++ s.Images.flatMap imageT) ++ s.Ticks.flatMap tickT).length ≤ 1000000000 := by omega
  have hl4 := hl3; rw [List.length_append] at hl4
  have hl5 : ((lineL [99, 111, 110, 102] (confL s.Conf) ++ [10] ++ someT [116, 97, 98, 108, 101] s.Conf.Table ++ someT [102, 97, 117, 108, 116, 121] s.Faulty) ++ s.Images.flatMap imageT).length ≤ 1000000000 := by omega
  have hl6 := hl5; rw [List.length_append] at hl6
  have hl7 : ((lineL [99, 111, 110, 102] (confL s.Conf) ++ [10] ++ someT [116, 97, 98, 108, 101] s.Conf.Table) ++ someT [102, 97, 117, 108, 116, 121] s.Faulty).length ≤ 1000000000 := by omega
  have hl8 := hl7; rw [List.length_append, List.length_append, List.length_append] at hl8
  have L0 := evs_eq' (fun z : List UInt8 × Int => r40_Write_0_step s s.Images (s.Images.length : Int) s.Conf z.1 z.2) s.Images imageT (fun x => ev_pos _ _ _) (fun k x o hk hk2 hx ho => by
    show r40_Write_0_step _ _ _ _ _ _ = _
    unfold r40_Write_0_step
    have hw := word_ge x
    unfold imageT at ho ⊢
    rw [ev_len] at ho
    simp only [lineL, List.flatMap_nil, List.append_nil, List.length_cons, List.length_nil] at ho
    rw [if_pos (by omega), idx_get hx, Option.bind_some, if_pos (by simp only [List.length_cons, List.length_nil]; omega), rhex x (by omega), Option.bind_some, if_pos (by simp only [List.length_append, List.length_cons, List.length_nil]; omega),
      if_pos (by simp only [List.length_append, List.length_cons, List.length_nil]; omega), wrI rfl (by omega)]
    simp only [evT, lineL, List.flatMap_nil, List.append_nil, List.append_assoc, List.cons_append, List.nil_append]) (fun o => by
    show r40_Write_0_step _ _ _ _ _ _ = _
    unfold r40_Write_0_step
    rw [if_neg (by omega)]) _ hl5
  have L1 := evs_eq' (fun z : List UInt8 × Int => r40_Write_1_step s.Ticks (s.Ticks.length : Int) s.Conf z.1 z.2) s.Ticks tickT tick_pos (fun k x o hk hk2 hx ho => by
    show r40_Write_1_step _ _ _ _ _ = _
    unfold r40_Write_1_step
    rw [if_pos (by omega), idx_get hx, Option.bind_some, rtick _ (h.tt x (List.mem_of_getElem? hx)) (by omega), Option.bind_some, if_pos (show o.length + (tickT x).length ≤ 9223372036854775807 by omega), wrI rfl (by omega)]) (fun o => by
    show r40_Write_1_step _ _ _ _ _ = _
    unfold r40_Write_1_step
    rw [if_neg (by omega)]) _ hl3
  simp only [List.length_cons, List.length_nil] at hl2 hl8
  have hl9 : (lineL [99, 111, 110, 102] (confL s.Conf)).length ≤ 1000000000 := by omega
  unfold r40_Write r40_Write_0 r40_Write_1
  rw [hr, Option.bind_some, if_neg (by simp), show r40_row ([99, 111, 110, 102] : List UInt8) [s.Conf.N, s.Conf.F, s.Conf.D, s.Conf.Period, s.Conf.Rate, s.Conf.Drift, s.Conf.Offset, s.Conf.Slot, s.Conf.Mod, s.Conf.Fresh] = some (lineL [99, 111, 110, 102] (confL s.Conf)) from rrow _ _ h.c hl9,
    Option.bind_some, if_pos (by simp only [List.length_cons, List.length_nil]; omega), rsome _ _ h.t (by omega), Option.bind_some, if_pos (by simp only [List.length_append, List.length_cons, List.length_nil]; omega), rsome _ _ h.f (by omega), Option.bind_some,
    if_pos (by simp only [List.length_append, List.length_cons, List.length_nil]; omega), L0, Option.bind_some, L1, Option.bind_some, if_pos (by simp only [List.length_cons, List.length_nil]; omega)]
  rfl
end Go.Proofs.YtfjlpfjpidikjaaGreatDoor
set_option linter.unusedVariables false
set_option linter.unusedSimpArgs false
namespace Go.Proofs.YtfjlpfjpidikjaaGreatDoor
open Go.Proofs.PF
structure FewT (t : GTick) : Prop where
  u : (t.Units.length : Int) ≤ 100
  d : (t.Delays.length : Int) ≤ 400
  s : (t.Sends.length : Int) ≤ 100
  b : (t.Bursts.length : Int) ≤ 100
  y : (t.Strays.length : Int) ≤ 100
  w : (t.Writes.length : Int) ≤ 100
  bb : ∀ x ∈ t.Bursts, (x.Image.length : Int) ≤ 16000
structure FewS (s : GScript) : Prop where
  t : (s.Ticks.length : Int) ≤ 300
  c : (s.Conf.Table.length : Int) ≤ 100
  f : (s.Faulty.length : Int) ≤ 100
  i : (s.Images.length : Int) ≤ 100
  ii : ∀ x ∈ s.Images, (x.length : Int) ≤ 16000
  tt : ∀ t ∈ s.Ticks, FewT t
theorem few_eq (s : GScript) : ∃ b, r33_Few s 300 = some b ∧ (b = true → FewS s) := by
  classical
  unfold r33_Few
  by_cases h1 : 300 < (s.Ticks.length : Int)
  · exact ⟨false, if_pos h1, fun h => by cases h⟩
  rw [if_neg h1]
  by_cases h2 : 100 < (s.Conf.Table.length : Int)
  · exact ⟨false, if_pos h2, fun h => by cases h⟩
  rw [if_neg h2]
  by_cases h3 : 100 < (s.Faulty.length : Int)
  · exact ⟨false, if_pos h3, fun h => by cases h⟩
  rw [if_neg h3]
  by_cases h4 : 100 < (s.Images.length : Int)
  · exact ⟨false, if_pos h4, fun h => by cases h⟩
  rw [if_neg h4]
  have L0 := loopO_alls (f := fun z => r33_Few_0_step s z) s.Images (fun x => (x.length : Int) ≤ 16000) (fun k x hk hx => by
    simp only [r33_Few_0_step]
    rw [if_pos (by omega), idx_get hx, Option.bind_some, wrI rfl (by omega)]
    by_cases a : 16000 < (x.length : Int)
    · rw [if_pos a, if_neg (by omega)]
    · rw [if_neg a, if_pos (by omega)]) (by simp only [r33_Few_0_step]; rw [if_neg (by omega)])
  have L1 := fun (o : Int) (t : GTick) (ht : (t.Bursts.length : Int) ≤ 100) =>
    loopO_alls (f := fun z => r33_Few_1_step s o t.Bursts (t.Bursts.length : Int) t z) t.Bursts (fun x => (x.Image.length : Int) ≤ 16000) (fun k x hk hx => by
      simp only [r33_Few_1_step]
      rw [if_pos (by omega), idx_get hx, Option.bind_some, wrI rfl (by omega)]
      by_cases a : 16000 < (x.Image.length : Int)
      · rw [if_pos a, if_neg (by omega)]
      · rw [if_neg a, if_pos (by omega)]) (by simp only [r33_Few_1_step]; rw [if_neg (by omega)])
  have L2 := loopO_alls (f := fun z => r33_Few_2_step s z) s.Ticks FewT (fun k t hk ht => by
    simp only [r33_Few_2_step]
    rw [if_pos (by omega), idx_get ht, Option.bind_some]
    by_cases a1 : 100 < (t.Units.length : Int)
    · rw [if_pos a1, if_neg (fun p => by have := p.u; omega)]
    rw [if_neg a1]
    by_cases a2 : 400 < (t.Delays.length : Int)
    · rw [if_pos a2, if_neg (fun p => by have := p.d; omega)]
    rw [if_neg a2]
    by_cases a3 : 100 < (t.Sends.length : Int)
    · rw [if_pos a3, if_neg (fun p => by have := p.s; omega)]
    rw [if_neg a3]
    by_cases a4 : 100 < (t.Bursts.length : Int)
    · rw [if_pos a4, if_neg (fun p => by have := p.b; omega)]
    rw [if_neg a4]
    by_cases a5 : 100 < (t.Strays.length : Int)
    · rw [if_pos a5, if_neg (fun p => by have := p.y; omega)]
    rw [if_neg a5]
    by_cases a6 : 100 < (t.Writes.length : Int)
    · rw [if_pos a6, if_neg (fun p => by have := p.w; omega)]
    rw [if_neg a6]
    unfold r33_Few_1
    rw [L1 _ t (by omega), Option.bind_some, wrI rfl (by omega)]
    by_cases a7 : ∀ x ∈ t.Bursts, (x.Image.length : Int) ≤ 16000
    · rw [if_pos a7, if_pos ⟨by omega, by omega, by omega, by omega, by omega, by omega, a7⟩]; rfl
    · rw [if_neg a7, if_neg (fun p => a7 p.bb)]; rfl) (by simp only [r33_Few_2_step]; rw [if_neg (by omega)])
  unfold r33_Few_0 r33_Few_2
  rw [L0, Option.bind_some]
  by_cases a : ∀ x ∈ s.Images, (x.length : Int) ≤ 16000
  · rw [if_pos a, Sum.elim_inr, L2, Option.bind_some]
    by_cases b : ∀ t ∈ s.Ticks, FewT t
    · exact ⟨true, by rw [if_pos b]; rfl, fun _ => ⟨by omega, by omega, by omega, by omega, a, b⟩⟩
    · exact ⟨false, by rw [if_neg b]; rfl, fun h => by cases h⟩
  · exact ⟨false, by rw [if_neg a]; rfl, fun h => by cases h⟩
theorem few_sin {s : GScript} (h : FewS s) (hc : cf.CIn s.Conf) : SIn s := by
  have h1 := h.f
  have h2 := h.i
  have h3 := h.t
  exact ⟨hc, by omega, by omega, by omega, fun t ht => by
    have a := h.tt t ht
    have a1 := a.u
    have a2 := a.d
    have a3 := a.s
    have a4 := a.b
    have a5 := a.y
    have a6 := a.w
    exact ⟨by omega, by omega, by omega, by omega, by omega, by omega⟩⟩
/-! ### What a right script holds -/
theorem first_zero : ∀ {l : List Int}, firstE l = 0 → ∀ e ∈ l, e = 0
  | [], _, e, h => by cases h
  | x :: l, h, e, he => by
    unfold firstE at h
    by_cases hx : x ≠ 0
    · rw [if_pos hx] at h; exact absurd h hx
    · rw [if_neg hx] at h
      rcases List.mem_cons.1 he with rfl | he
      · omega
      · exact first_zero h e he
theorem first_all : ∀ {l : List Int}, (∀ e ∈ l, e = 0) → firstE l = 0
  | [], _ => rfl
  | x :: l, h => by
    unfold firstE
    rw [if_neg (by simp [h x (by simp)]), first_all fun e he => h e (List.mem_cons_of_mem _ he)]
structure TR (c : GConf) (t : GTick) : Prop where
  u : Ns t.Units c.N
  d : Ns t.Delays (wr (c.N * c.N))
  s : ∀ x ∈ t.Sends, 0 ≤ x.Delay ∧ x.Delay ≤ 65535
  y : ∀ x ∈ t.Strays, 0 ≤ x.Delay ∧ x.Delay ≤ 65535
  f : ¬ Fl t
  n : Nm c t
  h : Sh t
  w : ∀ x ∈ t.Writes, (x.Text.length : Int) ≤ 16
theorem tr_of {c : GConf} {t : GTick} (h : tickV c t = 0) : TR c t := by
  unfold tickV at h
  split at h; · cases h
  split at h; · cases h
  split at h; · cases h
  split at h; · cases h
  split at h; · cases h
  split at h; · cases h
  split at h; · cases h
  split at h; · cases h
  rename_i a1 a2 a3 a4 a5 a6 a7 a8
  exact ⟨Decidable.not_not.1 a1, Decidable.not_not.1 a2, Decidable.not_not.1 a3, Decidable.not_not.1 a4, a5, Decidable.not_not.1 a6, Decidable.not_not.1 a7, Decidable.not_not.1 a8⟩
structure SR (s : GScript) : Prop where
  c : cf.Pl s.Conf
  f : Fc s.Conf s.Faulty
  i : (s.Images.length : Int) ≤ s.Conf.N
  t : s.Ticks.length ≤ 2000
  ii : ∀ x ∈ s.Images, (x.length : Int) ≤ 8000
  tt : ∀ t ∈ s.Ticks, TR s.Conf t
theorem sr_of {s : GScript} (h : scriptV s = 0) : SR s := by
  classical
  unfold scriptV at h
  split at h; · rename_i a; exact absurd h a
  split at h; · cases h
  split at h; · cases h
  split at h; · cases h
  split at h; · cases h
  rename_i a1 a2 a3 a4 a5
  refine ⟨?_, Classical.not_not.1 a2, by omega, by omega, Classical.not_not.1 a5, fun t ht => tr_of (first_zero h _ (List.mem_map_of_mem ht))⟩
  have a1 := Classical.not_not.1 a1
  unfold rightV at a1
  split at a1
  · rename_i b; exact absurd a1 b
  · rename_i b; exact pl_of (Classical.not_not.1 b)
theorem isn_d6 {c : GConf} {n : Int} (h : IsN c n) : 0 ≤ n ∧ n < 13 := by
  obtain ⟨h1, h2⟩ := h
  unfold clV at h2
  refine ⟨h1, ?_⟩
  split at h2
  · omega
  · split at h2 <;> omega
theorem line_len (head : List UInt8) {l : List Int} (h : D6 l) : (lineL head l).length ≤ head.length + 21 * l.length := by
  unfold lineL
  rw [List.length_append]
  have : (l.flatMap num).length ≤ 21 * l.length := by
    clear head
    induction l with
    | nil => simp
    | cons x l ih =>
      have := ih fun n hn => h n (List.mem_cons_of_mem _ hn)
      have l1 := itoa_len (d6_i64 (h x (by simp)))
      rw [List.flatMap_cons, List.length_append, List.length_cons, num, List.length_cons]
      omega
  omega
theorem some_len (head : List UInt8) {l : List Int} (h : D6 l) : (someT head l).length ≤ head.length + 21 * l.length + 1 := by
  have := line_len head h
  unfold someT
  split
  · simp
  · rw [List.length_append]; simp; omega
theorem flat_max {α : Type} {g : α → List UInt8} (B : Nat) : ∀ {l : List α}, (∀ x ∈ l, (g x).length ≤ B) → (l.flatMap g).length ≤ l.length * B
  | [], _ => by simp
  | x :: l, h => by
    have := flat_max B (l := l) fun y hy => h y (List.mem_cons_of_mem _ hy)
    have := h x (by simp)
    rw [List.flatMap_cons, List.length_append, List.length_cons, Nat.add_mul]
    omega
theorem d6_1 {a : Int} (h : 0 ≤ a ∧ a < 1000000) : D6 [a] := by
  intro n hn
  simp only [List.mem_cons, List.not_mem_nil, or_false] at hn
  subst hn; exact h
theorem d6_3 {a b c : Int} (h : 0 ≤ a ∧ a < 1000000) (h' : 0 ≤ b ∧ b < 1000000) (h'' : 0 ≤ c ∧ c < 1000000) : D6 [a, b, c] := by
  intro n hn
  simp only [List.mem_cons, List.not_mem_nil, or_false] at hn
  rcases hn with rfl | rfl | rfl <;> assumption
theorem tr_tg {c : GConf} {t : GTick} (h : TR c t) : TG t := by
  have k : ∀ {n : Int}, IsN c n → 0 ≤ n ∧ n < 1000000 := fun hn => by have := isn_d6 hn; omega
  have k2 : ∀ {n : Int}, 0 ≤ n ∧ n ≤ 65535 → 0 ≤ n ∧ n < 1000000 := fun hn => by omega
  obtain ⟨n1, n2, n3, n4⟩ := h.n
  exact ⟨fun n hn => k2 (h.u.2 n hn), fun n hn => k2 (h.d.2 n hn), fun x hx => d6_3 (k (n1 x hx).1) (k (n1 x hx).2) (k2 (h.s x hx)), fun x hx => d6_1 (k (n3 x hx)), fun x hx => d6_3 (k (n2 x hx).1) (k (n2 x hx).2) (k2 (h.y x hx)), fun x hx => d6_1 (k (n4 x hx))⟩
theorem ev_max (head bytes : List UInt8) {l : List Int} (h : D6 l) : (evT head bytes l).length ≤ head.length + 21 * l.length + 2 * bytes.length + 3 := by
  have := line_len head h
  have := word_len bytes
  rw [ev_len]
  omega
theorem tick_max {c : GConf} {t : GTick} (h : TR c t) (hn : 0 ≤ c.N ∧ c.N ≤ 13) : (tickT t).length ≤ 2600000 := by
  have g := tr_tg h
  have b := mulB (a := c.N) (b := c.N) (A := 13) (B := 13) hn.1 hn.2 hn.1 hn.2
  have u1 := some_len [117, 110, 105, 116, 115] g.u
  have u2 := some_len [100, 101, 108, 97, 121, 115] g.d
  have hu := h.u.1
  have hd := h.d.1
  rw [wrI (n := c.N * c.N) rfl (by omega)] at hd
  have hf := h.f
  unfold Fl at hf
  obtain ⟨h1, h2, h3⟩ := h.h
  have m1 := flat_max (g := sendT) 16100 (l := t.Sends) fun x hx => by
    have := ev_max [115, 101, 110, 100] x.Bytes (g.s x hx)
    have := h1 x hx
    unfold sendT
    simp only [List.length_cons, List.length_nil] at *
    omega
  have m2 := flat_max (g := burstT) 16100 (l := t.Bursts) fun x hx => by
    have := ev_max [98, 117, 114, 115, 116] x.Image (g.b x hx)
    have := h3 x hx
    unfold burstT
    simp only [List.length_cons, List.length_nil] at *
    omega
  have m3 := flat_max (g := strayT) 16100 (l := t.Strays) fun x hx => by
    have := ev_max [115, 116, 114, 97, 121] x.Bytes (g.y x hx)
    have := h2 x hx
    unfold strayT
    simp only [List.length_cons, List.length_nil] at *
    omega
  have m4 := flat_max (g := writeT) 16100 (l := t.Writes) fun x hx => by
    have := ev_max [119, 114, 105, 116, 101] x.Text (g.w x hx)
    have := h.w x hx
    unfold writeT
    simp only [List.length_cons, List.length_nil] at *
    omega
  have p1 : t.Sends.length * 16100 ≤ 40 * 16100 := Nat.mul_le_mul_right _ (by omega)
  have p2 : t.Bursts.length * 16100 ≤ 40 * 16100 := Nat.mul_le_mul_right _ (by omega)
  have p3 : t.Strays.length * 16100 ≤ 40 * 16100 := Nat.mul_le_mul_right _ (by omega)
  have p4 : t.Writes.length * 16100 ≤ 40 * 16100 := Nat.mul_le_mul_right _ (by omega)
  unfold tickT tickA
  simp only [List.length_append, List.length_cons, List.length_nil] at u1 u2 ⊢
  omega
structure SD (s : GScript) : Prop where
  c : D6 (confL s.Conf)
  t : D6 s.Conf.Table
  f : D6 s.Faulty
  tt : ∀ x ∈ s.Ticks, TG x
theorem sr_sd {s : GScript} (h : SR s) : SD s := by
  obtain ⟨⟨n1, n2, n3, n4, n5⟩, ⟨l1, l2⟩, ⟨p1, p2, r1, r2, d1, d2, o1, o2, s1, s2, m1, m2, f1, f2⟩, ⟨t1, t2, t3, t4⟩⟩ := h.c
  have h0 := mulB (a := s.Conf.F + 1) (b := s.Conf.D) (A := 5) (B := 4) (by omega) (by omega) (by omega) (by omega)
  have e0 : 6 * (s.Conf.F + 1) * s.Conf.D = 6 * ((s.Conf.F + 1) * s.Conf.D) := by rw [Int.mul_assoc]
  have hc : D6 (confL s.Conf) := by
    intro n hn
    simp only [confL, List.mem_cons, List.not_mem_nil, or_false] at hn
    rcases hn with rfl | rfl | rfl | rfl | rfl | rfl | rfl | rfl | rfl | rfl <;> omega
  have ht : D6 s.Conf.Table := fun n hn => by have := t3 n hn; omega
  have hfy : D6 s.Faulty := fun n hn => by
    obtain ⟨k, hk, e⟩ := List.getElem_of_mem hn
    have := isn_d6 (h.f k n (List.getElem?_eq_some_iff.2 ⟨hk, e⟩)).1
    omega
  exact ⟨hc, ht, hfy, fun t ht => tr_tg (h.tt t ht)⟩
theorem sr_scg {s : GScript} (h : SR s) (hf : s.Ticks.length ≤ 300) (hy : s.Faulty.length ≤ 100) : ScG s := by
  obtain ⟨hc, ht, hfy, htt⟩ := sr_sd h
  refine ⟨hc, ht, hfy, htt, ?_⟩
  obtain ⟨⟨n1, n2, -⟩, -, -, ⟨-, t2, -⟩⟩ := h.c
  have q1 := line_len [99, 111, 110, 102] hc
  have q2 := some_len [116, 97, 98, 108, 101] ht
  have q3 := some_len [102, 97, 117, 108, 116, 121] hfy
  have q4 := flat_max (g := imageT) 16100 (l := s.Images) fun x hx => by
    have := ev_max [105, 109, 97, 103, 101] x (l := []) (fun n hn => by cases hn)
    have := h.ii x hx
    unfold imageT
    simp only [List.length_cons, List.length_nil] at *
    omega
  have q5 := flat_max (g := tickT) 2600000 (l := s.Ticks) fun x hx => tick_max (h.tt x hx) (by omega)
  have hi := h.i
  have z1 : s.Images.length * 16100 ≤ 13 * 16100 := Nat.mul_le_mul_right _ (by omega)
  have z2 : s.Ticks.length * 2600000 ≤ 300 * 2600000 := Nat.mul_le_mul_right _ (by omega)
  unfold scriptT headA
  simp only [List.length_append, List.length_cons, List.length_nil, confL] at q1 q2 q3 ⊢
  omega
/-! ### The law -/
theorem in_cin {s : GScript} (h : GScript.In s) : cf.CIn s.Conf := by
  obtain ⟨h1, h2, h3, h4, h5, h6, h7, h8, h9, h10, ⟨h11, h12⟩, -⟩ := h
  unfold SL at h11
  exact ⟨h1, h2, h3, h4, h5, h6, by omega, h12⟩
theorem writes_eq {s : GScript} (h : SIn s) (hf : FewS s) : lines_Write s = some (if scriptV s = 0 then (scriptT s, 0) else ([], scriptV s)) := by
  have hr := script_right s h
  by_cases e : scriptV s = 0
  · rw [if_pos e]
    rw [e] at hr
    have h1 := hf.t
    have h2 := hf.f
    exact wscript s (sr_scg (sr_of e) (by omega) (by omega)) hr
  · rw [if_neg e]
    unfold lines_Write
    rw [hr, Option.bind_some, if_pos e]
theorem rwrites_eq {s : GScript} (h : SIn s) (hf : FewS s) : r40_Write s = some (if scriptV s = 0 then (scriptT s, 0) else ([], scriptV s)) := by
  have hr := r33_right s h
  by_cases e : scriptV s = 0
  · rw [if_pos e]
    rw [e] at hr
    have h1 := hf.t
    have h2 := hf.f
    exact rscript s (sr_scg (sr_of e) (by omega) (by omega)) hr
  · rw [if_neg e]
    unfold r40_Write
    rw [hr, Option.bind_some, if_pos e, Option.bind_some]
theorem LinesWrites_true (s : GScript) (h : GScript.In s) (hb : bkL [GScript.av s] ≤ 1048576) : l40_LinesWrites s = some true := by
  unfold l40_LinesWrites
  obtain ⟨b, e, hf⟩ := few_eq s
  rw [e, Option.bind_some]
  cases b with
  | false => rfl
  | true =>
    have hf := hf rfl
    have hs := few_sin hf (in_cin h)
    rw [writes_eq hs hf, rwrites_eq hs hf, Option.bind_some, Option.bind_some, if_pos rfl, if_pos rfl]
    rfl
end Go.Proofs.YtfjlpfjpidikjaaGreatDoor
namespace Go.Proofs.YtfjlpfjpidikjaaGreatDoor
open Go.Proofs.PF
theorem LinesWrites_law (l : List AV) (h : ArgsOf [([.i .i64, .i .i64, .i .i64, .i .i64, .i .i64, .i .i64, .i .i64, .i .i64, .i .i64, .i .i64, .l [.i .i64] false, .l [.i .i64] false, .l [.s] false, .l [.l [.i .i64] false, .l [.i .i64] false, .l [.i .i64, .i .i64, .i .i64, .s] true, .l [.i .i64, .s] true, .l [.i .i64, .i .i64, .i .i64, .s] true, .l [.i .i64, .s] true] true], true)] l) (hb : bkL l ≤ 1048576) : LM.call n_l40_LinesWrites l [] = some (.bool true, []) := by
  obtain ⟨y0, _, rfl, p0, h⟩ := GScript.dec.arg h
  obtain rfl := Dec.end_ h
  obtain ⟨q, e, rfl⟩ := l40_LinesWrites_sim y0 true (LinesWrites_true y0 p0 hb)
  exact e
end Go.Proofs.YtfjlpfjpidikjaaGreatDoor
