/-
  Plain laws: what the functions compute, and that the laws say true. Conditions: none beyond each theorem's own.
-/
import Derived.Test.YtfjlpfjpidikjaaGreatDoorPFe
import Derived.Test.YtfjlpfjpidikjaaGreatDoorDb
import Derived.Lib.ItoaMem
set_option linter.unusedVariables false
set_option linter.unusedSimpArgs false
namespace Go.Proofs.YtfjlpfjpidikjaaGreatDoor
open Go.Proofs.PF
def GSend.In (x : GSend) : Prop := I64 x.From ∧ I64 x.To ∧ I64 x.Delay ∧ SL x.Bytes
theorem GSend.dec : Dec [.i .i64, .i .i64, .i .i64, .s] true GSend.av GSend.In := by
 intro cs h
 obtain ⟨x0, _, rfl, p0, h⟩ := Dec.i64.cons h
 obtain ⟨x1, _, rfl, p1, h⟩ := Dec.i64.cons h
 obtain ⟨x2, _, rfl, p2, h⟩ := Dec.i64.cons h
 obtain ⟨x3, _, rfl, p3, h⟩ := Dec.str.cons h
 obtain rfl := wfcs_nil h
 exact ⟨⟨x0, x1, x2, x3⟩, rfl, p0, p1, p2, p3⟩
def GBurst.In (x : GBurst) : Prop := I64 x.Node ∧ SL x.Image
theorem GBurst.dec : Dec [.i .i64, .s] true GBurst.av GBurst.In := by
 intro cs h
 obtain ⟨x0, _, rfl, p0, h⟩ := Dec.i64.cons h
 obtain ⟨x1, _, rfl, p1, h⟩ := Dec.str.cons h
 obtain rfl := wfcs_nil h
 exact ⟨⟨x0, x1⟩, rfl, p0, p1⟩
def GWrite.In (x : GWrite) : Prop := I64 x.Node ∧ SL x.Text
theorem GWrite.dec : Dec [.i .i64, .s] true GWrite.av GWrite.In := by
 intro cs h
 obtain ⟨x0, _, rfl, p0, h⟩ := Dec.i64.cons h
 obtain ⟨x1, _, rfl, p1, h⟩ := Dec.str.cons h
 obtain rfl := wfcs_nil h
 exact ⟨⟨x0, x1⟩, rfl, p0, p1⟩
def GTick.In (x : GTick) : Prop := (SL x.Units ∧ ∀ z0 ∈ x.Units, I64 z0) ∧ (SL x.Delays ∧ ∀ z0 ∈ x.Delays, I64 z0) ∧ (SL x.Sends ∧ ∀ z0 ∈ x.Sends, GSend.In z0) ∧ (SL x.Bursts ∧ ∀ z0 ∈ x.Bursts, GBurst.In z0) ∧ (SL x.Strays ∧ ∀ z0 ∈ x.Strays, GSend.In z0) ∧ (SL x.Writes ∧ ∀ z0 ∈ x.Writes, GWrite.In z0)
theorem GTick.dec : Dec [.l [.i .i64] false, .l [.i .i64] false, .l [.i .i64, .i .i64, .i .i64, .s] true, .l [.i .i64, .s] true, .l [.i .i64, .i .i64, .i .i64, .s] true, .l [.i .i64, .s] true] true GTick.av GTick.In := by
 intro cs h
 obtain ⟨x0, _, rfl, p0, h⟩ := (Dec.list Dec.i64).cons h
 obtain ⟨x1, _, rfl, p1, h⟩ := (Dec.list Dec.i64).cons h
 obtain ⟨x2, _, rfl, p2, h⟩ := (Dec.list GSend.dec).cons h
 obtain ⟨x3, _, rfl, p3, h⟩ := (Dec.list GBurst.dec).cons h
 obtain ⟨x4, _, rfl, p4, h⟩ := (Dec.list GSend.dec).cons h
 obtain ⟨x5, _, rfl, p5, h⟩ := (Dec.list GWrite.dec).cons h
 obtain rfl := wfcs_nil h
 exact ⟨⟨x0, x1, x2, x3, x4, x5⟩, rfl, p0, p1, p2, p3, p4, p5⟩
def GScript.In (x : GScript) : Prop := I64 x.Conf.N ∧ I64 x.Conf.F ∧ I64 x.Conf.D ∧ I64 x.Conf.Period ∧ I64 x.Conf.Rate ∧ I64 x.Conf.Drift ∧ I64 x.Conf.Offset ∧ I64 x.Conf.Slot ∧ I64 x.Conf.Mod ∧ I64 x.Conf.Fresh ∧ (SL x.Conf.Table ∧ ∀ z0 ∈ x.Conf.Table, I64 z0) ∧ (SL x.Faulty ∧ ∀ z0 ∈ x.Faulty, I64 z0) ∧ (SL x.Images ∧ ∀ z0 ∈ x.Images, SL z0) ∧ (SL x.Ticks ∧ ∀ z0 ∈ x.Ticks, GTick.In z0)
theorem GScript.dec : Dec [.i .i64, .i .i64, .i .i64, .i .i64, .i .i64, .i .i64, .i .i64, .i .i64, .i .i64, .i .i64, .l [.i .i64] false, .l [.i .i64] false, .l [.s] false, .l [.l [.i .i64] false, .l [.i .i64] false, .l [.i .i64, .i .i64, .i .i64, .s] true, .l [.i .i64, .s] true, .l [.i .i64, .i .i64, .i .i64, .s] true, .l [.i .i64, .s] true] true] true GScript.av GScript.In := by
 intro cs h
 obtain ⟨x0, _, rfl, p0, h⟩ := Dec.i64.cons h
 obtain ⟨x1, _, rfl, p1, h⟩ := Dec.i64.cons h
 obtain ⟨x2, _, rfl, p2, h⟩ := Dec.i64.cons h
 obtain ⟨x3, _, rfl, p3, h⟩ := Dec.i64.cons h
 obtain ⟨x4, _, rfl, p4, h⟩ := Dec.i64.cons h
 obtain ⟨x5, _, rfl, p5, h⟩ := Dec.i64.cons h
 obtain ⟨x6, _, rfl, p6, h⟩ := Dec.i64.cons h
 obtain ⟨x7, _, rfl, p7, h⟩ := Dec.i64.cons h
 obtain ⟨x8, _, rfl, p8, h⟩ := Dec.i64.cons h
 obtain ⟨x9, _, rfl, p9, h⟩ := Dec.i64.cons h
 obtain ⟨x10, _, rfl, p10, h⟩ := (Dec.list Dec.i64).cons h
 obtain ⟨x11, _, rfl, p11, h⟩ := (Dec.list Dec.i64).cons h
 obtain ⟨x12, _, rfl, p12, h⟩ := (Dec.list Dec.str).cons h
 obtain ⟨x13, _, rfl, p13, h⟩ := (Dec.list GTick.dec).cons h
 obtain rfl := wfcs_nil h
 exact ⟨⟨⟨x0, x1, x2, x3, x4, x5, x6, x7, x8, x9, x10⟩, x11, x12, x13⟩, rfl, p0, p1, p2, p3, p4, p5, p6, p7, p8, p9, p10, p11, p12, p13⟩
end Go.Proofs.YtfjlpfjpidikjaaGreatDoor
namespace Go.Proofs.PF
open Classical in
theorem loopO_all {f : Int → Option (Int ⊕ (Bool ⊕ Unit))} (n : Nat) (p : Nat → Prop)
 (h : ∀ k : Nat, k < n → f (k : Int) = some (if p k then .inl ((k : Int) + 1) else .inr (.inl false))) (he : f (n : Int) = some (.inr (.inr ()))) :
 loopO f 0 = some (if ∀ k, k < n → p k then .inr () else .inl false) := by
 have : ∀ m k : Nat, k + m = n → loopO f (k : Int) = some (if ∀ j, k ≤ j → j < n → p j then .inr () else .inl false) := by
  intro m
  induction m with
  | zero =>
    intro k hk
    have : k = n := by omega
    subst this
    rw [loopO_inr he, if_pos (fun j h1 h2 => absurd h1 (by omega))]
  | succ m ih =>
    intro k hk
    have h1 := h k (by omega)
    by_cases hp : p k
    ·rw [if_pos hp] at h1
     rw [loopO_inl h1]
     have := ih (k + 1) (by omega)
     rw [show ((k : Int) + 1) = ((k + 1 : Nat) : Int) by omega, this]
     by_cases ha : ∀ j, k + 1 ≤ j → j < n → p j
     ·rw [if_pos ha, if_pos]
      intro j h1 h2
      by_cases e : j = k
      ·subst e; exact hp
      ·exact ha j (by omega) h2
     ·rw [if_neg ha, if_neg]
      intro hh
      exact ha fun j h1 h2 => hh j (by omega) h2
    ·rw [if_neg hp] at h1
     rw [loopO_inr h1, if_neg]
     intro hh
     exact hp (hh k (Nat.le_refl _) (by omega))
 have := this n 0 (by omega)
 simpa using this
open Classical in
theorem loopO_any {β : Type} {f : Int → Option (Int ⊕ (β ⊕ Unit))} (n : Nat) (p : Nat → Prop) (b : β)
 (h : ∀ k : Nat, k < n → f (k : Int) = some (if p k then .inr (.inl b) else .inl ((k : Int) + 1))) (he : f (n : Int) = some (.inr (.inr ()))) :
 loopO f 0 = some (if ∃ k, k < n ∧ p k then .inl b else .inr ()) := by
 have : ∀ m k : Nat, k + m = n → loopO f (k : Int) = some (if ∃ j, k ≤ j ∧ j < n ∧ p j then .inl b else .inr ()) := by
  intro m
  induction m with
  | zero =>
    intro k hk
    have : k = n := by omega
    subst this
    rw [loopO_inr he, if_neg (fun ⟨j, h1, h2, _⟩ => absurd h1 (by omega))]
  | succ m ih =>
    intro k hk
    have h1 := h k (by omega)
    by_cases hp : p k
    ·rw [if_pos hp] at h1
     rw [loopO_inr h1, if_pos ⟨k, Nat.le_refl _, by omega, hp⟩]
    ·rw [if_neg hp] at h1
     rw [loopO_inl h1]
     have := ih (k + 1) (by omega)
     rw [show ((k : Int) + 1) = ((k + 1 : Nat) : Int) by omega, this]
     by_cases ha : ∃ j, k + 1 ≤ j ∧ j < n ∧ p j
     ·obtain ⟨j, h1, h2, h3⟩ := ha
      rw [if_pos ⟨j, h1, h2, h3⟩, if_pos ⟨j, by omega, h2, h3⟩]
     ·rw [if_neg ha, if_neg]
      rintro ⟨j, h1, h2, h3⟩
      by_cases e : j = k
      ·subst e; exact hp h3
      ·exact ha ⟨j, by omega, h2, h3⟩
 have := this n 0 (by omega)
 simpa using this
theorem idx_get {α : Type} {l : List α} {k : Nat} {x : α} (h : l[k]? = some x) : idx? l (k : Int) = some x := by
 obtain ⟨hk, e⟩ := List.getElem?_eq_some_iff.1 h
 rw [idx_nat _ _ hk, e]
open Classical in
theorem loopO_alls {α : Type} {f : Int → Option (Int ⊕ (Bool ⊕ Unit))} (l : List α) (p : α → Prop)
 (h : ∀ (k : Nat) (x : α), k < l.length → l[k]? = some x → f (k : Int) = some (if p x then .inl ((k : Int) + 1) else .inr (.inl false)))
 (he : f (l.length : Int) = some (.inr (.inr ()))) : loopO f 0 = some (if ∀ x ∈ l, p x then .inr () else .inl false) := by
 rw [loopO_all l.length (fun k => ∀ x, l[k]? = some x → p x) (fun k hk => ?_) he]
 ·have : (∀ k, k < l.length → ∀ x, l[k]? = some x → p x) ↔ ∀ x ∈ l, p x := by
   constructor
   ·intro h x hx
    obtain ⟨k, hk, e⟩ := List.getElem_of_mem hx
    exact h k hk x (List.getElem?_eq_some_iff.2 ⟨hk, e⟩)
   ·intro h k hk x hx
    exact h x (List.mem_of_getElem? hx)
  by_cases hp : ∀ x ∈ l, p x
  ·rw [if_pos hp, if_pos (this.2 hp)]
  ·rw [if_neg hp, if_neg fun hh => hp (this.1 hh)]
 ·have e := zge hk
  rw [h k _ hk e]
  by_cases hp : p l[k]
  ·rw [if_pos hp, if_pos (fun x hx => by rw [e] at hx; cases hx; exact hp)]
  ·rw [if_neg hp, if_neg (fun hh => hp (hh _ e))]
open Classical in
theorem loopO_anys {α β : Type} {f : Int → Option (Int ⊕ (β ⊕ Unit))} (l : List α) (p : α → Prop) (b : β)
 (h : ∀ (k : Nat) (x : α), k < l.length → l[k]? = some x → f (k : Int) = some (if p x then .inr (.inl b) else .inl ((k : Int) + 1)))
 (he : f (l.length : Int) = some (.inr (.inr ()))) : loopO f 0 = some (if ∃ x ∈ l, p x then .inl b else .inr ()) := by
 rw [loopO_any l.length (fun k => ∃ x, l[k]? = some x ∧ p x) b (fun k hk => ?_) he]
 ·have : (∃ k, k < l.length ∧ ∃ x, l[k]? = some x ∧ p x) ↔ ∃ x ∈ l, p x := by
   constructor
   ·rintro ⟨k, hk, x, hx, hp⟩
    exact ⟨x, List.mem_of_getElem? hx, hp⟩
   ·rintro ⟨x, hx, hp⟩
    obtain ⟨k, hk, e⟩ := List.getElem_of_mem hx
    exact ⟨k, hk, x, List.getElem?_eq_some_iff.2 ⟨hk, e⟩, hp⟩
  by_cases hp : ∃ x ∈ l, p x
  ·rw [if_pos hp, if_pos (this.2 hp)]
  ·rw [if_neg hp, if_neg fun hh => hp (this.1 hh)]
 ·have e := zge hk
  rw [h k _ hk e]
  by_cases hp : p l[k]
  ·rw [if_pos hp, if_pos ⟨_, e, hp⟩]
  ·rw [if_neg hp, if_neg]
   rintro ⟨x, hx, hh⟩
   rw [e] at hx; cases hx; exact hp hh
end Go.Proofs.PF
namespace Go.Proofs.YtfjlpfjpidikjaaGreatDoor
open Go.Proofs.PF
theorem lenMax_eq : lenMax = 4294967296 := rfl
theorem wrI {n m : Int} (h : n = m) (h1 : -9223372036854775808 ≤ m ∧ m ≤ 9223372036854775807) : wr n = m := by subst h; exact wr_eq h1
def rows {α β : Type} (t : Nat → α → List β) : Nat → List α → List β
 | _, [] => []
 | k, x :: r => t k x ++ rows t (k + 1) r
theorem rows_flat {α β : Type} (g : α → List β) : ∀ (l : List α) (k : Nat), rows (fun _ x => g x) k l = l.flatMap g
 | [], _ => rfl
 | x :: r, k => by rw [rows, rows_flat g r, List.flatMap_cons]
theorem loopO_rows {α β σ ρ : Type} {f : σ → Option (σ ⊕ ρ)} (st : List β → Int → σ) (re : List β → ρ) (l : List α) (t : Nat → α → List β) (B : Nat)
 (h : ∀ (k : Nat) x s, k < l.length → l[k]? = some x → s.length + (t k x).length ≤ B → f (st s (k : Int)) = some (.inl (st (s ++ t k x) ((k : Int) + 1))))
 (he : ∀ s, f (st s (l.length : Int)) = some (.inr (re s))) (s0 : List β) (hB : s0.length + (rows t 0 l).length ≤ B) : loopO f (st s0 0) = some (re (s0 ++ rows t 0 l)) := by
 have : ∀ (j k : Nat) (s : List β), k + j = l.length → s.length + (rows t k (l.drop k)).length ≤ B → loopO f (st s (k : Int)) = some (re (s ++ rows t k (l.drop k))) := by
  intro j
  induction j with
  | zero =>
    intro k s hk _
    have : k = l.length := by omega
    subst this
    rw [loopO_inr (he s)]
    simp [rows]
  | succ j ih =>
    intro k s hk hs
    have hlt : k < l.length := by omega
    rw [List.drop_eq_getElem_cons hlt, rows] at hs ⊢
    rw [List.length_append] at hs
    rw [loopO_inl (h k _ s hlt (zge hlt) (by omega)), show ((k : Int) + 1) = ((k + 1 : Nat) : Int) by omega, ih (k + 1) _ (by omega) (by rw [List.length_append]; omega), List.append_assoc]
 have := this l.length 0 s0 (by omega) (by simpa using hB)
 simpa using this
theorem dig_len : ∀ (k u : Nat), u < 10 ^ (k + 1) → (Lib.decDigits u).length ≤ k + 1 := by
 intro k
 induction k with
 | zero => intro u h; rw [Lib.decDigits, dif_pos (by omega)]; simp
 | succ k ih =>
   intro u h
   rw [Lib.decDigits]
   split
   ·simp
   ·rw [List.length_append]
    have := ih (u / 10) (by rw [Nat.pow_succ] at h; omega)
    simp; omega
theorem dig_pos (u : Nat) : 0 < (Lib.decDigits u).length := by
 rw [Lib.decDigits]
 split <;> simp
theorem dig_mem : ∀ (u : Nat), ∀ b ∈ Lib.decDigits u, 48 ≤ b.toNat ∧ b.toNat ≤ 57 := by
 intro u
 induction u using Nat.strongRecOn with
 | _ u ih =>
   intro b hb
   rw [Lib.decDigits] at hb
   have one : ∀ d, d < 10 → 48 ≤ (UInt8.ofNat (48 + d)).toNat ∧ (UInt8.ofNat (48 + d)).toNat ≤ 57 := by
    intro d hd
    rw [UInt8.toNat_ofNat']
    omega
   split at hb
   ·rename_i h
    simp only [List.mem_singleton] at hb
    subst hb
    exact one u h
   ·rcases List.mem_append.1 hb with hb | hb
    ·exact ih (u / 10) (by omega) b hb
    ·simp only [List.mem_singleton] at hb
     subst hb
     exact one _ (by omega)
theorem itoa_len {n : Int} (h : I64 n) : (Lib.itoa n).length ≤ 20 := by
 unfold Lib.itoa
 have h1 := h.1
 have h2 := h.2
 split
 ·have := dig_len 18 n.natAbs (by omega)
  simp; omega
 ·have := dig_len 18 n.toNat (by omega)
  omega
theorem itoa_mem (n : Int) : ∀ b ∈ Lib.itoa n, b = 45 ∨ (48 ≤ b.toNat ∧ b.toNat ≤ 57) := by
 intro b hb
 unfold Lib.itoa at hb
 split at hb
 ·rcases List.mem_cons.1 hb with rfl | hb
  ·exact .inl rfl
  ·exact .inr (dig_mem _ b hb)
 ·exact .inr (dig_mem _ b hb)
theorem Itoa_eq {n : Int} (h : I64 n) : strconv_Itoa n = some (Lib.itoa n) := by
 unfold strconv_Itoa
 exact if_pos h
theorem dd {m : Nat} (h : ¬ m < 10) : Lib.decDigits m = Lib.decDigits (m / 10) ++ [UInt8.ofNat (48 + m % 10)] := by rw [Lib.decDigits, dif_neg h]
def hd (k : Nat) : UInt8 := ([48, 49, 50, 51, 52, 53, 54, 55, 56, 57, 97, 98, 99, 100, 101, 102] : List UInt8).getD k 0
def hx (b : UInt8) : List UInt8 := [hd (b.toNat / 16), hd (b.toNat % 16)]
def word (s : List UInt8) : List UInt8 := if s = [] then [45] else s.flatMap hx
theorem hd_idx : ∀ k : Fin 16, idx? ([48, 49, 50, 51, 52, 53, 54, 55, 56, 57, 97, 98, 99, 100, 101, 102] : List UInt8) (k.val : Int) = some (hd k.val) := by decide
theorem hd_at {k : Nat} (h : k < 16) : idx? ([48, 49, 50, 51, 52, 53, 54, 55, 56, 57, 97, 98, 99, 100, 101, 102] : List UInt8) (k : Int) = some (hd k) := hd_idx ⟨k, h⟩
theorem hx_len (s : List UInt8) : (s.flatMap hx).length = 2 * s.length := by
 induction s with
 | nil => rfl
 | cons b s ih => rw [List.flatMap_cons, List.length_append, ih, List.length_cons]; simp [hx]; omega
theorem word_len (s : List UInt8) : (word s).length ≤ 2 * s.length + 1 := by
 unfold word
 split
 ·simp
 ·rw [hx_len]; omega
theorem u8_lt (b : UInt8) : b.toNat < 256 := b.toNat_lt
theorem shr4 (b : UInt8) : shrI .u8 (b.toNat : Int) 4 = ((b.toNat / 16 : Nat) : Int) := by
 show (b.toNat : Int).fdiv (2 ^ min (4 : Int).toNat IntKind.u8.bits) = _
 rw [show (2 : Int) ^ min (4 : Int).toNat IntKind.u8.bits = 16 by decide, Int.fdiv_eq_ediv_of_nonneg _ (by decide)]
 omega
theorem and15 (b : UInt8) : andI .u8 (b.toNat : Int) 15 = ((b.toNat % 16 : Nat) : Int) := by
 have all : ∀ k : Fin 256, andI .u8 (k.val : Int) 15 = ((k.val % 16 : Nat) : Int) := by decide +kernel
 exact all ⟨b.toNat, u8_lt b⟩
theorem ints_hx (b : UInt8) : [((hd (b.toNat / 16)).toNat : Int), ((hd (b.toNat % 16)).toNat : Int)] = intsOf (hx b) := rfl
theorem bytes_ints (s : List UInt8) : bytesOf (intsOf s) = s := by
 simp only [bytesOf, intsOf, List.map_map]
 refine (List.map_congr_left fun b _ => ?_).trans (List.map_id s)
 show UInt8.ofNat ((b.toNat : Int)).toNat = b
 simp
theorem ints_app (a b : List UInt8) : intsOf (a ++ b) = intsOf a ++ intsOf b := by simp [intsOf]
theorem ints_flat (s : List UInt8) : s.flatMap (fun b => intsOf (hx b)) = intsOf (s.flatMap hx) := by
 induction s with
 | nil => rfl
 | cons b s ih => rw [List.flatMap_cons, List.flatMap_cons, ih, ints_app]
theorem put_eq (l out : List Int) (h : out.length + l.length ≤ lenMax) : lw_put l (Wtr.mk out) = some (Wtr.mk (out ++ l)) := by
 unfold lw_put
 rw [if_pos h]
theorem word0_eq (s : List UInt8) (out : List Int) (h : out.length + 2 * s.length ≤ 1000000000) : lw_word_0 s (List.length s : Int) 0 (Wtr.mk out) = some (Wtr.mk (out ++ intsOf (s.flatMap hx))) := by
 unfold lw_word_0
 have := loopO_rows (f := fun s_1 : Int × Wtr => lw_word_0_step s (List.length s : Int) s_1.1 s_1.2) (fun o i => (i, Wtr.mk o)) Wtr.mk s (fun _ b => intsOf (hx b)) 1000000000
  (fun k b o hk hb hl => by
    show lw_word_0_step _ _ _ _ = _
    unfold lw_word_0_step
    have hl' : o.length + 2 ≤ 1000000000 := hl
    have l := u8_lt b
    rw [if_pos (by omega), idx_get hb, zbs, shr4, hd_at (by omega), zbs, zbs, and15, hd_at (by omega), zbs, put_eq _ _ (by rw [lenMax_eq]; simp; omega), zbs, ints_hx]
    rw [wrI rfl (by omega)])
  (fun o => by
    show lw_word_0_step _ _ _ _ = _
    unfold lw_word_0_step
    rw [if_neg (by omega)]) out (by rw [rows_flat, ints_flat]; simp only [intsOf, List.length_map, hx_len]; exact h)
 rw [rows_flat, ints_flat] at this
 exact this
def dg (b : UInt8) : Prop := 48 ≤ b.toNat ∧ b.toNat ≤ 57
instance (b : UInt8) : Decidable (dg b) := by unfold dg; infer_instance
def numF : List UInt8 → Nat → Option Nat
 | [], n => some n
 | b :: r, n => if dg b then numF r (10 * n + (b.toNat - 48)) else none
def numV (s : List UInt8) : Option Nat := if s.length = 0 ∨ 6 < s.length ∨ (1 < s.length ∧ s[0]? = some 48) then none else numF s 0
theorem num_loop {β : Type} {f : Int × Int → Option ((Int × Int) ⊕ (β ⊕ Int))} (s : List UInt8) (bad : Int → β) (hs : s.length ≤ 6)
 (h : ∀ (k : Nat) (b : UInt8) (n : Nat), k < s.length → s[k]? = some b → n < 1000000 → f ((n : Int), (k : Int)) = some (if dg b then .inl (((10 * n + (b.toNat - 48) : Nat) : Int), (k : Int) + 1) else .inr (.inl (bad n))))
 (he : ∀ n, f (n, (s.length : Int)) = some (.inr (.inr n))) : ∃ m, loopO f (0, 0) = some (match numF s 0 with | some n => .inr (n : Int) | none => .inl (bad m)) := by
 have : ∀ (j k n : Nat), k + j = s.length → n < 10 ^ k → ∃ m, loopO f ((n : Int), (k : Int)) = some (match numF (s.drop k) n with | some n => .inr (n : Int) | none => .inl (bad m)) := by
  intro j
  induction j with
  | zero =>
    intro k n hk _
    obtain rfl : k = s.length := by omega
    refine ⟨0, ?_⟩
    rw [loopO_inr (he _), List.drop_length]
    rfl
  | succ j ih =>
    intro k n hk hn
    have hlt : k < s.length := by omega
    have hn6 : n < 1000000 := by
     have : 10 ^ k ≤ 10 ^ 6 := Nat.pow_le_pow_right (by omega) (by omega)
     omega
    have hb := h k s[k] n hlt (zge hlt) hn6
    rw [List.drop_eq_getElem_cons hlt, numF]
    have lb := s[k].toNat_lt
    by_cases hd : dg s[k]
    ·rw [if_pos hd] at hb ⊢
     rw [loopO_inl hb, show ((k : Int) + 1) = ((k + 1 : Nat) : Int) by omega]
     have hd' := hd.2
     have hd'' := hd.1
     exact ih (k + 1) _ (by omega) (by rw [Nat.pow_succ]; omega)
    ·rw [if_neg hd] at hb ⊢
     exact ⟨n, loopO_inr hb⟩
 exact this s.length 0 0 (by omega) (by simp)
theorem number0_eq (s : List UInt8) (hs : s.length ≤ 6) : ∃ m, lines_number_0 s (s.length : Int) 0 0 = some (match numF s 0 with | some n => .inr (n : Int) | none => .inl (0, false, m)) := by
 unfold lines_number_0
 exact num_loop (f := fun s_1 : Int × Int => lines_number_0_step s (s.length : Int) s_1.1 s_1.2) s (fun n => (0, false, n)) hs (fun k b n hk hb hn => by
  show lines_number_0_step _ _ _ _ = _
  unfold lines_number_0_step
  have l := b.toNat_lt
  rw [if_pos (by omega), idx_get hb, zbs]
  simp only [wr_eq (show -9223372036854775808 ≤ ((b.toNat : Nat) : Int) ∧ ((b.toNat : Nat) : Int) ≤ 9223372036854775807 by omega), wr_eq (show -9223372036854775808 ≤ ((b.toNat : Nat) : Int) - 48 ∧ ((b.toNat : Nat) : Int) - 48 ≤ 9223372036854775807 by omega),
   wr_eq (show -9223372036854775808 ≤ 10 * ((n : Nat) : Int) ∧ 10 * ((n : Nat) : Int) ≤ 9223372036854775807 by omega)]
  by_cases hd : dg b
  ·have h1 := hd.1
   have h2 := hd.2
   rw [if_neg (by omega), if_neg (by omega), if_pos hd, wrI (m := ((10 * n + (b.toNat - 48) : Nat) : Int)) (by omega) (by omega), wrI rfl (by omega)]
  ·rw [if_neg hd]
   by_cases h1 : ((b.toNat : Nat) : Int) - 48 < 0
   ·rw [if_pos h1]
   ·rw [if_neg h1, if_pos (by unfold dg at hd; omega)]) (fun n => by
  show lines_number_0_step _ _ _ _ = _
  unfold lines_number_0_step
  rw [if_neg (by omega)])
theorem number_eq (s : List UInt8) : lines_number s = some (match numV s with | some n => ((n : Int), true) | none => (0, false)) := by
 unfold lines_number numV
 rw [show lines_number_0a = lines_number_0 from rfl]
 by_cases h6 : 6 < s.length
 ·rw [if_pos (by omega), if_pos (by omega)]
 ·rw [if_neg (by omega)]
  obtain ⟨m, hm⟩ := number0_eq s (by omega)
  by_cases h1 : 1 < s.length
  ·rw [if_pos (by omega)]
   have h0 : s[0]? = some s[0] := zge (by omega)
   rw [show idx? s 0 = some s[0] from idx_get (k := 0) h0, zbs]
   by_cases hz : s[0] = 48
   ·rw [if_pos (by rw [hz]; rfl), if_pos (by rw [h0, hz]; exact .inr (.inr ⟨h1, rfl⟩))]
   ·have hz' : ¬ ((s[0].toNat : Nat) : Int) = 48 := by
     intro e
     apply hz
     exact UInt8.toNat_inj.1 (by show s[0].toNat = 48; omega)
    have hno : ¬ (s.length = 0 ∨ 6 < s.length ∨ (1 < s.length ∧ s[0]? = some 48)) := by
     rw [h0]
     rintro (h | h | h)
     ·omega
     ·omega
     ·exact hz (Option.some.inj h.2)
    rw [if_neg hz', if_neg hno, hm]
    have hne : s ≠ [] := by rintro rfl; simp at h1
    cases hn : numF s 0 with
    | none => rfl
    | some n => simp [hne]
  ·rw [if_neg (by omega), hm]
   by_cases h0 : s = []
   ·subst h0; rfl
   ·have : s.length ≠ 0 := by simpa using h0
    rw [if_neg (by rintro (h | h | h) <;> omega)]
    cases hn : numF s 0 with
    | none => rfl
    | some n => simp [h0]
def nib (b : UInt8) : Option Nat := if 48 ≤ b.toNat ∧ b.toNat ≤ 57 then some (b.toNat - 48) else if 97 ≤ b.toNat ∧ b.toNat ≤ 102 then some (b.toNat - 87) else none
def bytesG : List UInt8 → Option (List UInt8)
 | a :: b :: r => match nib a, nib b with
   | some x, some y => (bytesG r).map (UInt8.ofNat (16 * x + y) :: ·)
   | _, _ => none
 | _ => some []
def bytesV (s : List UInt8) : Option (List UInt8) := if s = [45] then some [] else if s.length = 0 ∨ s.length % 2 = 1 then none else bytesG s
theorem nib_lt {b : UInt8} {x : Nat} (h : nib b = some x) : x < 16 := by
 unfold nib at h
 split at h
 ·injection h with h; omega
 ·split at h
  ·injection h with h; omega
  ·cases h
theorem pair_loop {β : Type} {f : List Int × Int → Option ((List Int × Int) ⊕ (β ⊕ List Int))} (s : List UInt8) (bad : List Int → β) (hs : s.length ≤ 1000000000)
 (h : ∀ (k : Nat) (a b : UInt8) (out : List Int), k + 1 < s.length → s[k]? = some a → s[k + 1]? = some b → out.length ≤ 1000000000 → f (out, (k : Int)) = some (match nib a, nib b with
   | some x, some y => .inl (out ++ [((16 * x + y : Nat) : Int)], (k : Int) + 2)
   | _, _ => .inr (.inl (bad out))))
 (he : ∀ out, f (out, ((2 * (s.length / 2) : Nat) : Int)) = some (.inr (.inr out))) : ∃ m, loopO f ([], 0) = some (match bytesG s with | some l => .inr (intsOf l) | none => .inl (bad m)) := by
 have : ∀ (j k : Nat) (out : List Int), k + 2 * j = 2 * (s.length / 2) → out.length ≤ k → ∃ m, loopO f (out, (k : Int)) = some (match bytesG (s.drop k) with | some l => .inr (out ++ intsOf l) | none => .inl (bad m)) := by
  intro j
  induction j with
  | zero =>
    intro k out hk _
    obtain rfl : k = 2 * (s.length / 2) := by omega
    refine ⟨[], ?_⟩
    rw [loopO_inr (he _)]
    have hl : (s.drop (2 * (s.length / 2))).length < 2 := by rw [List.length_drop]; omega
    match hd : s.drop (2 * (s.length / 2)), hl with
    | [], _ => simp [bytesG, intsOf]
    | [x], _ => simp [bytesG, intsOf]
  | succ j ih =>
    intro k out hk ho
    have h1 : k + 1 < s.length := by omega
    have h0 : k < s.length := by omega
    have hb := h k s[k] s[k + 1] out h1 (zge h0) (zge h1) (by omega)
    rw [List.drop_eq_getElem_cons h0, List.drop_eq_getElem_cons h1, bytesG]
    cases ha : nib s[k] with
    | none =>
      rw [ha] at hb
      exact ⟨out, loopO_inr hb⟩
    | some x =>
      cases hc : nib s[k + 1] with
      | none =>
        rw [ha, hc] at hb
        exact ⟨out, loopO_inr hb⟩
      | some y =>
        rw [ha, hc] at hb
        rw [loopO_inl hb, show ((k : Int) + 2) = ((k + 2 : Nat) : Int) by omega]
        obtain ⟨m, hm⟩ := ih (k + 2) (out ++ [((16 * x + y : Nat) : Int)]) (by omega) (by simp; omega)
        refine ⟨m, ?_⟩
        rw [hm]
        have hx := nib_lt ha
        have hy := nib_lt hc
        cases bytesG (s.drop (k + 1 + 1)) with
        | none => rfl
        | some l =>
          simp only [Option.map_some, intsOf, List.map_cons, List.append_assoc, List.cons_append, List.nil_append]
          rw [UInt8.toNat_ofNat', Nat.mod_eq_of_lt (by omega)]
 have := this (s.length / 2) 0 [] (by omega) (by simp)
 simpa using this
def digs : List UInt8 := [48, 49, 50, 51, 52, 53, 54, 55, 56, 57, 97, 98, 99, 100, 101, 102]
theorem index_eq (b : UInt8) : strings_IndexByte digs ((b.toNat : Nat) : Int) = some (match nib b with | some x => (x : Int) | none => -1) := by
 have all : ∀ k : Fin 256, Lib.indexByte digs (UInt8.ofNat k.val) = (match nib (UInt8.ofNat k.val) with | some x => (x : Int) | none => -1) := by decide +kernel
 have := all ⟨b.toNat, b.toNat_lt⟩
 simp only [UInt8.ofNat_toNat] at this
 unfold strings_IndexByte
 have e : ((b.toNat : Nat) : Int).toNat.toUInt8 = b := by rw [Int.toNat_natCast]; exact UInt8.ofNat_toNat
 rw [e, this]
theorem or_eq {x y : Nat} (hx : x < 16) (hy : y < 16) : w8 (orI .i64 (shlI .i64 (x : Int) 4) (y : Int)) = ((16 * x + y : Nat) : Int) := by
 have all : ∀ a b : Fin 16, orI .i64 (shlI .i64 (a.val : Int) 4) (b.val : Int) = ((16 * a.val + b.val : Nat) : Int) := by decide +kernel
 rw [all ⟨x, hx⟩ ⟨y, hy⟩, w8_eq (by simp only; omega)]
theorem word_eq (s : List UInt8) (hs : s.length ≤ 1000000000) : ∃ j, lines_word s = some (match bytesV s with | some x => (x, true) | none => (j, false)) := by
 unfold lines_word bytesV
 by_cases h45 : s = [45]
 ·rw [if_pos h45, if_pos h45]; exact ⟨[], rfl⟩
 ·rw [if_neg h45, if_neg h45]
  have e : Int.tdiv (s.length : Int) 2 = ((s.length / 2 : Nat) : Int) := by rw [Int.tdiv_eq_ediv_of_nonneg (by omega)]; omega
  have e2 : Int.tmod (s.length : Int) 2 = ((s.length % 2 : Nat) : Int) := by rw [Int.tmod_eq_emod_of_nonneg (by omega)]; omega
  rw [e, e2, wrI rfl (by omega), if_pos ⟨by omega, by rw [lenMax_eq]; omega⟩]
  obtain ⟨m, hm⟩ := pair_loop (f := fun s_1 : List Int × Int => lines_word_0_step s s_1.1 s_1.2) s (fun out => (([] : List UInt8), false, out)) (by omega) (fun k a b out hk ha hb ho => by
   show lines_word_0_step _ _ _ = _
   unfold lines_word_0_step
   rw [show ([48, 49, 50, 51, 52, 53, 54, 55, 56, 57, 97, 98, 99, 100, 101, 102] : List UInt8) = digs from rfl]
   have e1 : wr ((k : Int) + 1) = ((k + 1 : Nat) : Int) := wrI (by omega) (by omega)
   rw [e1, if_pos (by omega), idx_get ha, zbs, index_eq, zbs, idx_get hb, zbs, index_eq, zbs]
   cases hx : nib a with
   | none => rw [if_pos (by simp only; omega)]
   | some x =>
     rw [if_neg (by simp only; omega)]
     cases hy : nib b with
     | none => rw [if_pos (by simp only; omega)]
     | some y =>
       simp only
       rw [if_neg (by omega), or_eq (nib_lt hx) (nib_lt hy), if_pos (by rw [lenMax_eq]; simp; omega), wrI rfl (by omega)]) (fun out => by
   show lines_word_0_step _ _ _ = _
   unfold lines_word_0_step
   rw [if_neg (by rw [wrI rfl (by omega)]; omega)])
  unfold lines_word_0
  rw [hm, zbs]
  cases hg : bytesG s with
  | none =>
    refine ⟨[], ?_⟩
    have en : (if s.length = 0 ∨ s.length % 2 = 1 then (none : Option (List UInt8)) else none) = none := by split <;> rfl
    rw [en]
    rfl
  | some l =>
    simp only [Sum.elim_inr, bytes_ints]
    by_cases h0 : s.length = 0
    ·rw [if_neg (by omega), if_pos (.inl h0)]; exact ⟨l, rfl⟩
    ·rw [if_pos (by omega)]
     by_cases h1 : s.length % 2 = 1
     ·rw [if_pos (.inr h1)]; exact ⟨l, by rw [decide_eq_false (by omega)]⟩
     ·rw [if_neg (by omega)]; exact ⟨l, by rw [decide_eq_true (by omega)]⟩
theorem nib_hd : ∀ k : Fin 16, nib (hd k.val) = some k.val := by decide
theorem bytesG_hx : ∀ (s : List UInt8), bytesG (s.flatMap hx) = some s
 | [] => rfl
 | b :: s => by
   have l := u8_lt b
   rw [List.flatMap_cons]
   simp only [hx, List.cons_append, List.nil_append, bytesG]
   rw [nib_hd ⟨b.toNat / 16, by omega⟩, nib_hd ⟨b.toNat % 16, by omega⟩]
   simp only
   rw [bytesG_hx s, Option.map_some]
   rw [show 16 * (b.toNat / 16) + b.toNat % 16 = b.toNat by omega, UInt8.ofNat_toNat]
theorem bytesV_word (s : List UInt8) : bytesV (word s) = some s := by
 unfold word
 by_cases h : s = []
 ·subst h; rfl
 ·rw [if_neg h]
  have hl := hx_len s
  have h0 : s.length ≠ 0 := by simpa using h
  unfold bytesV
  rw [if_neg (by intro e; rw [e] at hl; simp at hl; omega), if_neg (by omega), bytesG_hx]
end Go.Proofs.YtfjlpfjpidikjaaGreatDoor
namespace Go.Proofs.YtfjlpfjpidikjaaGreatDoor.cf
open Go.Proofs.PF
def I (n : Int) : Prop := -9223372036854775808 ≤ n ∧ n ≤ 9223372036854775807
structure CIn (c : GConf) : Prop where
 n : I c.N
 f : I c.F
 d : I c.D
 period : I c.Period
 rate : I c.Rate
 drift : I c.Drift
 table : (c.Table.length : Int) ≤ 9223372036854775807
 own : ∀ x ∈ c.Table, I x
def Nodes (c : GConf) : Prop := 4 ≤ c.N ∧ c.N ≤ 13 ∧ 0 ≤ c.F ∧ c.F ≤ 4 ∧ 3 * c.F < c.N
instance (c : GConf) : Decidable (Nodes c) := by unfold Nodes; infer_instance
def Links (c : GConf) : Prop := 1 ≤ c.D ∧ c.D ≤ 4
instance (c : GConf) : Decidable (Links c) := by unfold Links; infer_instance
def Nums (c : GConf) : Prop := 6 * (c.F + 1) * c.D + 1 ≤ c.Period ∧ c.Period ≤ 400 ∧ 1 ≤ c.Rate ∧ c.Rate ≤ 64 ∧ 0 ≤ c.Drift ∧ c.Drift ≤ c.Rate - 1 ∧ 0 ≤ c.Offset ∧ c.Offset ≤ 30000 ∧ 1 ≤ c.Slot ∧ c.Slot ≤ 30000 ∧ 2 ≤ c.Mod ∧ c.Mod ≤ 250 ∧ 1 ≤ c.Fresh ∧ c.Fresh ≤ 100
instance (c : GConf) : Decidable (Nums c) := by unfold Nums; infer_instance
def Owned (c : GConf) : Prop := 1 ≤ c.Table.length ∧ c.Table.length ≤ 32 ∧ (∀ x ∈ c.Table, 0 ≤ x ∧ x < c.N) ∧ ∀ k : Nat, (k : Int) < c.N → (k : Int) ∈ c.Table
open Classical in
noncomputable def plainV (c : GConf) : Int := if ¬ Nodes c then 7 else if ¬ Links c then 10 else if ¬ Nums c then 8 else if ¬ Owned c then 11 else 0
theorem has_eq (s : Csp) (n : Int) : conf_span_has s n = some (decide (s.f_low ≤ n ∧ n ≤ s.f_high)) := by
 unfold conf_span_has
 split <;> simp [*]
theorem within_eq (n a b : Int) : r03_within n a b = some (decide (a ≤ n ∧ n ≤ b)) := by
 unfold r03_within
 split <;> simp [*]
theorem some_dec {b : Bool} {p : Prop} [Decidable p] (h : b = true ↔ p) : some b = some (decide p) := by
 by_cases hp : p
 ·rw [h.2 hp, decide_eq_true hp]
 ·rw [decide_eq_false hp]
  cases b
  ·rfl
  ·exact absurd (h.1 rfl) hp
theorem nodes_eq (c : GConf) : conf_nodes c = some (decide (Nodes c)) := by
 unfold conf_nodes
 simp only [has_eq, zbs, decide_eq_true_eq]
 split
 ·rename_i h1
  split
  ·rename_i h2
   rw [wr_eq (show -9223372036854775808 ≤ 3 * c.F ∧ 3 * c.F ≤ 9223372036854775807 by omega)]
   refine some_dec ?_
   simp only [decide_eq_true_eq]
   unfold Nodes; omega
  ·rename_i h2
   refine some_dec ?_
   unfold Nodes; simp; omega
 ·rename_i h1
  refine some_dec ?_
  unfold Nodes; simp; omega
theorem wrI {n : Int} (h : -9223372036854775808 ≤ n) (h' : n ≤ 9223372036854775807) : wr n = n := wr_eq ⟨h, h'⟩
theorem low_eq (c : GConf) (hn : Nodes c) (hl : Links c) : wr (wr (wr (6 * wr (c.F + 1)) * c.D) + 1) = 6 * (c.F + 1) * c.D + 1 := by
 obtain ⟨_, _, f0, f4, _⟩ := hn
 obtain ⟨d0, d4⟩ := hl
 rw [wrI (n := c.F + 1) (by omega) (by omega), wrI (n := 6 * (c.F + 1)) (by omega) (by omega)]
 have h1 : 6 * (c.F + 1) * c.D ≤ 30 * 4 := Int.mul_le_mul (by omega) d4 (by omega) (by omega)
 have h2 : 0 ≤ 6 * (c.F + 1) * c.D := Int.mul_nonneg (by omega) (by omega)
 rw [wrI (n := 6 * (c.F + 1) * c.D) (by omega) (by omega), wrI (by omega) (by omega)]
theorem nu_eq (c : GConf) (hc : CIn c) (hn : Nodes c) (hl : Links c) : conf_numbers c = some (decide (Nums c)) := by
 unfold conf_numbers
 simp only [low_eq c hn hl]
 have hr : 1 ≤ c.Rate ∧ c.Rate ≤ 64 ∨ ¬ (1 ≤ c.Rate ∧ c.Rate ≤ 64) := by omega
 have hw : wr (c.Rate - 1) = c.Rate - 1 ∨ ¬ (1 ≤ c.Rate ∧ c.Rate ≤ 64) := by
  rcases hr with h | h
  ·exact .inl (wrI (by omega) (by omega))
  ·exact .inr h
 generalize wr (c.Rate - 1) = w at hw
 have hiff : (∀ z ∈ [Nsp.mk c.Period ⟨6 * (c.F + 1) * c.D + 1, 400⟩, ⟨c.Rate, ⟨1, 64⟩⟩, ⟨c.Drift, ⟨0, w⟩⟩, ⟨c.Offset, ⟨0, 30000⟩⟩, ⟨c.Slot, ⟨1, 30000⟩⟩, ⟨c.Mod, ⟨2, 250⟩⟩, ⟨c.Fresh, ⟨1, 100⟩⟩], z.f_span.f_low ≤ z.f_n ∧ z.f_n ≤ z.f_span.f_high) ↔ Nums c := by
  simp only [List.mem_cons, List.not_mem_nil, or_false, forall_eq_or_imp, forall_eq, Nums]
  omega
 have hlen : [Nsp.mk c.Period ⟨6 * (c.F + 1) * c.D + 1, 400⟩, ⟨c.Rate, ⟨1, 64⟩⟩, ⟨c.Drift, ⟨0, w⟩⟩, ⟨c.Offset, ⟨0, 30000⟩⟩, ⟨c.Slot, ⟨1, 30000⟩⟩, ⟨c.Mod, ⟨2, 250⟩⟩, ⟨c.Fresh, ⟨1, 100⟩⟩].length = 7 := rfl
 generalize [Nsp.mk c.Period ⟨6 * (c.F + 1) * c.D + 1, 400⟩, ⟨c.Rate, ⟨1, 64⟩⟩, ⟨c.Drift, ⟨0, w⟩⟩, ⟨c.Offset, ⟨0, 30000⟩⟩, ⟨c.Slot, ⟨1, 30000⟩⟩, ⟨c.Mod, ⟨2, 250⟩⟩, ⟨c.Fresh, ⟨1, 100⟩⟩] = l at hiff hlen
 unfold conf_nu_0
 rw [loopO_alls (f := fun s : Int => conf_nu_0_step l l.length s) l (fun z => z.f_span.f_low ≤ z.f_n ∧ z.f_n ≤ z.f_span.f_high)
  (fun k z hk hz => by
    unfold conf_nu_0_step
    rw [if_pos (by omega), idx_get hz, zbs, has_eq, zbs, wrI (by omega) (by omega)]
    by_cases h : z.f_span.f_low ≤ z.f_n ∧ z.f_n ≤ z.f_span.f_high
    ·rw [decide_eq_true h, if_neg (by decide), if_pos h]
    ·rw [decide_eq_false h, if_pos (by decide), if_neg h])
  (by unfold conf_nu_0_step; rw [if_neg (by omega)]), zbs]
 by_cases h : Nums c
 ·rw [if_pos (hiff.2 h)]; simp [h]
 ·rw [if_neg (fun hh => h (hiff.1 hh))]; simp [h]
def at13 (x : Ar13 Int) (k : Nat) : Int := (x.get? k).getD 0
theorem lt13 {k : Nat} (h : k < 13) : k = 0 ∨ k = 1 ∨ k = 2 ∨ k = 3 ∨ k = 4 ∨ k = 5 ∨ k = 6 ∨ k = 7 ∨ k = 8 ∨ k = 9 ∨ k = 10 ∨ k = 11 ∨ k = 12 := by omega
theorem get13 (x : Ar13 Int) (k : Nat) (h : k < 13) : x.get? k = some (at13 x k) := by
 rcases lt13 h with e | e | e | e | e | e | e | e | e | e | e | e | e <;> subst e <;> rfl
theorem set13 (x : Ar13 Int) (k : Nat) (v : Int) (h : k < 13) : ∃ y, x.set? k v = some y ∧ ∀ j, j < 13 → at13 y j = if j = k then v else at13 x j := by
 rcases lt13 h with e | e | e | e | e | e | e | e | e | e | e | e | e <;> subst e <;>
  exact ⟨_, rfl, fun j hj => by rcases lt13 hj with e | e | e | e | e | e | e | e | e | e | e | e | e <;> subst e <;> rfl⟩
theorem eta13 (x : Ar13 Int) : Ar13.mk x.a0 x.a1 x.a2 x.a3 x.a4 x.a5 x.a6 x.a7 x.a8 x.a9 x.a10 x.a11 x.a12 = x := rfl
theorem table0 (c : GConf) (sl : Csp) (hn : c.N ≤ 13) (ht : c.Table.length ≤ 32) : ∀ (m k : Nat) (o : Ar13 Int), k + m = c.Table.length →
 (∀ j, j < 13 → at13 o j = ((c.Table.take k).countP (fun x => x == (j : Int)) : Nat)) →
 ∃ r, loopO (fun s : Int × (Ar13 Int) => conf_table_0_step c c.Table c.Table.length sl s.1 s.2) ((k : Int), o) = some r ∧
   ((∃ x ∈ c.Table.drop k, ¬ (0 ≤ x ∧ x < c.N)) → ∃ o', r = .inl (false, o')) ∧
   ((∀ x ∈ c.Table.drop k, 0 ≤ x ∧ x < c.N) → ∃ o', r = .inr o' ∧ ∀ j, j < 13 → at13 o' j = (c.Table.countP (fun x => x == (j : Int)) : Nat))
 | 0, k, o, hk, ho => by
   have hk : k = c.Table.length := by omega
   subst hk
   refine ⟨.inr o, loopO_inr ?_, fun h => ?_, fun _ => ⟨o, rfl, fun j hj => ?_⟩⟩
   ·simp only [conf_table_0_step]; rw [if_neg (by omega)]
   ·simp at h
   ·rw [ho j hj, List.take_length]
 | m + 1, k, o, hk, ho => by
   have hlt : k < c.Table.length := by omega
   have hg := zge hlt
   have hd := List.drop_eq_getElem_cons hlt
   generalize hx : c.Table[k] = x at hg hd
   have hstep : conf_table_0_step c c.Table c.Table.length sl (k : Int) o = if x < 0 then some (.inr (.inl (false, o))) else if c.N ≤ x then some (.inr (.inl (false, o))) else
    if 0 ≤ x ∧ x < (13 : Nat) then (Ar13.get? o (Int.toNat x)).bind fun z2 => if 0 ≤ x ∧ x < (13 : Nat) then (Ar13.set? o (Int.toNat x) (wr (z2 + 1))).bind fun y0 => some (.inl ((wr ((k : Int) + 1)), y0)) else none else none := by
    unfold conf_table_0_step
    rw [if_pos (by omega), idx_get hg, zbs, eta13]
   by_cases hok : 0 ≤ x ∧ x < c.N
   ·rw [if_neg (by omega), if_neg (by omega), if_pos (by omega), get13 _ _ (by omega), zbs, if_pos (by omega), wrI (n := (k : Int) + 1) (by omega) (by omega)] at hstep
    have hw : wr (at13 o x.toNat + 1) = at13 o x.toNat + 1 := by
     rw [ho _ (by omega)]
     have := List.countP_le_length (p := fun y => y == ((x.toNat : Nat) : Int)) (l := c.Table.take k)
     simp only [List.length_take] at this
     exact wrI (by omega) (by omega)
    rw [hw] at hstep
    obtain ⟨y, hy, hyj⟩ := set13 o x.toNat (at13 o x.toNat + 1) (by omega)
    rw [hy, zbs] at hstep
    have ih := table0 c sl hn ht m (k + 1) y (by omega) (fun j hj => by
     rw [hyj j hj, List.take_add_one, hg, List.countP_append, ho j hj]
     have hx' : ((x.toNat : Nat) : Int) = x := Int.toNat_of_nonneg hok.1
     by_cases e : j = x.toNat
     ·subst e
      rw [if_pos rfl, ho _ hj]
      simp [hx']
     ·rw [if_neg e]
      have : ¬ x = (j : Int) := by omega
      simp [this])
    rw [loopO_inl (t := (((k + 1 : Nat) : Int), y)) (by simpa using hstep)]
    obtain ⟨r, h1, h2, h3⟩ := ih
    refine ⟨r, h1, fun ⟨z, hz, hzz⟩ => h2 ⟨z, ?_, hzz⟩, fun h => h3 fun z hz => h z ?_⟩
    ·rw [hd] at hz
     rcases List.mem_cons.1 hz with e | e
     ·subst e; exact absurd hok hzz
     ·exact e
    ·rw [hd]; exact List.mem_cons_of_mem _ hz
   ·refine ⟨.inl (false, o), loopO_inr ?_, fun _ => ⟨o, rfl⟩, fun h => absurd (h x (by rw [hd]; simp)) hok⟩
    show conf_table_0_step c c.Table c.Table.length sl (k : Int) o = _
    rw [hstep]
    by_cases h0 : x < 0
    ·rw [if_pos h0]
    ·rw [if_neg h0, if_pos (by omega)]
theorem table_eq (c : GConf) (hn : Nodes c) : conf_table c = some (@decide (Owned c) (Classical.propDecidable _)) := by
 classical
 have hb : (Classical.propDecidable (Owned c)) = (Classical.propDecidable (Owned c)) := rfl
 unfold conf_table
 rw [has_eq, zbs]
 by_cases hl : (1 : Int) ≤ c.Table.length ∧ (c.Table.length : Int) ≤ 32
 ·rw [decide_eq_true (show _ from hl), if_neg (by decide)]
  have h13 : c.N ≤ 13 := hn.2.1
  have h4 : 4 ≤ c.N := hn.1
  obtain ⟨r, h1, h2, h3⟩ := table0 c ⟨1, 32⟩ h13 (by omega) c.Table.length 0 (Ar13.mk 0 0 0 0 0 0 0 0 0 0 0 0 0) (by omega) (fun j hj => by
   rcases lt13 hj with e | e | e | e | e | e | e | e | e | e | e | e | e <;> subst e <;> rfl)
  have e0 : conf_table_0 c c.Table (c.Table.length : Int) ⟨1, 32⟩ 0 (Ar13.mk 0 0 0 0 0 0 0 0 0 0 0 0 0) = some r := h1
  rw [e0, zbs]
  by_cases ha : ∀ x ∈ c.Table, 0 ≤ x ∧ x < c.N
  ·obtain ⟨o, ho, hj⟩ := h3 (by simpa using ha)
   subst ho
   simp only [Sum.elim_inr]
   rw [if_pos (by omega)]
   have e1 := loopO_all (f := fun s => conf_table_1_step (c.N.toNat - 0) ((c.N.toNat - 0 : Nat) : Int) o ⟨1, 32⟩ s) c.N.toNat (fun k => (k : Int) ∈ c.Table) (fun k hk => ?_) ?_
   rotate_left
   ·simp only [conf_table_1_step]
    rw [if_pos (by omega), if_pos (by omega), eta13, Int.toNat_natCast, get13 _ _ (by omega), zbs, wrI (by omega) (by omega), hj k (by omega)]
    have : (((c.Table.countP (fun x => x == (k : Int)) : Nat) : Int) = 0) ↔ ¬ (k : Int) ∈ c.Table := by
     rw [← List.count_eq_countP, Int.natCast_eq_zero, List.count_eq_zero]
    by_cases hm : (k : Int) ∈ c.Table
    ·rw [if_neg (fun h => this.1 h hm), if_pos hm]
    ·rw [if_pos (this.2 hm), if_neg hm]
   ·simp only [conf_table_1_step]
    rw [if_neg (by omega)]
   unfold conf_table_1
   rw [e1, zbs]
   by_cases hk : ∀ k, k < c.N.toNat → (k : Int) ∈ c.Table
   ·rw [if_pos hk]
    refine some_dec ⟨fun _ => ⟨by omega, by omega, ha, fun k h => hk k (by omega)⟩, fun _ => rfl⟩
   ·rw [if_neg hk]
    refine some_dec ⟨fun h => Bool.noConfusion h, fun h => absurd (fun k hk' => h.2.2.2 k (by omega)) hk⟩
  ·obtain ⟨o, ho⟩ := h2 (by
    simp only [List.drop_zero]
    exact Classical.not_forall.1 ha |>.elim fun x hx => ⟨x, (Classical.not_imp.1 hx).1, (Classical.not_imp.1 hx).2⟩)
   subst ho
   exact some_dec ⟨fun h => Bool.noConfusion h, fun h => absurd h.2.2.1 ha⟩
 ·rw [decide_eq_false (show ¬ _ from hl), if_pos (by decide)]
  exact some_dec ⟨fun h => Bool.noConfusion h, fun h => absurd ⟨by have := h.1; omega, by have := h.2.1; omega⟩ hl⟩
theorem conf_plain (c : GConf) (hc : CIn c) : conf_Plain c = some (plainV c) := by
 classical
 unfold conf_Plain plainV
 rw [nodes_eq, zbs]
 by_cases hn : Nodes c
 ·rw [decide_eq_true hn, if_neg (by decide), if_neg (fun h => h hn), has_eq, zbs]
  by_cases hl : Links c
  ·rw [show decide (1 ≤ c.D ∧ c.D ≤ 4) = true from decide_eq_true hl, if_neg (by decide), if_neg (fun h => h hl), nu_eq c hc hn hl, zbs]
   by_cases hu : Nums c
   ·rw [decide_eq_true hu, if_neg (by decide), if_neg (fun h => h hu), table_eq c hn, zbs]
    by_cases ho : Owned c
    ·rw [@decide_eq_true _ (Classical.propDecidable _) ho, if_neg (by decide), if_neg (fun h => h ho)]
    ·rw [@decide_eq_false _ (Classical.propDecidable _) ho, if_pos (by decide), if_pos ho]
   ·rw [decide_eq_false hu, if_pos (by decide), if_pos hu]
  ·rw [show decide (1 ≤ c.D ∧ c.D ≤ 4) = false from decide_eq_false hl, if_pos (by decide), if_pos hl]
 ·rw [decide_eq_false hn, if_pos (by decide), if_pos hn]
theorem owned1 (n : Int) (c : GConf) (hl : c.Table.length ≤ 32) : r03_owned_1 c n false 0 = some (decide (n ∈ c.Table)) := by
 have h := loopO_for (f := fun s : Bool × Int => r03_owned_1_step c n s.1 s.2) (inv := fun k => (decide (n ∈ c.Table.take k), (k : Int))) c.Table.length (r := decide (n ∈ c.Table)) (fun k hk => ?_) ?_
 ·exact h
 ·have hg := zge hk
  simp only [r03_owned_1_step]
  have ht : n ∈ c.Table.take (k + 1) ↔ n ∈ c.Table.take k ∨ c.Table[k] = n := by
   rw [List.take_add_one, hg, List.mem_append]
   simp only [Option.toList_some, List.mem_singleton, eq_comm]
  rw [if_pos (by omega), wrI (by omega) (by omega), idx_get hg, zbs]
  by_cases hm : n ∈ c.Table.take k
  ·simp only [hm, ht, decide_true, if_true, true_or, Int.natCast_add, Int.cast_ofNat_Int]
  ·simp only [hm, ht, decide_false, false_or, Int.natCast_add, Int.cast_ofNat_Int]; rw [if_neg (by decide)]
 ·simp only [r03_owned_1_step]
  rw [if_neg (by omega), List.take_length]
theorem owned_eq (c : GConf) (hn : Nodes c) (hl : (1 : Int) ≤ c.Table.length ∧ (c.Table.length : Int) ≤ 32) : r03_owned c = some (@decide (Owned c) (Classical.propDecidable _)) := by
 classical
 have h13 : c.N ≤ 13 := hn.2.1
 have h4 : 4 ≤ c.N := hn.1
 have e0 := loopO_alls (f := fun s => r03_owned_0_step c s) c.Table (fun x => 0 ≤ x ∧ x < c.N) (fun k x hk hx => ?_) ?_
 rotate_left
 ·simp only [r03_owned_0_step]
  rw [if_pos (by omega), idx_get hx, zbs, within_eq, zbs, wrI (n := c.N - 1) (by omega) (by omega), wrI (by omega) (by omega)]
  by_cases h : 0 ≤ x ∧ x < c.N
  ·rw [decide_eq_true (by omega), if_neg (by decide), if_pos h]
  ·rw [decide_eq_false (by omega), if_pos (by decide), if_neg h]
 ·simp only [r03_owned_0_step]
  rw [if_neg (by omega)]
 have e1 := loopO_all (f := fun s => r03_owned_2_step c s) c.N.toNat (fun k => (k : Int) ∈ c.Table) (fun k hk => ?_) ?_
 rotate_left
 ·simp only [r03_owned_2_step]
  rw [if_pos (by omega), owned1 _ _ (by omega), zbs, wrI (by omega) (by omega)]
  by_cases h : (k : Int) ∈ c.Table
  ·rw [decide_eq_true h, if_neg (by decide), if_pos h]
  ·rw [decide_eq_false h, if_pos (by decide), if_neg h]
 ·simp only [r03_owned_2_step]
  rw [if_neg (by omega)]
 unfold r03_owned r03_owned_0 r03_owned_2
 rw [e0, zbs]
 by_cases ha : ∀ x ∈ c.Table, 0 ≤ x ∧ x < c.N
 ·rw [if_pos ha]
  simp only [Sum.elim_inr]
  rw [e1, zbs]
  by_cases hk : ∀ k, k < c.N.toNat → (k : Int) ∈ c.Table
  ·rw [if_pos hk]
   exact some_dec ⟨fun _ => ⟨by omega, by omega, ha, fun k h => hk k (by omega)⟩, fun _ => rfl⟩
  ·rw [if_neg hk]
   exact some_dec ⟨fun h => Bool.noConfusion h, fun h => absurd (fun k hk' => h.2.2.2 k (by omega)) hk⟩
 ·rw [if_neg ha]
  exact some_dec ⟨fun h => Bool.noConfusion h, fun h => absurd h.2.2.1 ha⟩
theorem r03_plain (c : GConf) (hc : CIn c) : r03_Plain c = some (plainV c) := by
 classical
 unfold r03_Plain plainV
 simp only [within_eq, zbs]
 have ite_not {p : Prop} [Decidable p] {α : Type} (x y : α) : (if (!decide p) = true then x else y) = if p then y else x := by
  by_cases h : p <;> simp [h]
 simp only [ite_not]
 by_cases hn : Nodes c
 ·have hw : wr (3 * c.F) = 3 * c.F := wrI (by have := hn.2.2.1; omega) (by have := hn.2.2.2.1; omega)
  rw [if_pos (show 4 ≤ c.N ∧ c.N ≤ 13 from ⟨hn.1, hn.2.1⟩), if_pos (show 0 ≤ c.F ∧ c.F ≤ 4 from ⟨hn.2.2.1, hn.2.2.2.1⟩), hw, if_neg (by have := hn.2.2.2.2; omega), if_neg (show ¬ ¬ Nodes c from fun h => h hn)]
  by_cases hl : Links c
  ·rw [if_pos (show 1 ≤ c.D ∧ c.D ≤ 4 from hl), if_neg (show ¬ ¬ Links c from fun h => h hl), low_eq c hn hl]
   by_cases hu : Nums c
   ·have hu' := hu
    obtain ⟨a1, a2, b1, b2, c1, c2, d1, d2, e1, e2, f1, f2, g1, g2⟩ := hu'
    rw [if_pos ⟨a1, a2⟩, if_pos ⟨b1, b2⟩, wrI (n := c.Rate - 1) (by omega) (by omega), if_pos ⟨c1, c2⟩, if_pos ⟨d1, d2⟩, if_pos ⟨e1, e2⟩, if_pos ⟨f1, f2⟩, if_pos ⟨g1, g2⟩, if_neg (show ¬ ¬ Nums c from fun h => h hu)]
    by_cases ht : (1 : Int) ≤ c.Table.length ∧ (c.Table.length : Int) ≤ 32
    ·rw [if_pos ht, owned_eq c hn ht, zbs]
     by_cases ho : Owned c
     ·rw [@decide_eq_true _ (Classical.propDecidable _) ho, if_neg (by decide), if_neg (show ¬ ¬ Owned c from fun h => h ho)]
     ·rw [@decide_eq_false _ (Classical.propDecidable _) ho, if_pos (by decide), if_pos (show ¬ Owned c from ho)]
    ·rw [if_neg ht, if_pos]
     intro h; exact ht ⟨by have := h.1; omega, by have := h.2.1; omega⟩
   ·rw [if_pos (show ¬ Nums c from hu)]
    by_cases h1 : 6 * (c.F + 1) * c.D + 1 ≤ c.Period ∧ c.Period ≤ 400
    ·rw [if_pos h1]
     by_cases h2 : 1 ≤ c.Rate ∧ c.Rate ≤ 64
     ·rw [if_pos h2, wrI (n := c.Rate - 1) (by omega) (by omega)]
      by_cases h3 : 0 ≤ c.Drift ∧ c.Drift ≤ c.Rate - 1
      ·rw [if_pos h3]
       by_cases h4 : 0 ≤ c.Offset ∧ c.Offset ≤ 30000
       ·rw [if_pos h4]
        by_cases h5 : 1 ≤ c.Slot ∧ c.Slot ≤ 30000
        ·rw [if_pos h5]
         by_cases h6 : 2 ≤ c.Mod ∧ c.Mod ≤ 250
         ·rw [if_pos h6]
          by_cases h7 : 1 ≤ c.Fresh ∧ c.Fresh ≤ 100
          ·exact absurd ⟨h1.1, h1.2, h2.1, h2.2, h3.1, h3.2, h4.1, h4.2, h5.1, h5.2, h6.1, h6.2, h7.1, h7.2⟩ hu
          ·rw [if_neg h7]
         ·rw [if_neg h6]
        ·rw [if_neg h5]
       ·rw [if_neg h4]
      ·rw [if_neg h3]
     ·rw [if_neg h2]
    ·rw [if_neg h1]
  ·rw [if_neg (show ¬ (1 ≤ c.D ∧ c.D ≤ 4) from hl), if_pos (show ¬ Links c from hl)]
 ·rw [if_pos (show ¬ Nodes c from hn)]
  by_cases h1 : 4 ≤ c.N ∧ c.N ≤ 13
  ·rw [if_pos h1]
   by_cases h2 : 0 ≤ c.F ∧ c.F ≤ 4
   ·rw [if_pos h2, wrI (n := 3 * c.F) (by omega) (by omega), if_pos]
    have : ¬ 3 * c.F < c.N := fun h => hn ⟨h1.1, h1.2, h2.1, h2.2, h⟩
    omega
   ·rw [if_neg h2]
  ·rw [if_neg h1]
def Pl (c : GConf) : Prop := Nodes c ∧ Links c ∧ Nums c ∧ Owned c
theorem plain_zero (c : GConf) : plainV c = 0 ↔ Pl c := by
 classical
 unfold plainV Pl
 by_cases h1 : Nodes c <;> by_cases h2 : Links c <;> by_cases h3 : Nums c <;> by_cases h4 : Owned c <;> simp [h1, h2, h3, h4]
end Go.Proofs.YtfjlpfjpidikjaaGreatDoor.cf
namespace Go.Proofs.YtfjlpfjpidikjaaGreatDoor
open Go.Proofs.PF
theorem mulB {a b A B : Int} (h1 : 0 ≤ a) (h2 : a ≤ A) (h3 : 0 ≤ b) (h4 : b ≤ B) : 0 ≤ a * b ∧ a * b ≤ A * B :=
 ⟨Int.mul_nonneg h1 h3, Int.le_trans (Int.mul_le_mul_of_nonneg_right h2 h3) (Int.mul_le_mul_of_nonneg_left h4 (Int.le_trans h1 h2))⟩
def midV (c : GConf) : Int := c.Offset + ((c.Table.length : Int) - 1) * c.Slot + c.Slot / 2
def apV (c : GConf) : Int := 2 * c.Drift * midV c
def gdV (c : GConf) : Int := (apV c + (c.Rate - c.Drift) - 1) / (c.Rate - c.Drift) + c.Rate + (c.D + 1) * c.Drift
open Classical in
noncomputable def rightV (c : GConf) : Int := if cf.plainV c ≠ 0 then cf.plainV c else
 if c.Slot ≤ 2 * gdV c ∨ (c.Period - 1) * (c.Rate - c.Drift) < midV c + c.D * c.Rate + gdV c ∨ 32768 ≤ c.Period * (c.Rate + c.Drift) then 8 else 0
theorem ceil_eq {a s : Int} (ha : 0 ≤ a) (hs : 1 ≤ s) : (a + s - 1) / s = if 0 < a % s then a / s + 1 else a / s := by
 have h1 := Int.emod_add_mul_ediv a s
 have h2 := Int.emod_nonneg a (show s ≠ 0 by omega)
 have h3 := Int.emod_lt_of_pos a (show 0 < s by omega)
 have e : a + s - 1 = (a % s + s - 1) + s * (a / s) := by omega
 rw [e, Int.add_mul_ediv_left _ _ (by omega)]
 split
 ·have : (a % s + s - 1) / s = 1 := by
   rw [show a % s + s - 1 = (a % s - 1) + s * 1 by omega, Int.add_mul_ediv_left _ _ (by omega), Int.ediv_eq_zero_of_lt (by omega) (by omega)]; rfl
  omega
 ·have : (a % s + s - 1) / s = 0 := Int.ediv_eq_zero_of_lt (by omega) (by omega)
  omega
structure CB (c : GConf) : Prop where
 len : 1 ≤ (c.Table.length : Int) ∧ (c.Table.length : Int) ≤ 32
 sl : 0 ≤ ((c.Table.length : Int) - 1) * c.Slot ∧ ((c.Table.length : Int) - 1) * c.Slot ≤ 930000
 mid : 0 ≤ midV c ∧ midV c ≤ 975000
 ap : 0 ≤ apV c ∧ apV c ≤ 122850000
 q : 0 ≤ apV c / (c.Rate - c.Drift) ∧ apV c / (c.Rate - c.Drift) ≤ 122850000
 g : 0 ≤ gdV c ∧ gdV c ≤ 123000000
 dd : 0 ≤ (c.D + 1) * c.Drift ∧ (c.D + 1) * c.Drift ≤ 315
 dr : 0 ≤ c.D * c.Rate ∧ c.D * c.Rate ≤ 256
 pr : 0 ≤ (c.Period - 1) * (c.Rate - c.Drift) ∧ (c.Period - 1) * (c.Rate - c.Drift) ≤ 25536
 per : 7 ≤ c.Period
 pf : 0 ≤ c.Period * (c.Rate + c.Drift) ∧ c.Period * (c.Rate + c.Drift) ≤ 50800
theorem cb {c : GConf} (h : cf.Pl c) : CB c := by
 obtain ⟨⟨n1, n2, n3, n4, n5⟩, ⟨l1, l2⟩, ⟨p1, p2, r1, r2, d1, d2, o1, o2, s1, s2, m1, m2, f1, f2⟩, ⟨t1, t2, t3, t4⟩⟩ := h
 have h0 := mulB (a := c.F + 1) (b := c.D) (A := 5) (B := 4) (by omega) (by omega) (by omega) (by omega)
 have e0 : 6 * (c.F + 1) * c.D = 6 * ((c.F + 1) * c.D) := by rw [Int.mul_assoc]
 have hs := mulB (a := (c.Table.length : Int) - 1) (b := c.Slot) (A := 31) (B := 30000) (by omega) (by omega) (by omega) (by omega)
 have hm : 0 ≤ midV c ∧ midV c ≤ 975000 := by unfold midV; omega
 have ha := mulB (a := 2 * c.Drift) (b := midV c) (A := 126) (B := 975000) (by omega) (by omega) hm.1 hm.2
 have ha' : 0 ≤ apV c ∧ apV c ≤ 122850000 := by unfold apV; omega
 have hd := mulB (a := c.D + 1) (b := c.Drift) (A := 5) (B := 63) (by omega) (by omega) (by omega) (by omega)
 have hq1 : 0 ≤ apV c / (c.Rate - c.Drift) := Int.ediv_nonneg ha'.1 (by omega)
 have hq2 : apV c / (c.Rate - c.Drift) ≤ apV c := Int.ediv_le_self _ ha'.1
 have hn : 1 ≤ (c.F + 1) * c.D := by have := mulB (a := 1) (b := 1) (A := c.F + 1) (B := c.D) (by omega) (by omega) (by omega) (by omega); omega
 refine ⟨by omega, by omega, hm, ha', ⟨hq1, by omega⟩, ?_, by omega, ?_, ?_, by omega, ?_⟩
 ·unfold gdV
  rw [ceil_eq ha'.1 (by omega)]
  split <;> omega
 ·have := mulB (a := c.D) (b := c.Rate) (A := 4) (B := 64) (by omega) (by omega) (by omega) (by omega); omega
 ·have := mulB (a := c.Period - 1) (b := c.Rate - c.Drift) (A := 399) (B := 64) (by omega) (by omega) (by omega) (by omega); omega
 ·have := mulB (a := c.Period) (b := c.Rate + c.Drift) (A := 400) (B := 127) (by omega) (by omega) (by omega) (by omega); omega
theorem begin_eq {c : GConf} (h : cf.Pl c) : wr (c.Offset + wr (wr ((c.Table.length : Int) - 1) * c.Slot)) = c.Offset + ((c.Table.length : Int) - 1) * c.Slot := by
 have b := cb h
 obtain ⟨l1, l2⟩ := b.len
 obtain ⟨s1, s2⟩ := b.sl
 obtain ⟨-, -, ⟨p1, p2, r1, r2, d1, d2, o1, o2, s1, s2, m1, m2, f1, f2⟩, -⟩ := h
 rw [wrI (n := (c.Table.length : Int) - 1) rfl (by omega), wrI (n := ((c.Table.length : Int) - 1) * c.Slot) rfl (by omega), wrI rfl (by omega)]
theorem mid_eq {c : GConf} (h : cf.Pl c) : wr (wr (c.Offset + wr (wr ((c.Table.length : Int) - 1) * c.Slot)) + wr (Int.tdiv c.Slot 2)) = midV c := by
 have b := cb h
 obtain ⟨s1, s2⟩ := b.sl
 rw [begin_eq h]
 obtain ⟨-, -, ⟨p1, p2, r1, r2, d1, d2, o1, o2, s1, s2, m1, m2, f1, f2⟩, -⟩ := h
 rw [Int.tdiv_eq_ediv_of_nonneg (by omega), wrI (n := c.Slot / 2) rfl (by omega), wrI rfl (by omega)]
 rfl
theorem pl_of {c : GConf} (h : cf.plainV c = 0) : cf.Pl c := (cf.plain_zero c).1 h
theorem bound_right (c : GConf) (hc : cf.CIn c) : bound_Right c = some (rightV c) := by
 unfold bound_Right bound_of rightV
 rw [cf.conf_plain c hc, zbs, zbs]
 by_cases h0 : cf.plainV c = 0
 ·have hp := pl_of h0
  have b := cb hp
  obtain ⟨a1, a2⟩ := b.ap
  obtain ⟨g1, g2⟩ := b.g
  obtain ⟨q1, q2⟩ := b.q
  obtain ⟨k1, k2⟩ := b.dd
  obtain ⟨u1, u2⟩ := b.dr
  obtain ⟨v1, v2⟩ := b.pr
  obtain ⟨w1, w2⟩ := b.pf
  obtain ⟨m1, m2⟩ := b.mid
  have pp := b.per
  have hm := mid_eq hp
  obtain ⟨⟨n1, n2, n3, n4, n5⟩, ⟨l1, l2⟩, ⟨p1, p2, r1, r2, d1, d2, o1, o2, s1, s2, -, -, f1, f2⟩, -⟩ := hp
  have hg : bound_plain_guard (Gbound_plain.mk c) = some (gdV c) := by
   unfold bound_plain_guard bound_plain_last bound_plain_middle bound_plain_begin bound_plain_slowest
   simp only [zbs]
   rw [hm, wrI (n := c.Rate - c.Drift) rfl (by omega), if_neg (by omega), wrI (n := 2 * c.Drift) rfl (by omega), show 2 * c.Drift * midV c = apV c from rfl, wrI (n := apV c) rfl (by omega), wrI (n := apV c + (c.Rate - c.Drift)) rfl (by omega),
    wrI (n := apV c + (c.Rate - c.Drift) - 1) rfl (by omega), Int.tdiv_eq_ediv_of_nonneg (by omega), wrI (n := c.D + 1) rfl (by omega), wrI (n := (c.D + 1) * c.Drift) rfl (by omega)]
   have e := ceil_eq (a := apV c) (s := c.Rate - c.Drift) a1 (by omega)
   have e2 : 0 ≤ (apV c + (c.Rate - c.Drift) - 1) / (c.Rate - c.Drift) ∧ (apV c + (c.Rate - c.Drift) - 1) / (c.Rate - c.Drift) ≤ 122850001 := by rw [e]; split <;> omega
   rw [wrI (n := (apV c + (c.Rate - c.Drift) - 1) / (c.Rate - c.Drift)) rfl (by omega), wrI (n := (apV c + (c.Rate - c.Drift) - 1) / (c.Rate - c.Drift) + c.Rate) rfl (by omega), wrI rfl (by omega)]
   rfl
  rw [if_neg (by simp [h0]), if_neg (by simp [h0])]
  simp only
  rw [hg, zbs]
  unfold bound_sound_parts bound_sound_ends bound_sound_turns bound_plain_fastest bound_plain_last bound_plain_middle bound_plain_begin bound_plain_slowest
  simp only [zbs]
  rw [hm, wrI (n := 2 * gdV c) rfl (by omega), wrI (n := c.D * c.Rate) rfl (by omega), wrI (n := midV c + c.D * c.Rate) rfl (by omega), wrI (n := midV c + c.D * c.Rate + gdV c) rfl (by omega), wrI (n := c.Period - 1) rfl (by omega), wrI (n := c.Rate - c.Drift) rfl (by omega),
   wrI (n := (c.Period - 1) * (c.Rate - c.Drift)) rfl (by omega), wrI (n := c.Rate + c.Drift) rfl (by omega), wrI (n := c.Period * (c.Rate + c.Drift)) rfl (by omega)]
  by_cases e1 : c.Slot ≤ 2 * gdV c
  ·rw [show decide (2 * gdV c < c.Slot) = false from decide_eq_false (by omega), if_pos (show (!false) = true from rfl), if_pos (.inl e1)]
  ·rw [show decide (2 * gdV c < c.Slot) = true from decide_eq_true (by omega), if_neg (by decide)]
   by_cases e2 : (c.Period - 1) * (c.Rate - c.Drift) < midV c + c.D * c.Rate + gdV c
   ·rw [show decide (midV c + c.D * c.Rate + gdV c ≤ (c.Period - 1) * (c.Rate - c.Drift)) = false from decide_eq_false (by omega), if_pos (show (!false) = true from rfl), if_pos (.inr (.inl e2))]
   ·rw [show decide (midV c + c.D * c.Rate + gdV c ≤ (c.Period - 1) * (c.Rate - c.Drift)) = true from decide_eq_true (by omega), if_neg (by decide)]
    by_cases e3 : 32768 ≤ c.Period * (c.Rate + c.Drift)
    ·rw [show decide (c.Period * (c.Rate + c.Drift) < 32768) = false from decide_eq_false (by omega), if_pos (show (!false) = true from rfl), if_pos (.inr (.inr e3))]
    ·rw [show decide (c.Period * (c.Rate + c.Drift) < 32768) = true from decide_eq_true (by omega), if_neg (by decide), if_neg (by omega)]
 ·rw [if_pos h0, decide_eq_false h0]
  rfl
theorem r04_right (c : GConf) (hc : cf.CIn c) : r04_Right c = some (rightV c) := by
 unfold r04_Right rightV
 rw [cf.r03_plain c hc, zbs]
 by_cases h0 : cf.plainV c = 0
 ·have hp := pl_of h0
  have b := cb hp
  obtain ⟨t1, t2⟩ := b.len
  obtain ⟨a1, a2⟩ := b.ap
  obtain ⟨g1, g2⟩ := b.g
  obtain ⟨q1, q2⟩ := b.q
  obtain ⟨k1, k2⟩ := b.dd
  obtain ⟨u1, u2⟩ := b.dr
  obtain ⟨v1, v2⟩ := b.pr
  obtain ⟨w1, w2⟩ := b.pf
  obtain ⟨m1, m2⟩ := b.mid
  have pp := b.per
  have hm := mid_eq hp
  have hb := begin_eq hp
  obtain ⟨⟨n1, n2, n3, n4, n5⟩, ⟨l1, l2⟩, ⟨p1, p2, r1, r2, d1, d2, o1, o2, s1, s2, -, -, f1, f2⟩, -⟩ := hp
  have hw : wr ((c.Table.length : Int) - 1) = (c.Table.length : Int) - 1 := wrI rfl (by omega)
  have hbg : r04_Begin c (wr ((c.Table.length : Int) - 1)) = some (wr (c.Offset + wr (wr ((c.Table.length : Int) - 1) * c.Slot))) := by
   unfold r04_Begin
   rw [cf.r03_plain c hc, zbs, if_neg (by simp [h0]), if_neg (by rw [hw]; omega), if_neg (by rw [hw]; omega)]
  have hmd : r04_Middle c (wr ((c.Table.length : Int) - 1)) = some (midV c) := by
   unfold r04_Middle
   rw [cf.r03_plain c hc, zbs, if_neg (by simp [h0]), if_neg (by rw [hw]; omega), if_neg (by rw [hw]; omega), hbg, zbs, hm]
  have hg : r04_Guard c = some (gdV c) := by
   unfold r04_Guard
   rw [cf.r03_plain c hc, zbs, if_neg (by simp [h0]), hmd, zbs, wrI (n := c.Rate - c.Drift) rfl (by omega), if_neg (by omega), wrI (n := 2 * c.Drift) rfl (by omega), show 2 * c.Drift * midV c = apV c from rfl, wrI (n := apV c) rfl (by omega),
    Int.tdiv_eq_ediv_of_nonneg a1, Int.tmod_eq_emod_of_nonneg a1, wrI (n := apV c / (c.Rate - c.Drift)) rfl (by omega), wrI (n := c.D + 1) rfl (by omega), wrI (n := (c.D + 1) * c.Drift) rfl (by omega)]
   unfold gdV
   rw [ceil_eq a1 (by omega)]
   split
   ·rw [wrI (n := apV c / (c.Rate - c.Drift) + 1) rfl (by omega), wrI (n := apV c / (c.Rate - c.Drift) + 1 + c.Rate) rfl (by omega), wrI rfl (by omega)]
   ·rw [wrI (n := apV c / (c.Rate - c.Drift) + c.Rate) rfl (by omega), wrI rfl (by omega)]
  have hz : ¬ cf.plainV c ≠ 0 := by simp [h0]
  rw [if_neg hz, if_neg hz, hg, zbs, hmd, zbs, wrI (n := 2 * gdV c) rfl (by omega), wrI (n := c.D * c.Rate) rfl (by omega), wrI (n := midV c + c.D * c.Rate) rfl (by omega), wrI (n := midV c + c.D * c.Rate + gdV c) rfl (by omega), wrI (n := c.Period - 1) rfl (by omega), wrI (n := c.Rate - c.Drift) rfl (by omega),
   wrI (n := (c.Period - 1) * (c.Rate - c.Drift)) rfl (by omega), wrI (n := c.Rate + c.Drift) rfl (by omega), wrI (n := c.Period * (c.Rate + c.Drift)) rfl (by omega)]
  by_cases e1 : c.Slot ≤ 2 * gdV c
  ·rw [if_pos e1, if_pos (.inl e1)]
  ·rw [if_neg e1]
   by_cases e2 : (c.Period - 1) * (c.Rate - c.Drift) < midV c + c.D * c.Rate + gdV c
   ·rw [if_pos e2, if_pos (.inr (.inl e2))]
   ·rw [if_neg e2]
    by_cases e3 : 32768 ≤ c.Period * (c.Rate + c.Drift)
    ·rw [if_pos e3, if_pos (.inr (.inr e3))]
    ·rw [if_neg e3, if_neg (by omega)]
 ·rw [if_pos h0, if_pos h0]
  rfl
theorem notd {β : Type} {p : Prop} [Decidable p] {a b : β} : (if (!decide p) = true then some a else some b) = some (if p then b else a) := by by_cases h : p <;> simp [h]
theorem dec_and {p q : Prop} [Decidable p] [Decidable q] : (if p then some (decide q) else some false) = some (decide (p ∧ q)) := by by_cases h : p <;> simp [h]
theorem every_eq {α : Type} (f : Int → Option (Int ⊕ (Bool ⊕ Unit))) (l : List α) (p : α → Prop) [DecidablePred p]
 (h : ∀ (k : Nat) x, k < l.length → l[k]? = some x → f (k : Int) = some (if p x then .inl ((k : Int) + 1) else .inr (.inl false))) (he : f (l.length : Int) = some (.inr (.inr ()))) :
 ((loopO f 0).bind fun r2 => Sum.elim (fun r3 => some r3) (fun _ => some true) r2) = some (decide (∀ x ∈ l, p x)) := by
 rw [loopO_alls l p (fun k x hk hx => by rw [h k x hk hx]; by_cases hp : p x <;> simp [hp]) he]
 by_cases hp : ∀ x ∈ l, p x
 ·rw [if_pos hp, decide_eq_true hp]; rfl
 ·rw [if_neg hp, decide_eq_false hp]; rfl
theorem every_fix {α γ : Type} (f : Int × γ → Option ((Int × γ) ⊕ ((Bool × γ) ⊕ γ))) (c : γ) (l : List α) (p : α → Prop) [DecidablePred p]
 (h : ∀ (k : Nat) x, k < l.length → l[k]? = some x → f ((k : Int), c) = some (if p x then .inl ((k : Int) + 1, c) else .inr (.inl (false, c)))) (he : f ((l.length : Int), c) = some (.inr (.inr c))) :
 ((loopO f (0, c)).bind fun r2 => Sum.elim (fun r3 => some (r3.1, r3.2)) (fun r4 => some (true, r4)) r2) = some (decide (∀ x ∈ l, p x), c) := by
 have : ∀ m k : Nat, k + m = l.length → loopO f ((k : Int), c) = some (if ∀ x ∈ l.drop k, p x then .inr c else .inl (false, c)) := by
  intro m
  induction m with
  | zero =>
    intro k hk
    obtain rfl : k = l.length := by omega
    rw [loopO_inr he, List.drop_length, if_pos (by simp)]
  | succ m ih =>
    intro k hk
    have hlt : k < l.length := by omega
    have h1 := h k l[k] hlt (zge hlt)
    rw [List.drop_eq_getElem_cons hlt]
    by_cases hp : p l[k]
    ·rw [if_pos hp] at h1
     rw [loopO_inl h1, show ((k : Int) + 1) = ((k + 1 : Nat) : Int) by omega, ih (k + 1) (by omega)]
     simp only [List.mem_cons, forall_eq_or_imp, hp, true_and]
    ·rw [if_neg hp] at h1
     have hn : ¬ ∀ x ∈ l[k] :: l.drop (k + 1), p x := fun hh => hp (hh _ (List.mem_cons_self ..))
     rw [loopO_inr h1, if_neg hn]
 have := this l.length 0 (by omega)
 rw [show ((0 : Nat) : Int) = 0 from rfl, List.drop_zero] at this
 rw [this]
 by_cases hp : ∀ x ∈ l, p x
 ·rw [if_pos hp, decide_eq_true hp]; rfl
 ·rw [if_neg hp, decide_eq_false hp]; rfl
def firstE : List Int → Int
 | [] => 0
 | e :: r => if e ≠ 0 then e else firstE r
theorem first_eq {α : Type} (f : Int → Option (Int ⊕ (Int ⊕ Unit))) (l : List α) (e : α → Int)
 (h : ∀ (k : Nat) x, k < l.length → l[k]? = some x → f (k : Int) = some (if e x ≠ 0 then .inr (.inl (e x)) else .inl ((k : Int) + 1))) (he : f (l.length : Int) = some (.inr (.inr ()))) :
 loopO f 0 = some (if firstE (l.map e) ≠ 0 then .inl (firstE (l.map e)) else .inr ()) := by
 have : ∀ m k : Nat, k + m = l.length → loopO f (k : Int) = some (if firstE ((l.drop k).map e) ≠ 0 then .inl (firstE ((l.drop k).map e)) else .inr ()) := by
  intro m
  induction m with
  | zero =>
    intro k hk
    obtain rfl : k = l.length := by omega
    rw [loopO_inr he, List.drop_length]
    rfl
  | succ m ih =>
    intro k hk
    have hlt : k < l.length := by omega
    have h1 := h k l[k] hlt (zge hlt)
    rw [List.drop_eq_getElem_cons hlt, List.map_cons, firstE]
    by_cases hp : e l[k] ≠ 0
    ·rw [if_pos hp] at h1 ⊢
     rw [loopO_inr h1, if_pos hp]
    ·rw [if_neg hp] at h1 ⊢
     rw [loopO_inl h1, show ((k : Int) + 1) = ((k + 1 : Nat) : Int) by omega, ih (k + 1) (by omega)]
 simpa using this l.length 0 (by omega)
theorem find_eq (f : Int → Option (Int ⊕ (Int ⊕ Unit))) (l : List Int) (v : Int)
 (h : ∀ (k : Nat) x, k < l.length → l[k]? = some x → f (k : Int) = some (if v = x then .inr (.inl (k : Int)) else .inl ((k : Int) + 1))) (he : f (l.length : Int) = some (.inr (.inr ()))) :
 ∃ r, ((loopO f 0).bind fun r2 => Sum.elim (fun r3 => some r3) (fun _ => some (-1)) r2) = some r ∧ decide (0 ≤ r) = decide (v ∈ l) := by
 have : ∀ m k : Nat, k + m = l.length → ∃ r, loopO f (k : Int) = some r ∧ ((v ∈ l.drop k ∧ ∃ j : Nat, r = .inl (j : Int)) ∨ (v ∉ l.drop k ∧ r = .inr ())) := by
  intro m
  induction m with
  | zero =>
    intro k hk
    obtain rfl : k = l.length := by omega
    exact ⟨_, loopO_inr he, .inr ⟨by simp, rfl⟩⟩
  | succ m ih =>
    intro k hk
    have hlt : k < l.length := by omega
    have h1 := h k l[k] hlt (zge hlt)
    rw [List.drop_eq_getElem_cons hlt]
    by_cases hp : v = l[k]
    ·rw [if_pos hp] at h1
     exact ⟨_, loopO_inr h1, .inl ⟨List.mem_cons.2 (.inl hp), k, rfl⟩⟩
    ·rw [if_neg hp] at h1
     obtain ⟨r, e, hr⟩ := ih (k + 1) (by omega)
     refine ⟨r, by rw [loopO_inl h1]; exact e, ?_⟩
     simpa only [List.mem_cons, hp, false_or] using hr
 obtain ⟨r, e, hr⟩ := this l.length 0 (by omega)
 rw [show ((0 : Nat) : Int) = 0 from rfl] at e
 rw [e]
 rw [List.drop_zero] at hr
 rcases hr with ⟨h1, j, rfl⟩ | ⟨h1, rfl⟩
 ·exact ⟨_, rfl, by simp [h1]⟩
 ·exact ⟨_, rfl, by simp [h1]⟩
def clV (n : Int) : Int := if n < 0 then 0 else if 13 < n then 13 else n
def IsN (c : GConf) (n : Int) : Prop := 0 ≤ n ∧ n < clV c.N
instance (c : GConf) (n : Int) : Decidable (IsN c n) := by unfold IsN; infer_instance
def Ns (l : List Int) (m : Int) : Prop := (l.length : Int) ≤ m ∧ ∀ x ∈ l, 0 ≤ x ∧ x ≤ 65535
instance (l : List Int) (m : Int) : Decidable (Ns l m) := by unfold Ns; infer_instance
def Nm (c : GConf) (t : GTick) : Prop := (∀ s ∈ t.Sends, IsN c s.From ∧ IsN c s.To) ∧ (∀ s ∈ t.Strays, IsN c s.From ∧ IsN c s.To) ∧ (∀ b ∈ t.Bursts, IsN c b.Node) ∧ ∀ w ∈ t.Writes, IsN c w.Node
instance (c : GConf) (t : GTick) : Decidable (Nm c t) := by unfold Nm; infer_instance
def Sh (t : GTick) : Prop := (∀ s ∈ t.Sends, (s.Bytes.length : Int) ≤ 40) ∧ (∀ s ∈ t.Strays, (s.Bytes.length : Int) ≤ 40) ∧ ∀ b ∈ t.Bursts, (b.Image.length : Int) ≤ 8000
instance (t : GTick) : Decidable (Sh t) := by unfold Sh; infer_instance
def Fl (t : GTick) : Prop := 40 < (t.Sends.length : Int) ∨ 40 < (t.Bursts.length : Int) ∨ 40 < (t.Strays.length : Int) ∨ 40 < (t.Writes.length : Int)
instance (t : GTick) : Decidable (Fl t) := by unfold Fl; infer_instance
def tickV (c : GConf) (t : GTick) : Int :=
 if ¬ Ns t.Units c.N then 2 else if ¬ Ns t.Delays (wr (c.N * c.N)) then 2 else if ¬ (∀ s ∈ t.Sends, 0 ≤ s.Delay ∧ s.Delay ≤ 65535) then 2 else if ¬ (∀ s ∈ t.Strays, 0 ≤ s.Delay ∧ s.Delay ≤ 65535) then 2
 else if Fl t then 9 else if ¬ Nm c t then 7 else if ¬ Sh t then 6 else if ¬ (∀ w ∈ t.Writes, (w.Text.length : Int) ≤ 16) then 15 else 0
def Fc (c : GConf) (l : List Int) : Prop := ∀ k x, l[k]? = some x → IsN c x ∧ x ∉ l.take k
open Classical in
noncomputable def scriptV (s : GScript) : Int := if rightV s.Conf ≠ 0 then rightV s.Conf else if ¬ Fc s.Conf s.Faulty then 7 else if s.Conf.N < (s.Images.length : Int) then 6 else if 2000 < (s.Ticks.length : Int) then 6
 else if ¬ (∀ i ∈ s.Images, (i.length : Int) ≤ 8000) then 6 else firstE (s.Ticks.map (tickV s.Conf))
structure TIn (t : GTick) : Prop where
 u : t.Units.length ≤ 100000000
 d : t.Delays.length ≤ 100000000
 s : t.Sends.length ≤ 100000000
 b : t.Bursts.length ≤ 100000000
 y : t.Strays.length ≤ 100000000
 w : t.Writes.length ≤ 100000000
structure SIn (s : GScript) : Prop where
 conf : cf.CIn s.Conf
 f : s.Faulty.length ≤ 100000000
 i : s.Images.length ≤ 100000000
 t : s.Ticks.length ≤ 100000000
 tt : ∀ t ∈ s.Ticks, TIn t
theorem is_eq (c : GConf) (n : Int) : script_is c n = some (decide (IsN c n)) := by
 have e : script_nodes c = some (clV c.N) := by
  unfold script_nodes num_Clamp clV
  split
  ·rfl
  ·rw [if_neg (by omega)]
   split <;> rfl
 unfold script_is
 rw [e, zbs]
 exact dec_and
theorem node_eq (c : GConf) (n : Int) : r33_node c n = some (decide (IsN c n)) := by
 have e : r01_Clamp c.N 0 13 = some (clV c.N) := by
  unfold r01_Clamp clV
  split
  ·rfl
  ·rw [if_neg (by omega)]
   congr 1
   rw [Int.min_def]
   split <;> split <;> omega
 unfold r33_node
 rw [e, zbs]
 exact dec_and
theorem contains_eq (l : List Int) (v : Int) (hl : l.length ≤ 1000000000) : slices_Contains_int_int l v = some (decide (v ∈ l)) := by
 obtain ⟨r, h1, h2⟩ := find_eq (fun s => slices_Index_int_int_0_step l v (l.length : Int) s) l v (fun k x hk hx => by
  simp only [slices_Index_int_int_0_step]
  rw [if_pos (by omega), idx_get hx, zbs, wrI rfl (by omega)]
  by_cases h : v = x <;> simp [h]) (by simp only [slices_Index_int_int_0_step]; rw [if_neg (by omega)])
 have : slices_Index_int_int l v = some r := h1
 unfold slices_Contains_int_int
 rw [this, zbs, h2]
theorem in_eq (l : List Int) (v : Int) (hl : l.length ≤ 1000000000) : r14_In l v = some (decide (v ∈ l)) := by
 have L := loopO_anys (f := fun s => r14_In_0_step l v s) l (fun x => x = v) true (fun k x hk hx => by
  simp only [r14_In_0_step]
  rw [if_pos (by omega), idx_get hx, zbs, wrI rfl (by omega)]
  by_cases h : x = v <;> simp [h]) (by simp only [r14_In_0_step]; rw [if_neg (by omega)])
 unfold r14_In r14_In_0
 rw [L]
 by_cases h : v ∈ l
 ·rw [if_pos ⟨v, h, rfl⟩, decide_eq_true h]; rfl
 ·rw [if_neg (by rintro ⟨x, hx, rfl⟩; exact h hx), decide_eq_false h]; rfl
theorem num1_eq (n : Int) : script_nu_1 n = some (decide (0 ≤ n ∧ n ≤ 65535)) := dec_and
theorem wait1_eq (s : GSend) : script_tick_1 s = some (decide (0 ≤ s.Delay ∧ s.Delay ≤ 65535)) := dec_and
theorem ints_eq (l : List Int) (hl : l.length ≤ 100000000) : se_int l = some (decide (∀ x ∈ l, 0 ≤ x ∧ x ≤ 65535)) :=
 every_eq (fun s => se_int_0_step l (l.length : Int) s) l (fun x => 0 ≤ x ∧ x ≤ 65535) (fun k x hk hx => by
  simp only [se_int_0_step]
  rw [if_pos (by omega), idx_get hx, zbs, num1_eq, zbs, wrI rfl (by omega), notd]) (by simp only [se_int_0_step]; rw [if_neg (by omega)])
theorem nums_eq (l : List Int) (m : Int) (hl : l.length ≤ 100000000) : script_numbers l m = some (decide (Ns l m)) := by
 unfold script_numbers
 rw [ints_eq l hl, zbs]
 exact dec_and
theorem waits_eq (l : List GSend) (hl : l.length ≤ 100000000) : se_api_Send_v2 l = some (decide (∀ s ∈ l, 0 ≤ s.Delay ∧ s.Delay ≤ 65535)) :=
 every_eq (fun s => se_api_Send_v2_0_step l (l.length : Int) s) l (fun s => 0 ≤ s.Delay ∧ s.Delay ≤ 65535) (fun k x hk hx => by
  simp only [se_api_Send_v2_0_step]
  rw [if_pos (by omega), idx_get hx, zbs, wait1_eq, zbs, wrI rfl (by omega), notd]) (by simp only [se_api_Send_v2_0_step]; rw [if_neg (by omega)])
theorem shorts_eq (l : List GSend) (hl : l.length ≤ 100000000) : se_api_Send_v1 l = some (decide (∀ s ∈ l, (s.Bytes.length : Int) ≤ 40)) :=
 every_eq (fun s => se_api_Send_v1_0_step l (l.length : Int) s) l (fun s => (s.Bytes.length : Int) ≤ 40) (fun k x hk hx => by
  simp only [se_api_Send_v1_0_step, script_short_1]
  rw [if_pos (by omega), idx_get hx, zbs, zbs, wrI rfl (by omega), notd]) (by simp only [se_api_Send_v1_0_step]; rw [if_neg (by omega)])
theorem shortb_eq (l : List GBurst) (hl : l.length ≤ 100000000) : se_api_Burst_v1 l = some (decide (∀ s ∈ l, (s.Image.length : Int) ≤ 8000)) :=
 every_eq (fun s => se_api_Burst_v1_0_step l (l.length : Int) s) l (fun s => (s.Image.length : Int) ≤ 8000) (fun k x hk hx => by
  simp only [se_api_Burst_v1_0_step, script_short_2]
  rw [if_pos (by omega), idx_get hx, zbs, zbs, wrI rfl (by omega), notd]) (by simp only [se_api_Burst_v1_0_step]; rw [if_neg (by omega)])
theorem texts_eq (l : List GWrite) (hl : l.length ≤ 100000000) : se_api_Write_v1 l = some (decide (∀ s ∈ l, (s.Text.length : Int) ≤ 16)) :=
 every_eq (fun s => se_api_Write_v1_0_step l (l.length : Int) s) l (fun s => (s.Text.length : Int) ≤ 16) (fun k x hk hx => by
  simp only [se_api_Write_v1_0_step, script_tick_2]
  rw [if_pos (by omega), idx_get hx, zbs, zbs, wrI rfl (by omega), notd]) (by simp only [se_api_Write_v1_0_step]; rw [if_neg (by omega)])
theorem images_eq (l : List (List UInt8)) (hl : l.length ≤ 100000000) : se_string l = some (decide (∀ s ∈ l, (s.length : Int) ≤ 8000)) :=
 every_eq (fun s => se_string_0_step l (l.length : Int) s) l (fun s => (s.length : Int) ≤ 8000) (fun k x hk hx => by
  simp only [se_string_0_step, script_Right_1]
  rw [if_pos (by omega), idx_get hx, zbs, zbs, wrI rfl (by omega), notd]) (by simp only [se_string_0_step]; rw [if_neg (by omega)])
theorem named1_eq (c : GConf) (s : GSend) : script_named_1 s c = some (decide (IsN c s.From ∧ IsN c s.To), c) := by
 unfold script_named_1
 rw [is_eq, is_eq, zbs, zbs]
 by_cases h : IsN c s.From <;> simp [h]
theorem ends_eq (c : GConf) (l : List GSend) (hl : l.length ≤ 100000000) : se_api_Send l c = some (decide (∀ s ∈ l, IsN c s.From ∧ IsN c s.To), c) :=
 every_fix (fun s => se_api_Send_0_step l (l.length : Int) s.1 s.2) c l (fun s => IsN c s.From ∧ IsN c s.To) (fun k x hk hx => by
  simp only [se_api_Send_0_step]
  rw [if_pos (by omega), idx_get hx, zbs, named1_eq, zbs, wrI rfl (by omega), notd]) (by simp only [se_api_Send_0_step]; rw [if_neg (by omega)])
theorem endb_eq (c : GConf) (l : List GBurst) (hl : l.length ≤ 100000000) : se_api_Burst l c = some (decide (∀ s ∈ l, IsN c s.Node), c) :=
 every_fix (fun s => se_api_Burst_0_step l (l.length : Int) s.1 s.2) c l (fun s => IsN c s.Node) (fun k x hk hx => by
  simp only [se_api_Burst_0_step, script_named_2]
  rw [if_pos (by omega), idx_get hx, zbs, is_eq, zbs, zbs, wrI rfl (by omega), notd]) (by simp only [se_api_Burst_0_step]; rw [if_neg (by omega)])
theorem endw_eq (c : GConf) (l : List GWrite) (hl : l.length ≤ 100000000) : se_api_Write l c = some (decide (∀ s ∈ l, IsN c s.Node), c) :=
 every_fix (fun s => se_api_Write_0_step l (l.length : Int) s.1 s.2) c l (fun s => IsN c s.Node) (fun k x hk hx => by
  simp only [se_api_Write_0_step, script_named_3]
  rw [if_pos (by omega), idx_get hx, zbs, is_eq, zbs, zbs, wrI rfl (by omega), notd]) (by simp only [se_api_Write_0_step]; rw [if_neg (by omega)])
theorem named_eq (c : GConf) (t : GTick) (ht : TIn t) : script_named c t = some (decide (Nm c t)) := by
 unfold script_named
 simp only [ends_eq c _ ht.s, ends_eq c _ ht.y, endb_eq c _ ht.b, endw_eq c _ ht.w, zbs, decide_eq_true_eq]
 by_cases h1 : ∀ s ∈ t.Sends, IsN c s.From ∧ IsN c s.To
 ·rw [if_pos h1]
  by_cases h2 : ∀ s ∈ t.Strays, IsN c s.From ∧ IsN c s.To
  ·rw [if_pos h2]
   by_cases h3 : ∀ s ∈ t.Bursts, IsN c s.Node
   ·rw [if_pos h3]
    congr 1
    exact Bool.eq_iff_iff.2 (by simp only [decide_eq_true_eq]; exact ⟨fun h => ⟨h1, h2, h3, h⟩, fun h => h.2.2.2⟩)
   ·rw [if_neg h3, decide_eq_false fun h => h3 h.2.2.1]
  ·rw [if_neg h2, decide_eq_false fun h => h2 h.2.1]
 ·rw [if_neg h1, decide_eq_false fun h => h1 h.1]
theorem short_eq (t : GTick) (ht : TIn t) : script_short t = some (decide (Sh t)) := by
 unfold script_short
 simp only [shorts_eq _ ht.s, shorts_eq _ ht.y, shortb_eq _ ht.b, zbs, decide_eq_true_eq]
 by_cases h1 : ∀ s ∈ t.Sends, (s.Bytes.length : Int) ≤ 40
 ·rw [if_pos h1]
  by_cases h2 : ∀ s ∈ t.Strays, (s.Bytes.length : Int) ≤ 40
  ·rw [if_pos h2]
   congr 1
   exact Bool.eq_iff_iff.2 (by simp only [decide_eq_true_eq]; exact ⟨fun h => ⟨h1, h2, h⟩, fun h => h.2.2⟩)
  ·rw [if_neg h2, decide_eq_false fun h => h2 h.2.1]
 ·rw [if_neg h1, decide_eq_false fun h => h1 h.1]
theorem full_eq (t : GTick) : script_full t = some (decide (Fl t)) := by
 unfold script_full
 rw [mmL_max]
 congr 1
 refine Bool.eq_iff_iff.2 (decide_eq_true_iff.trans (Iff.trans ?_ decide_eq_true_iff.symm))
 simp only [List.foldl_cons, List.foldl_nil]
 unfold Fl
 omega
theorem tick_eq (c : GConf) (t : GTick) (ht : TIn t) : script_tick c t = some (tickV c t) := by
 unfold script_tick tickV
 simp only [nums_eq _ _ ht.u, nums_eq _ _ ht.d, waits_eq _ ht.s, waits_eq _ ht.y, full_eq, named_eq c t ht, short_eq t ht, texts_eq _ ht.w, zbs, Bool.not_eq_true', decide_eq_false_iff_not, decide_eq_true_eq]
 repeat (split; first | rfl | skip)
 all_goals first | rfl | skip
theorem within33_eq (l : List Int) (m : Int) (hl : l.length ≤ 1000000000) : r33_within l m = some (decide (Ns l m)) := by
 have e : ((loopO (fun s => r33_within_0_step l s) 0).bind fun r2 => Sum.elim (fun r3 => some r3) (fun _ => some true) r2) = some (decide (∀ x ∈ l, 0 ≤ x ∧ x ≤ 65535)) :=
  every_eq (fun s => r33_within_0_step l s) l (fun x => 0 ≤ x ∧ x ≤ 65535) (fun k x hk hx => by
   simp only [r33_within_0_step]
   rw [if_pos (by omega), idx_get hx, zbs, zbs, wrI rfl (by omega)]
   by_cases h1 : x < 0
   ·rw [if_pos h1, if_neg (by omega)]
   ·rw [if_neg h1]
    by_cases h2 : 65535 < x
    ·rw [if_pos h2, if_neg (by omega)]
    ·rw [if_neg h2, if_pos (by omega)]) (by simp only [r33_within_0_step]; rw [if_neg (by omega)])
 unfold r33_within
 by_cases h : m < (l.length : Int)
 ·rw [if_pos h, decide_eq_false (fun hh : Ns l m => absurd hh.1 (by omega))]
 ·rw [if_neg h]
  refine Eq.trans e ?_
  congr 1
  exact Bool.eq_iff_iff.2 (by simp only [decide_eq_true_eq]; exact ⟨fun hh => ⟨by omega, hh⟩, fun hh => hh.2⟩)
theorem waits33_eq (t : GTick) (ht : TIn t) : r33_waits t = some (t.Sends.map GSend.Delay ++ t.Strays.map GSend.Delay) := by
 have h1 := ht.s
 have h2 := ht.y
 have e : ∀ (l : List GSend), l.flatMap (fun s => [s.Delay]) = l.map GSend.Delay := by
  intro l
  induction l with
  | nil => rfl
  | cons x l ih => rw [List.flatMap_cons, ih]; rfl
 have L1 := loopO_rows (f := fun s : List Int × Int => r33_waits_0_step t t.Sends (t.Sends.length : Int) s.1 s.2) (fun o i => (o, i)) id t.Sends (fun _ s => [s.Delay]) 4294967296 (fun k x o hk hx hl => by
  show r33_waits_0_step _ _ _ _ _ = _
  unfold r33_waits_0_step
  rw [if_pos (by omega), idx_get hx, zbs, if_pos (by rw [lenMax_eq]; exact hl), wrI rfl (by omega)]) (fun o => by
  show r33_waits_0_step _ _ _ _ _ = _
  unfold r33_waits_0_step
  rw [if_neg (by omega)]; rfl) [] (by rw [rows_flat, e]; simp; omega)
 have L2 := loopO_rows (f := fun s : List Int × Int => r33_waits_1_step t.Strays (t.Strays.length : Int) s.1 s.2) (fun o i => (o, i)) id t.Strays (fun _ s => [s.Delay]) 4294967296 (fun k x o hk hx hl => by
  show r33_waits_1_step _ _ _ _ = _
  unfold r33_waits_1_step
  rw [if_pos (by omega), idx_get hx, zbs, if_pos (by rw [lenMax_eq]; exact hl), wrI rfl (by omega)]) (fun o => by
  show r33_waits_1_step _ _ _ _ = _
  unfold r33_waits_1_step
  rw [if_neg (by omega)]; rfl) (t.Sends.map GSend.Delay) (by rw [rows_flat, e]; simp; omega)
 rw [rows_flat, e] at L1 L2
 unfold r33_waits r33_waits_0
 rw [L1, zbs]
 unfold r33_waits_1
 rw [id, List.nil_append, L2]
 rfl
theorem nodes33_eq (c : GConf) (t : GTick) (ht : TIn t) : r33_nodes c t = some (decide (Nm c t)) := by
 have h1 := ht.s
 have h2 := ht.y
 have h3 := ht.b
 have h4 := ht.w
 have L0 := loopO_alls (f := fun s => r33_nodes_0_step c t t.Sends (t.Sends.length : Int) s) t.Sends (fun s => IsN c s.From ∧ IsN c s.To) (fun k x hk hx => by
  simp only [r33_nodes_0_step]
  rw [if_pos (by omega), idx_get hx, zbs, node_eq, zbs, node_eq, zbs, wrI rfl (by omega)]
  by_cases a : IsN c x.From <;> by_cases b : IsN c x.To <;> simp [a, b]) (by simp only [r33_nodes_0_step]; rw [if_neg (by omega)])
 have L1 := loopO_alls (f := fun s => r33_nodes_1_step c t t.Strays (t.Strays.length : Int) s) t.Strays (fun s => IsN c s.From ∧ IsN c s.To) (fun k x hk hx => by
  simp only [r33_nodes_1_step]
  rw [if_pos (by omega), idx_get hx, zbs, node_eq, zbs, node_eq, zbs, wrI rfl (by omega)]
  by_cases a : IsN c x.From <;> by_cases b : IsN c x.To <;> simp [a, b]) (by simp only [r33_nodes_1_step]; rw [if_neg (by omega)])
 have L2 := loopO_alls (f := fun s => r33_nodes_2_step c t t.Bursts (t.Bursts.length : Int) s) t.Bursts (fun s => IsN c s.Node) (fun k x hk hx => by
  simp only [r33_nodes_2_step]
  rw [if_pos (by omega), idx_get hx, zbs, node_eq, zbs, wrI rfl (by omega)]
  by_cases a : IsN c x.Node <;> simp [a]) (by simp only [r33_nodes_2_step]; rw [if_neg (by omega)])
 have L3 := loopO_alls (f := fun s => r33_nodes_3_step c t.Writes (t.Writes.length : Int) s) t.Writes (fun s => IsN c s.Node) (fun k x hk hx => by
  simp only [r33_nodes_3_step]
  rw [if_pos (by omega), idx_get hx, zbs, node_eq, zbs, wrI rfl (by omega)]
  by_cases a : IsN c x.Node <;> simp [a]) (by simp only [r33_nodes_3_step]; rw [if_neg (by omega)])
 unfold r33_nodes r33_nodes_0 r33_nodes_1 r33_nodes_2 r33_nodes_3
 rw [L0, zbs, L1, L2, L3]
 by_cases a0 : ∀ s ∈ t.Sends, IsN c s.From ∧ IsN c s.To
 ·rw [if_pos a0]
  by_cases a1 : ∀ s ∈ t.Strays, IsN c s.From ∧ IsN c s.To
  ·rw [if_pos a1]
   by_cases a2 : ∀ s ∈ t.Bursts, IsN c s.Node
   ·rw [if_pos a2]
    by_cases a3 : ∀ s ∈ t.Writes, IsN c s.Node
    ·rw [if_pos a3, decide_eq_true ⟨a0, a1, a2, a3⟩]; rfl
    ·rw [if_neg a3, decide_eq_false fun h => a3 h.2.2.2]; rfl
   ·rw [if_neg a2, decide_eq_false fun h => a2 h.2.2.1]; rfl
  ·rw [if_neg a1, decide_eq_false fun h => a1 h.2.1]; rfl
 ·rw [if_neg a0, decide_eq_false fun h => a0 h.1]; rfl
theorem long33_eq (t : GTick) (ht : TIn t) : r33_long t = some (decide (¬ Sh t)) := by
 have h1 := ht.s
 have h2 := ht.y
 have h3 := ht.b
 have L0 := loopO_anys (f := fun s => r33_long_0_step t t.Sends (t.Sends.length : Int) s) t.Sends (fun s => 40 < (s.Bytes.length : Int)) true (fun k x hk hx => by
  simp only [r33_long_0_step]
  rw [if_pos (by omega), idx_get hx, zbs, wrI rfl (by omega)]
  by_cases a : 40 < (x.Bytes.length : Int) <;> simp [a]) (by simp only [r33_long_0_step]; rw [if_neg (by omega)])
 have L1 := loopO_anys (f := fun s => r33_long_1_step t t.Strays (t.Strays.length : Int) s) t.Strays (fun s => 40 < (s.Bytes.length : Int)) true (fun k x hk hx => by
  simp only [r33_long_1_step]
  rw [if_pos (by omega), idx_get hx, zbs, wrI rfl (by omega)]
  by_cases a : 40 < (x.Bytes.length : Int) <;> simp [a]) (by simp only [r33_long_1_step]; rw [if_neg (by omega)])
 have L2 := loopO_anys (f := fun s => r33_long_2_step t.Bursts (t.Bursts.length : Int) s) t.Bursts (fun s => 8000 < (s.Image.length : Int)) true (fun k x hk hx => by
  simp only [r33_long_2_step]
  rw [if_pos (by omega), idx_get hx, zbs, wrI rfl (by omega)]
  by_cases a : 8000 < (x.Image.length : Int) <;> simp [a]) (by simp only [r33_long_2_step]; rw [if_neg (by omega)])
 unfold r33_long r33_long_0 r33_long_1 r33_long_2
 rw [L0, zbs, L1, L2]
 by_cases a0 : ∃ s ∈ t.Sends, 40 < (s.Bytes.length : Int)
 ·rw [if_pos a0, decide_eq_true (by obtain ⟨s, h5, h6⟩ := a0; exact fun h => absurd (h.1 s h5) (by omega))]; rfl
 ·rw [if_neg a0]
  by_cases a1 : ∃ s ∈ t.Strays, 40 < (s.Bytes.length : Int)
  ·rw [if_pos a1, decide_eq_true (by obtain ⟨s, h5, h6⟩ := a1; exact fun h => absurd (h.2.1 s h5) (by omega))]; rfl
  ·rw [if_neg a1]
   by_cases a2 : ∃ s ∈ t.Bursts, 8000 < (s.Image.length : Int)
   ·rw [if_pos a2, decide_eq_true (by obtain ⟨s, h5, h6⟩ := a2; exact fun h => absurd (h.2.2 s h5) (by omega))]; rfl
   ·rw [if_neg a2, decide_eq_false (fun h => h ⟨fun s hs => Int.not_lt.1 fun hh => a0 ⟨s, hs, hh⟩, fun s hs => Int.not_lt.1 fun hh => a1 ⟨s, hs, hh⟩, fun s hs => Int.not_lt.1 fun hh => a2 ⟨s, hs, hh⟩⟩)]; rfl
theorem tick33_eq (c : GConf) (t : GTick) (ht : TIn t) : r33_tick c t = some (tickV c t) := by
 have h1 := ht.s
 have h2 := ht.y
 have h4 := ht.w
 have L := loopO_anys (f := fun s => r33_tick_0_step t.Writes (t.Writes.length : Int) s) t.Writes (fun s => 16 < (s.Text.length : Int)) (15 : Int) (fun k x hk hx => by
  simp only [r33_tick_0_step]
  rw [if_pos (by omega), idx_get hx, zbs, wrI rfl (by omega)]
  by_cases a : 16 < (x.Text.length : Int) <;> simp [a]) (by simp only [r33_tick_0_step]; rw [if_neg (by omega)])
 have hw : Ns (t.Sends.map GSend.Delay ++ t.Strays.map GSend.Delay) ((t.Sends.length : Int) + (t.Strays.length : Int)) ↔ (∀ s ∈ t.Sends, 0 ≤ s.Delay ∧ s.Delay ≤ 65535) ∧ (∀ s ∈ t.Strays, 0 ≤ s.Delay ∧ s.Delay ≤ 65535) := by
  unfold Ns
  simp only [List.length_append, List.length_map, List.mem_append, List.mem_map]
  constructor
  ·rintro ⟨-, h⟩
   exact ⟨fun s hs => h _ (.inl ⟨s, hs, rfl⟩), fun s hs => h _ (.inr ⟨s, hs, rfl⟩)⟩
  ·rintro ⟨ha, hb⟩
   refine ⟨by omega, ?_⟩
   rintro x (⟨s, hs, rfl⟩ | ⟨s, hs, rfl⟩)
   ·exact ha s hs
   ·exact hb s hs
 unfold r33_tick tickV r33_tick_0
 rw [within33_eq _ _ (by have := ht.u; omega), within33_eq _ _ (by have := ht.d; omega), waits33_eq t ht, wrI (n := (t.Sends.length : Int) + (t.Strays.length : Int)) rfl (by omega)]
 simp only [zbs]
 rw [within33_eq _ _ (by simp; omega), nodes33_eq c t ht, long33_eq t ht, L]
 simp only [zbs, Bool.not_eq_true', decide_eq_false_iff_not, decide_eq_true_eq]
 by_cases a1 : Ns t.Units c.N
 ·rw [if_neg (not_not_intro a1), if_neg (not_not_intro a1)]
  by_cases a2 : Ns t.Delays (wr (c.N * c.N))
  ·rw [if_neg (not_not_intro a2), if_neg (not_not_intro a2)]
   by_cases a3 : ∀ s ∈ t.Sends, 0 ≤ s.Delay ∧ s.Delay ≤ 65535
   ·by_cases a4 : ∀ s ∈ t.Strays, 0 ≤ s.Delay ∧ s.Delay ≤ 65535
    ·rw [if_neg (not_not_intro (hw.2 ⟨a3, a4⟩)), if_neg (not_not_intro a3), if_neg (not_not_intro a4)]
     by_cases a5 : Fl t
     ·rw [if_pos a5]
      unfold Fl at a5
      iterate 4 (split; · rfl)
      exfalso; omega
     ·rw [if_neg a5]
      unfold Fl at a5
      iterate 4 (split; · exfalso; omega)
      by_cases a6 : Nm c t
      ·rw [if_neg (not_not_intro a6), if_neg (not_not_intro a6)]
       by_cases a7 : Sh t
       ·rw [if_neg (not_not_intro a7), if_neg (not_not_intro a7)]
        by_cases a8 : ∃ s ∈ t.Writes, 16 < (s.Text.length : Int)
        ·rw [if_pos a8, if_pos (show ¬ ∀ w ∈ t.Writes, (w.Text.length : Int) ≤ 16 from by obtain ⟨s, h5, h6⟩ := a8; exact fun h => absurd (h s h5) (by omega))]; rfl
        ·have a9 : ∀ w ∈ t.Writes, (w.Text.length : Int) ≤ 16 := fun s hs => Int.not_lt.1 fun hh => a8 ⟨s, hs, hh⟩
         rw [if_neg a8, if_neg (not_not_intro a9)]; rfl
       ·rw [if_pos a7, if_pos a7]
      ·rw [if_pos a6, if_pos a6]
    ·have n : ¬ Ns (t.Sends.map GSend.Delay ++ t.Strays.map GSend.Delay) ((t.Sends.length : Int) + (t.Strays.length : Int)) := fun h => a4 (hw.1 h).2
     rw [if_pos n, if_neg (not_not_intro a3), if_pos a4]
   ·have n : ¬ Ns (t.Sends.map GSend.Delay ++ t.Strays.map GSend.Delay) ((t.Sends.length : Int) + (t.Strays.length : Int)) := fun h => a3 (hw.1 h).1
    rw [if_pos n, if_pos a3]
  ·rw [if_pos a2, if_pos a2]
 ·rw [if_pos a1, if_pos a1]
theorem faulty_p (c : GConf) (l : List Int) : (∃ k, k < l.length ∧ ∃ x, l[k]? = some x ∧ ¬ (IsN c x ∧ x ∉ l.take k)) ↔ ¬ Fc c l := by
 unfold Fc
 constructor
 ·rintro ⟨k, hk, x, hx, h⟩ hh
  exact h (hh k x hx)
 ·intro h
  obtain ⟨k, h⟩ := Classical.not_forall.1 h
  obtain ⟨x, h⟩ := Classical.not_forall.1 h
  obtain ⟨hx, h⟩ := Classical.not_imp.1 h
  exact ⟨k, (List.getElem?_eq_some_iff.1 hx).1, x, hx, h⟩
theorem script_right (s : GScript) (h : SIn s) : script_Right s = some (scriptV s) := by
 classical
 have f1 := h.f
 have f2 := h.t
 have LF := loopO_any (f := fun i => script_faulty_0_step s s.Faulty (s.Faulty.length : Int) i) s.Faulty.length (fun k => ∃ x, s.Faulty[k]? = some x ∧ ¬ (IsN s.Conf x ∧ x ∉ s.Faulty.take k)) false (fun k hk => by
  simp only [script_faulty_0_step]
  have hx := zge hk
  rw [if_pos (by omega), idx_get hx, zbs, is_eq, zbs, if_pos (show 0 ≤ (k : Int) ∧ (k : Int) ≤ (s.Faulty.length : Nat) by omega), Int.toNat_natCast, contains_eq _ _ (by simp; omega), zbs, wrI rfl (by omega), hx]
  simp only [zsi, exists_eq_left']
  by_cases a : IsN s.Conf s.Faulty[k] <;> by_cases b : s.Faulty[k] ∈ s.Faulty.take k <;> simp [a, b]) (by simp only [script_faulty_0_step]; rw [if_neg (by omega)])
 have LT := first_eq (fun i => script_Right_0_step s s.Ticks (s.Ticks.length : Int) i) s.Ticks (tickV s.Conf) (fun k x hk hx => by
  simp only [script_Right_0_step]
  rw [if_pos (by omega), idx_get hx, zbs, tick_eq _ _ (h.tt x (List.mem_of_getElem? hx)), zbs, wrI rfl (by omega)]
  split <;> rfl) (by simp only [script_Right_0_step]; rw [if_neg (by omega)])
 unfold script_Right scriptV
 rw [bound_right _ h.conf, zbs]
 by_cases h0 : rightV s.Conf ≠ 0
 ·rw [if_pos h0, if_pos h0]
 ·rw [if_neg h0, if_neg h0]
  unfold script_faulty script_faulty_0
  rw [LF, images_eq _ h.i]
  by_cases h1 : Fc s.Conf s.Faulty
  ·rw [if_neg (fun hh => (faulty_p _ _).1 hh h1), if_neg (not_not_intro h1)]
   rw [zbs, Sum.elim_inr, zbs, if_neg (show ¬ (!true) = true by decide)]
   split
   ·rfl
   ·split
    ·rfl
    ·rw [zbs]
     by_cases h2 : ∀ i ∈ s.Images, (i.length : Int) ≤ 8000
     ·rw [decide_eq_true h2, if_neg (by decide), if_neg (fun hh => hh h2)]
      unfold script_Right_0
      rw [LT]
      by_cases h3 : firstE (s.Ticks.map (tickV s.Conf)) = 0
      ·rw [if_neg (fun hh => hh h3), h3]; rfl
      ·rw [if_pos h3]; rfl
     ·rw [decide_eq_false h2, if_pos (show (!false) = true from rfl), if_pos h2]
  ·rw [if_pos ((faulty_p _ _).2 h1), if_pos h1]
   rfl
theorem r33_right (s : GScript) (h : SIn s) : r33_Right s = some (scriptV s) := by
 classical
 have f1 := h.f
 have f2 := h.t
 have f3 := h.i
 have LF := loopO_any (f := fun i => r33_Right_0_step s i) s.Faulty.length (fun k => ∃ x, s.Faulty[k]? = some x ∧ ¬ (IsN s.Conf x ∧ x ∉ s.Faulty.take k)) (7 : Int) (fun k hk => by
  simp only [r33_Right_0_step]
  have hx := zge hk
  rw [if_pos (by omega), idx_get hx, zbs, node_eq, zbs, if_pos (show 0 ≤ (k : Int) ∧ (k : Int) ≤ (s.Faulty.length : Nat) by omega), zbs, Int.toNat_natCast, in_eq _ _ (by simp; omega), zbs, wrI rfl (by omega), hx]
  simp only [zsi, exists_eq_left']
  by_cases a : IsN s.Conf s.Faulty[k] <;> by_cases b : s.Faulty[k] ∈ s.Faulty.take k <;> simp [a, b]) (by simp only [r33_Right_0_step]; rw [if_neg (by omega)])
 have LI := loopO_anys (f := fun i => r33_Right_1_step s i) s.Images (fun i => 8000 < (i.length : Int)) (6 : Int) (fun k x hk hx => by
  simp only [r33_Right_1_step]
  rw [if_pos (by omega), idx_get hx, zbs, wrI rfl (by omega)]
  by_cases a : 8000 < (x.length : Int) <;> simp [a]) (by simp only [r33_Right_1_step]; rw [if_neg (by omega)])
 have LT := first_eq (fun i => r33_Right_2_step s i) s.Ticks (tickV s.Conf) (fun k x hk hx => by
  simp only [r33_Right_2_step]
  rw [if_pos (by omega), idx_get hx, zbs, tick33_eq _ _ (h.tt x (List.mem_of_getElem? hx)), zbs, wrI rfl (by omega)]
  split <;> rfl) (by simp only [r33_Right_2_step]; rw [if_neg (by omega)])
 unfold r33_Right scriptV
 rw [r04_right _ h.conf, zbs]
 by_cases h0 : rightV s.Conf ≠ 0
 ·rw [if_pos h0, if_pos h0]; rfl
 ·rw [if_neg h0, if_neg h0]
  unfold r33_Right_0 r33_Right_1 r33_Right_2
  rw [LF, LI, LT]
  by_cases h1 : Fc s.Conf s.Faulty
  ·rw [if_neg (fun hh => (faulty_p _ _).1 hh h1), if_neg (not_not_intro h1)]
   rw [zbs, Sum.elim_inr]
   split
   ·rfl
   ·split
    ·rfl
    ·rw [zbs]
     by_cases h2 : ∃ i ∈ s.Images, 8000 < (i.length : Int)
     ·have h5 : ¬ ∀ i ∈ s.Images, (i.length : Int) ≤ 8000 := by obtain ⟨x, h5, h6⟩ := h2; exact fun hh => absurd (hh x h5) (by omega)
      rw [if_pos h2, if_pos h5]; rfl
     ·have h5 : ∀ i ∈ s.Images, (i.length : Int) ≤ 8000 := fun x hx => Int.not_lt.1 fun h9 => h2 ⟨x, hx, h9⟩
      rw [if_neg h2, if_neg (not_not_intro h5), Sum.elim_inr, zbs]
      by_cases h3 : firstE (s.Ticks.map (tickV s.Conf)) = 0
      ·rw [if_neg (not_not_intro h3), h3]; rfl
      ·rw [if_pos h3]; rfl
  ·rw [if_pos ((faulty_p _ _).2 h1), if_pos h1]
   rfl
def num (n : Int) : List UInt8 := 32 :: Lib.itoa n
def lineL (head : List UInt8) (l : List Int) : List UInt8 := head ++ l.flatMap num
def someT (head : List UInt8) (l : List Int) : List UInt8 := if l = [] then [] else lineL head l ++ [10]
def evT (head bytes : List UInt8) (l : List Int) : List UInt8 := lineL head l ++ 32 :: (word bytes ++ [10])
def sendT (s : GSend) : List UInt8 := evT [115, 101, 110, 100] s.Bytes [s.From, s.To, s.Delay]
def burstT (b : GBurst) : List UInt8 := evT [98, 117, 114, 115, 116] b.Image [b.Node]
def strayT (s : GSend) : List UInt8 := evT [115, 116, 114, 97, 121] s.Bytes [s.From, s.To, s.Delay]
def writeT (w : GWrite) : List UInt8 := evT [119, 114, 105, 116, 101] w.Text [w.Node]
def tickA (t : GTick) : List UInt8 := [116, 105, 99, 107, 10] ++ someT [117, 110, 105, 116, 115] t.Units ++ someT [100, 101, 108, 97, 121, 115] t.Delays
def tickT (t : GTick) : List UInt8 := tickA t ++ t.Sends.flatMap sendT ++ t.Bursts.flatMap burstT ++ t.Strays.flatMap strayT ++ t.Writes.flatMap writeT
def imageT (i : List UInt8) : List UInt8 := evT [105, 109, 97, 103, 101] i []
def confL (c : GConf) : List Int := [c.N, c.F, c.D, c.Period, c.Rate, c.Drift, c.Offset, c.Slot, c.Mod, c.Fresh]
def headA (s : GScript) : List UInt8 := lineL [99, 111, 110, 102] (confL s.Conf) ++ [10] ++ someT [116, 97, 98, 108, 101] s.Conf.Table ++ someT [102, 97, 117, 108, 116, 121] s.Faulty
def scriptT (s : GScript) : List UInt8 := headA s ++ s.Images.flatMap imageT ++ s.Ticks.flatMap tickT ++ [101, 110, 100, 10]
def D6 (l : List Int) : Prop := ∀ n ∈ l, 0 ≤ n ∧ n < 1000000
structure TG (t : GTick) : Prop where
 u : D6 t.Units
 d : D6 t.Delays
 s : ∀ x ∈ t.Sends, D6 [x.From, x.To, x.Delay]
 b : ∀ x ∈ t.Bursts, D6 [x.Node]
 y : ∀ x ∈ t.Strays, D6 [x.From, x.To, x.Delay]
 w : ∀ x ∈ t.Writes, D6 [x.Node]
structure ScG (s : GScript) : Prop where
 c : D6 (confL s.Conf)
 t : D6 s.Conf.Table
 f : D6 s.Faulty
 tt : ∀ x ∈ s.Ticks, TG x
 len : (scriptT s).length ≤ 1000000000
@[reducible] def W (t : List UInt8) : Wtr := Wtr.mk (intsOf t)
theorem ints_len (t : List UInt8) : (intsOf t).length = t.length := by simp [intsOf]
theorem word_ge (s : List UInt8) : 2 * s.length ≤ (word s).length := by
 unfold word
 split
 ·rename_i h; simp [h]
 ·rw [hx_len]; omega
theorem flat_at {α β : Type} {g : α → List β} {l : List α} {x : α} (h : x ∈ l) : (g x).length ≤ (l.flatMap g).length := by
 obtain ⟨a, b, rfl⟩ := List.append_of_mem h
 simp; omega
theorem wput (l t : List UInt8) (h : (t ++ l).length ≤ 1000000000) : lw_put (intsOf l) (W t) = some (W (t ++ l)) := by
 rw [List.length_append] at h
 rw [put_eq _ _ (by rw [lenMax_eq, ints_len, ints_len]; omega), ← ints_app]
theorem wput10 (t : List UInt8) (h : (t ++ [10]).length ≤ 1000000000) : lw_put [10] (W t) = some (W (t ++ [10])) := wput [10] t h
theorem wput32 (t : List UInt8) (h : (t ++ [32]).length ≤ 1000000000) : lw_put [32] (W t) = some (W (t ++ [32])) := wput [32] t h
theorem d6_i64 {n : Int} (h : 0 ≤ n ∧ n < 1000000) : I64 n := ⟨by omega, by omega⟩
theorem wnums (l : List Int) (t : List UInt8) (hd : D6 l) (h : (t ++ l.flatMap num).length ≤ 1000000000) : lw_nu_0 l (l.length : Int) 0 (W t) = some (W (t ++ l.flatMap num)) := by
 unfold lw_nu_0
 rw [List.length_append] at h
 have hl : l.length ≤ (l.flatMap num).length := by
  clear h hd
  induction l with
  | nil => simp
  | cons x l ih => rw [List.flatMap_cons, List.length_append, List.length_cons]; unfold num at ih ⊢; rw [List.length_cons]; omega
 have := loopO_rows (f := fun s : Int × Wtr => lw_nu_0_step l (l.length : Int) s.1 s.2) (fun o i => (i, W o)) W l (fun _ n => num n) 1000000000
  (fun k n o hk hn ho => by
    show lw_nu_0_step _ _ _ _ = _
    unfold lw_nu_0_step
    unfold num at ho
    rw [List.length_cons] at ho
    rw [if_pos (by omega), idx_get hn, zbs, wput32 _ (by rw [List.length_append]; simp; omega), zbs, Itoa_eq (d6_i64 (hd n (List.mem_of_getElem? hn))), zbs,
     if_pos (by rw [lenMax_eq, ints_len, ints_len, List.length_append]; simp; omega), ← ints_app, List.append_assoc, wrI rfl (by omega)]
    rfl)
  (fun o => by
    show lw_nu_0_step _ _ _ _ = _
    unfold lw_nu_0_step
    rw [if_neg (by omega)]) t (by rw [rows_flat]; omega)
 rw [rows_flat] at this
 exact this
theorem wnumbers (head : List UInt8) (l : List Int) (t : List UInt8) (hd : D6 l) (h : (t ++ lineL head l).length ≤ 1000000000) : lw_numbers head l (W t) = some (W (t ++ lineL head l)) := by
 unfold lw_numbers
 unfold lineL at h ⊢
 rw [← List.append_assoc] at h ⊢
 rw [if_pos (by rw [lenMax_eq, ints_len, ints_len]; simp only [List.length_append] at h; omega), ← ints_app, wnums l _ hd h]
 rfl
theorem wsome (head : List UInt8) (l : List Int) (t : List UInt8) (hd : D6 l) (h : (t ++ someT head l).length ≤ 1000000000) : lw_some head l (W t) = some (W (t ++ someT head l)) := by
 unfold lw_some
 unfold someT at h ⊢
 by_cases e : l = []
 ·rw [if_pos (by rw [e]; rfl), if_pos e, List.append_nil]
 ·rw [if_neg e] at h ⊢
  rw [← List.append_assoc] at h ⊢
  rw [if_neg (by have := List.length_pos_iff.2 e; omega), wnumbers head l t hd (by rw [List.length_append] at h; omega), zbs, wput10 _ h]
  rfl
theorem wsome1 (head : List UInt8) (l : List Int) (t : List UInt8) (hd : D6 l) (h : (t ++ someT head l).length ≤ 1000000000) : lw_some_v1 head l (W t) = some (W (t ++ someT head l)) := wsome head l t hd h
theorem wword (s t : List UInt8) (h : (t ++ word s).length ≤ 1000000000) : lw_word s (W t) = some (W (t ++ word s)) := by
 have hg := word_ge s
 rw [List.length_append] at h
 unfold lw_word
 by_cases e : s = []
 ·subst e
  rw [if_pos rfl, show lw_put [45] (W t) = some (W (t ++ [45])) from wput [45] t (by rw [List.length_append]; exact h), zbs, word0_eq [] _ (by rw [ints_len, List.length_append]; have : (word []).length = 1 := rfl; simp only [List.length_cons, List.length_nil]; omega)]
  simp [word, intsOf]
 ·rw [if_neg e, show lw_word_0a = lw_word_0 from rfl, word0_eq s _ (by rw [ints_len]; omega), zbs, ← ints_app, word, if_neg e]
theorem ev_len (head bytes : List UInt8) (l : List Int) : (evT head bytes l).length = (lineL head l).length + (word bytes).length + 2 := by
 unfold evT
 simp only [List.length_append, List.length_cons, List.length_nil]
 omega
theorem wevent (head bytes : List UInt8) (l : List Int) (t : List UInt8) (hd : D6 l) (h : (t ++ evT head bytes l).length ≤ 1000000000) : lw_event head bytes l (W t) = some (W (t ++ evT head bytes l)) := by
 rw [List.length_append, ev_len] at h
 unfold lw_event
 rw [wnumbers head l t hd (by rw [List.length_append]; omega), zbs, wput32 _ (by simp only [List.length_append, List.length_cons, List.length_nil]; omega), zbs,
  wword _ _ (by simp only [List.length_append, List.length_cons, List.length_nil]; omega), zbs, wput10 _ (by simp only [List.length_append, List.length_cons, List.length_nil]; omega), zbs]
 unfold evT
 simp only [List.append_assoc, List.cons_append, List.nil_append]
theorem flat_le {α : Type} {g : α → List UInt8} (hg : ∀ x, 1 ≤ (g x).length) : ∀ l : List α, l.length ≤ (l.flatMap g).length
 | [] => by simp
 | x :: l => by
   have := flat_le hg l
   have := hg x
   rw [List.flatMap_cons, List.length_append, List.length_cons]; omega
theorem evs_eq {α : Type} (f : Int × Wtr → Option ((Int × Wtr) ⊕ Wtr)) (l : List α) (g : α → List UInt8) (hg : ∀ x, 1 ≤ (g x).length)
 (h : ∀ (k : Nat) x o, k < l.length → k < 1000000000 → l[k]? = some x → (o ++ g x).length ≤ 1000000000 → f ((k : Int), W o) = some (.inl ((k : Int) + 1, W (o ++ g x))))
 (he : ∀ o, f ((l.length : Int), W o) = some (.inr (W o))) (t : List UInt8) (hl : (t ++ l.flatMap g).length ≤ 1000000000) : loopO f (0, W t) = some (W (t ++ l.flatMap g)) := by
 rw [List.length_append] at hl
 have hh := flat_le hg l
 have := loopO_rows (f := f) (fun o i => (i, W o)) W l (fun _ x => g x) 1000000000 (fun k x o hk hx ho => h k x o hk (by omega) hx (by rw [List.length_append]; exact ho)) he t (by rw [rows_flat]; exact hl)
 rw [rows_flat] at this
 exact this
theorem ev_pos (head bytes : List UInt8) (l : List Int) : 1 ≤ (evT head bytes l).length := by rw [ev_len]; omega
theorem wtick (t : GTick) (h : TG t) (o : List UInt8) (hl : (o ++ tickT t).length ≤ 1000000000) : lw_tick t (W o) = some (W (o ++ tickT t)) := by
 unfold tickT tickA at hl ⊢
 simp only [← List.append_assoc] at hl ⊢
 have hl4 := hl; rw [List.length_append] at hl
 have hl3 : ((((((o ++ [116, 105, 99, 107, 10]) ++ someT [117, 110, 105, 116, 115] t.Units) ++ someT [100, 101, 108, 97, 121, 115] t.Delays) ++ t.Sends.flatMap sendT) ++ t.Bursts.flatMap burstT) ++ t.Strays.flatMap strayT).length ≤ 1000000000 := by omega
 have hl := hl3; rw [List.length_append] at hl
 have hl2 : (((((o ++ [116, 105, 99, 107, 10]) ++ someT [117, 110, 105, 116, 115] t.Units) ++ someT [100, 101, 108, 97, 121, 115] t.Delays) ++ t.Sends.flatMap sendT) ++ t.Bursts.flatMap burstT).length ≤ 1000000000 := by omega
 have hl := hl2; rw [List.length_append] at hl
 have hl1 : ((((o ++ [116, 105, 99, 107, 10]) ++ someT [117, 110, 105, 116, 115] t.Units) ++ someT [100, 101, 108, 97, 121, 115] t.Delays) ++ t.Sends.flatMap sendT).length ≤ 1000000000 := by omega
 have hl := hl1; rw [List.length_append] at hl
 have hl0 : (((o ++ [116, 105, 99, 107, 10]) ++ someT [117, 110, 105, 116, 115] t.Units) ++ someT [100, 101, 108, 97, 121, 115] t.Delays).length ≤ 1000000000 := by omega
 have hl := hl0; rw [List.length_append] at hl
 have hlu : ((o ++ [116, 105, 99, 107, 10]) ++ someT [117, 110, 105, 116, 115] t.Units).length ≤ 1000000000 := by omega
 have hl := hlu; rw [List.length_append] at hl
 have hlh : (o ++ [116, 105, 99, 107, 10]).length ≤ 1000000000 := by omega
 have L0 := evs_eq (fun s : Int × Wtr => lw_tick_0_step t t.Sends (t.Sends.length : Int) s.1 s.2) t.Sends sendT (fun x => ev_pos _ _ _) (fun k x o hk hk2 hx ho => by
  show lw_tick_0_step _ _ _ _ _ = _
  unfold lw_tick_0_step
  rw [if_pos (by omega), idx_get hx, zbs, wevent _ _ _ _ (h.s x (List.mem_of_getElem? hx)) ho, zbs, wrI rfl (by omega)]; rfl) (fun o => by
  show lw_tick_0_step _ _ _ _ _ = _
  unfold lw_tick_0_step
  rw [if_neg (by omega)]) _ hl1
 have L1 := evs_eq (fun s : Int × Wtr => lw_tick_1_step t t.Bursts (t.Bursts.length : Int) s.1 s.2) t.Bursts burstT (fun x => ev_pos _ _ _) (fun k x o hk hk2 hx ho => by
  show lw_tick_1_step _ _ _ _ _ = _
  unfold lw_tick_1_step
  rw [if_pos (by omega), idx_get hx, zbs, wevent _ _ _ _ (h.b x (List.mem_of_getElem? hx)) ho, zbs, wrI rfl (by omega)]; rfl) (fun o => by
  show lw_tick_1_step _ _ _ _ _ = _
  unfold lw_tick_1_step
  rw [if_neg (by omega)]) _ hl2
 have L2 := evs_eq (fun s : Int × Wtr => lw_tick_2_step t t.Strays (t.Strays.length : Int) s.1 s.2) t.Strays strayT (fun x => ev_pos _ _ _) (fun k x o hk hk2 hx ho => by
  show lw_tick_2_step _ _ _ _ _ = _
  unfold lw_tick_2_step
  rw [if_pos (by omega), idx_get hx, zbs, wevent _ _ _ _ (h.y x (List.mem_of_getElem? hx)) ho, zbs, wrI rfl (by omega)]; rfl) (fun o => by
  show lw_tick_2_step _ _ _ _ _ = _
  unfold lw_tick_2_step
  rw [if_neg (by omega)]) _ hl3
 have L3 := evs_eq (fun s : Int × Wtr => lw_tick_3_step t.Writes (t.Writes.length : Int) s.1 s.2) t.Writes writeT (fun x => ev_pos _ _ _) (fun k x o hk hk2 hx ho => by
  show lw_tick_3_step _ _ _ _ = _
  unfold lw_tick_3_step
  rw [if_pos (by omega), idx_get hx, zbs, wevent _ _ _ _ (h.w x (List.mem_of_getElem? hx)) ho, zbs, wrI rfl (by omega)]; rfl) (fun o => by
  show lw_tick_3_step _ _ _ _ = _
  unfold lw_tick_3_step
  rw [if_neg (by omega)]) _ hl4
 rw [List.length_append] at hlh
 simp only [List.length_cons, List.length_nil] at hlh
 unfold lw_tick lw_tick_0 lw_tick_1 lw_tick_2 lw_tick_3
 rw [show lw_nu_v2 [116, 105, 99, 107] ([] : List Int) (W o) = some (W (o ++ [116, 105, 99, 107])) from wnumbers [116, 105, 99, 107] [] o (fun n hn => by cases hn) (by rw [List.length_append]; simp [lineL]; omega), zbs,
  wput10 _ (by simp only [List.length_append, List.length_cons, List.length_nil]; omega), zbs, show o ++ [116, 105, 99, 107] ++ [10] = o ++ [116, 105, 99, 107, 10] by simp,
  wsome1 _ _ _ h.u hlu, zbs, wsome1 _ _ _ h.d hl0, zbs, L0, zbs, L1, zbs, L2, zbs, L3, zbs]
theorem tick_pos (t : GTick) : 1 ≤ (tickT t).length := by
 unfold tickT tickA
 simp only [List.length_append, List.length_cons, List.length_nil]
 omega
theorem wend1 (X : List UInt8) (h : X.length + 4 ≤ 1000000000) : lw_nu_v2 [101, 110, 100] ([] : List Int) (W X) = some (W (X ++ [101, 110, 100])) :=
 wnumbers [101, 110, 100] [] X (fun n hn => by cases hn) (by simp only [lineL, List.flatMap_nil, List.append_nil, List.length_append, List.length_cons, List.length_nil]; omega)
theorem wend2 (X : List UInt8) (h : X.length + 4 ≤ 1000000000) : lw_put [10] (W (X ++ [101, 110, 100])) = some (W (X ++ [101, 110, 100, 10])) := by
 rw [wput10 _ (by simp only [List.length_append, List.length_cons, List.length_nil]; omega), List.append_assoc]
 rfl
theorem wscript (s : GScript) (h : ScG s) (hr : script_Right s = some 0) : lines_Write s = some (scriptT s, 0) := by
 have hl := h.len
 unfold scriptT headA at hl
 have hl2 := hl; rw [List.length_append] at hl2
 have hl3 : ((lineL [99, 111, 110, 102] (confL s.Conf) ++ [10] ++ someT [116, 97, 98, 108, 101] s.Conf.Table ++ someT [102, 97, 117, 108, 116, 121] s.Faulty ++ s.Images.flatMap imageT) ++ s.Ticks.flatMap tickT).length ≤ 1000000000 := by omega
 have hl4 := hl3; rw [List.length_append] at hl4
 have hl5 : ((lineL [99, 111, 110, 102] (confL s.Conf) ++ [10] ++ someT [116, 97, 98, 108, 101] s.Conf.Table ++ someT [102, 97, 117, 108, 116, 121] s.Faulty) ++ s.Images.flatMap imageT).length ≤ 1000000000 := by omega
 have hl6 := hl5; rw [List.length_append] at hl6
 have hl7 : ((lineL [99, 111, 110, 102] (confL s.Conf) ++ [10] ++ someT [116, 97, 98, 108, 101] s.Conf.Table) ++ someT [102, 97, 117, 108, 116, 121] s.Faulty).length ≤ 1000000000 := by omega
 have hl8 := hl7; rw [List.length_append] at hl8
 have hl9 : ((lineL [99, 111, 110, 102] (confL s.Conf) ++ [10]) ++ someT [116, 97, 98, 108, 101] s.Conf.Table).length ≤ 1000000000 := by omega
 have hl10 := hl9; rw [List.length_append] at hl10
 have hl11 : (([] : List UInt8) ++ someT [99, 111, 110, 102] (confL s.Conf)).length ≤ 1000000000 := by
  rw [List.nil_append, someT, if_neg (by simp [confL])]; omega
 have L0 := evs_eq (fun z : Int × Wtr => lines_Write_0_step s s.Images (s.Images.length : Int) s.Conf z.1 z.2) s.Images imageT (fun x => ev_pos _ _ _) (fun k x o hk hk2 hx ho => by
  show lines_Write_0_step _ _ _ _ _ _ = _
  unfold lines_Write_0_step
  rw [if_pos (by omega), idx_get hx, zbs, wevent _ _ _ _ (fun n hn => by cases hn) ho, zbs, wrI rfl (by omega)]; rfl) (fun o => by
  show lines_Write_0_step _ _ _ _ _ _ = _
  unfold lines_Write_0_step
  rw [if_neg (by omega)]) _ hl5
 have L1 := evs_eq (fun z : Int × Wtr => lines_Write_1_step s.Ticks (s.Ticks.length : Int) s.Conf z.1 z.2) s.Ticks tickT tick_pos (fun k x o hk hk2 hx ho => by
  show lines_Write_1_step _ _ _ _ _ = _
  unfold lines_Write_1_step
  rw [if_pos (by omega), idx_get hx, zbs, wtick _ (h.tt x (List.mem_of_getElem? hx)) _ ho, zbs, wrI rfl (by omega)]) (fun o => by
  show lines_Write_1_step _ _ _ _ _ = _
  unfold lines_Write_1_step
  rw [if_neg (by omega)]) _ hl3
 simp only [List.length_cons, List.length_nil] at hl2
 unfold lines_Write lines_Write_0 lines_Write_1
 rw [hr, zbs, if_neg (by simp)]
 have e1 := wsome [99, 111, 110, 102] (confL s.Conf) [] h.c hl11
 rw [List.nil_append, someT, if_neg (by simp [confL])] at e1
 rw [show lw_some ([99, 111, 110, 102] : List UInt8) [s.Conf.N, s.Conf.F, s.Conf.D, s.Conf.Period, s.Conf.Rate, s.Conf.Drift, s.Conf.Offset, s.Conf.Slot, s.Conf.Mod, s.Conf.Fresh] (Wtr.mk ([] : List Int)) = some (W (lineL [99, 111, 110, 102] (confL s.Conf) ++ [10])) from e1,
  zbs, wsome1 _ _ _ h.t hl9, zbs, wsome1 _ _ _ h.f hl7, zbs, L0, zbs, L1, zbs,
  wend1 _ (by omega), zbs, wend2 _ (by omega), zbs, bytes_ints]
 rfl
structure FewT (t : GTick) : Prop where
 u : (t.Units.length : Int) ≤ 100
 d : (t.Delays.length : Int) ≤ 400
 s : (t.Sends.length : Int) ≤ 100
 b : (t.Bursts.length : Int) ≤ 100
 y : (t.Strays.length : Int) ≤ 100
 w : (t.Writes.length : Int) ≤ 100
 bb : ∀ x ∈ t.Bursts, (x.Image.length : Int) ≤ 16000
structure FewS (s : GScript) : Prop where
 t : (s.Ticks.length : Int) ≤ 300
 c : (s.Conf.Table.length : Int) ≤ 100
 f : (s.Faulty.length : Int) ≤ 100
 i : (s.Images.length : Int) ≤ 100
 ii : ∀ x ∈ s.Images, (x.length : Int) ≤ 16000
 tt : ∀ t ∈ s.Ticks, FewT t
theorem few_eq (s : GScript) : ∃ b, r33_Few s 300 = some b ∧ (b = true → FewS s) := by
 classical
 unfold r33_Few
 by_cases h1 : 300 < (s.Ticks.length : Int)
 ·exact ⟨false, if_pos h1, fun h => by cases h⟩
 rw [if_neg h1]
 by_cases h2 : 100 < (s.Conf.Table.length : Int)
 ·exact ⟨false, if_pos h2, fun h => by cases h⟩
 rw [if_neg h2]
 by_cases h3 : 100 < (s.Faulty.length : Int)
 ·exact ⟨false, if_pos h3, fun h => by cases h⟩
 rw [if_neg h3]
 by_cases h4 : 100 < (s.Images.length : Int)
 ·exact ⟨false, if_pos h4, fun h => by cases h⟩
 rw [if_neg h4]
 have L0 := loopO_alls (f := fun z => r33_Few_0_step s z) s.Images (fun x => (x.length : Int) ≤ 16000) (fun k x hk hx => by
  simp only [r33_Few_0_step]
  rw [if_pos (by omega), idx_get hx, zbs, wrI rfl (by omega)]
  by_cases a : 16000 < (x.length : Int)
  ·rw [if_pos a, if_neg (by omega)]
  ·rw [if_neg a, if_pos (by omega)]) (by simp only [r33_Few_0_step]; rw [if_neg (by omega)])
 have L1 := fun (o : Int) (t : GTick) (ht : (t.Bursts.length : Int) ≤ 100) =>
  loopO_alls (f := fun z => r33_Few_1_step s o t.Bursts (t.Bursts.length : Int) t z) t.Bursts (fun x => (x.Image.length : Int) ≤ 16000) (fun k x hk hx => by
   simp only [r33_Few_1_step]
   rw [if_pos (by omega), idx_get hx, zbs, wrI rfl (by omega)]
   by_cases a : 16000 < (x.Image.length : Int)
   ·rw [if_pos a, if_neg (by omega)]
   ·rw [if_neg a, if_pos (by omega)]) (by simp only [r33_Few_1_step]; rw [if_neg (by omega)])
 have L2 := loopO_alls (f := fun z => r33_Few_2_step s z) s.Ticks FewT (fun k t hk ht => by
  simp only [r33_Few_2_step]
  rw [if_pos (by omega), idx_get ht, zbs]
  by_cases a1 : 100 < (t.Units.length : Int)
  ·rw [if_pos a1, if_neg (fun p => by have := p.u; omega)]
  rw [if_neg a1]
  by_cases a2 : 400 < (t.Delays.length : Int)
  ·rw [if_pos a2, if_neg (fun p => by have := p.d; omega)]
  rw [if_neg a2]
  by_cases a3 : 100 < (t.Sends.length : Int)
  ·rw [if_pos a3, if_neg (fun p => by have := p.s; omega)]
  rw [if_neg a3]
  by_cases a4 : 100 < (t.Bursts.length : Int)
  ·rw [if_pos a4, if_neg (fun p => by have := p.b; omega)]
  rw [if_neg a4]
  by_cases a5 : 100 < (t.Strays.length : Int)
  ·rw [if_pos a5, if_neg (fun p => by have := p.y; omega)]
  rw [if_neg a5]
  by_cases a6 : 100 < (t.Writes.length : Int)
  ·rw [if_pos a6, if_neg (fun p => by have := p.w; omega)]
  rw [if_neg a6]
  unfold r33_Few_1
  rw [L1 _ t (by omega), zbs, wrI rfl (by omega)]
  by_cases a7 : ∀ x ∈ t.Bursts, (x.Image.length : Int) ≤ 16000
  ·rw [if_pos a7, if_pos ⟨by omega, by omega, by omega, by omega, by omega, by omega, a7⟩]; rfl
  ·rw [if_neg a7, if_neg (fun p => a7 p.bb)]; rfl) (by simp only [r33_Few_2_step]; rw [if_neg (by omega)])
 unfold r33_Few_0 r33_Few_2
 rw [L0, zbs]
 by_cases a : ∀ x ∈ s.Images, (x.length : Int) ≤ 16000
 ·rw [if_pos a, Sum.elim_inr, L2, zbs]
  by_cases b : ∀ t ∈ s.Ticks, FewT t
  ·exact ⟨true, by rw [if_pos b]; rfl, fun _ => ⟨by omega, by omega, by omega, by omega, a, b⟩⟩
  ·exact ⟨false, by rw [if_neg b]; rfl, fun h => by cases h⟩
 ·exact ⟨false, by rw [if_neg a]; rfl, fun h => by cases h⟩
theorem few_sin {s : GScript} (h : FewS s) (hc : cf.CIn s.Conf) : SIn s := by
 have h1 := h.f
 have h2 := h.i
 have h3 := h.t
 exact ⟨hc, by omega, by omega, by omega, fun t ht => by
  have a := h.tt t ht
  have a1 := a.u
  have a2 := a.d
  have a3 := a.s
  have a4 := a.b
  have a5 := a.y
  have a6 := a.w
  exact ⟨by omega, by omega, by omega, by omega, by omega, by omega⟩⟩
theorem first_zero : ∀ {l : List Int}, firstE l = 0 → ∀ e ∈ l, e = 0
 | [], _, e, h => by cases h
 | x :: l, h, e, he => by
   unfold firstE at h
   by_cases hx : x ≠ 0
   ·rw [if_pos hx] at h; exact absurd h hx
   ·rw [if_neg hx] at h
    rcases List.mem_cons.1 he with rfl | he
    ·omega
    ·exact first_zero h e he
structure TR (c : GConf) (t : GTick) : Prop where
 u : Ns t.Units c.N
 d : Ns t.Delays (wr (c.N * c.N))
 s : ∀ x ∈ t.Sends, 0 ≤ x.Delay ∧ x.Delay ≤ 65535
 y : ∀ x ∈ t.Strays, 0 ≤ x.Delay ∧ x.Delay ≤ 65535
 f : ¬ Fl t
 n : Nm c t
 h : Sh t
 w : ∀ x ∈ t.Writes, (x.Text.length : Int) ≤ 16
theorem tr_of {c : GConf} {t : GTick} (h : tickV c t = 0) : TR c t := by
 unfold tickV at h
 split at h; · cases h
 split at h; · cases h
 split at h; · cases h
 split at h; · cases h
 split at h; · cases h
 split at h; · cases h
 split at h; · cases h
 split at h; · cases h
 rename_i a1 a2 a3 a4 a5 a6 a7 a8
 exact ⟨Decidable.not_not.1 a1, Decidable.not_not.1 a2, Decidable.not_not.1 a3, Decidable.not_not.1 a4, a5, Decidable.not_not.1 a6, Decidable.not_not.1 a7, Decidable.not_not.1 a8⟩
structure SR (s : GScript) : Prop where
 c : cf.Pl s.Conf
 f : Fc s.Conf s.Faulty
 i : (s.Images.length : Int) ≤ s.Conf.N
 t : s.Ticks.length ≤ 2000
 ii : ∀ x ∈ s.Images, (x.length : Int) ≤ 8000
 tt : ∀ t ∈ s.Ticks, TR s.Conf t
theorem sr_of {s : GScript} (h : scriptV s = 0) : SR s := by
 classical
 unfold scriptV at h
 split at h; · rename_i a; exact absurd h a
 split at h; · cases h
 split at h; · cases h
 split at h; · cases h
 split at h; · cases h
 rename_i a1 a2 a3 a4 a5
 refine ⟨?_, Classical.not_not.1 a2, by omega, by omega, Classical.not_not.1 a5, fun t ht => tr_of (first_zero h _ (List.mem_map_of_mem ht))⟩
 have a1 := Classical.not_not.1 a1
 unfold rightV at a1
 split at a1
 ·rename_i b; exact absurd a1 b
 ·rename_i b; exact pl_of (Classical.not_not.1 b)
theorem isn_d6 {c : GConf} {n : Int} (h : IsN c n) : 0 ≤ n ∧ n < 13 := by
 obtain ⟨h1, h2⟩ := h
 unfold clV at h2
 refine ⟨h1, ?_⟩
 split at h2
 ·omega
 ·split at h2 <;> omega
theorem line_len (head : List UInt8) {l : List Int} (h : D6 l) : (lineL head l).length ≤ head.length + 21 * l.length := by
 unfold lineL
 rw [List.length_append]
 have : (l.flatMap num).length ≤ 21 * l.length := by
  clear head
  induction l with
  | nil => simp
  | cons x l ih =>
    have := ih fun n hn => h n (List.mem_cons_of_mem _ hn)
    have l1 := itoa_len (d6_i64 (h x (by simp)))
    rw [List.flatMap_cons, List.length_append, List.length_cons, num, List.length_cons]
    omega
 omega
theorem some_len (head : List UInt8) {l : List Int} (h : D6 l) : (someT head l).length ≤ head.length + 21 * l.length + 1 := by
 have := line_len head h
 unfold someT
 split
 ·simp
 ·rw [List.length_append]; simp; omega
theorem flat_max {α : Type} {g : α → List UInt8} (B : Nat) : ∀ {l : List α}, (∀ x ∈ l, (g x).length ≤ B) → (l.flatMap g).length ≤ l.length * B
 | [], _ => by simp
 | x :: l, h => by
   have := flat_max B (l := l) fun y hy => h y (List.mem_cons_of_mem _ hy)
   have := h x (by simp)
   rw [List.flatMap_cons, List.length_append, List.length_cons, Nat.add_mul]
   omega
theorem d6_1 {a : Int} (h : 0 ≤ a ∧ a < 1000000) : D6 [a] := by
 intro n hn
 simp only [List.mem_cons, List.not_mem_nil, or_false] at hn
 subst hn; exact h
theorem d6_3 {a b c : Int} (h : 0 ≤ a ∧ a < 1000000) (h' : 0 ≤ b ∧ b < 1000000) (h'' : 0 ≤ c ∧ c < 1000000) : D6 [a, b, c] := by
 intro n hn
 simp only [List.mem_cons, List.not_mem_nil, or_false] at hn
 rcases hn with rfl | rfl | rfl <;> assumption
theorem tr_tg {c : GConf} {t : GTick} (h : TR c t) : TG t := by
 have k : ∀ {n : Int}, IsN c n → 0 ≤ n ∧ n < 1000000 := fun hn => by have := isn_d6 hn; omega
 have k2 : ∀ {n : Int}, 0 ≤ n ∧ n ≤ 65535 → 0 ≤ n ∧ n < 1000000 := fun hn => by omega
 obtain ⟨n1, n2, n3, n4⟩ := h.n
 exact ⟨fun n hn => k2 (h.u.2 n hn), fun n hn => k2 (h.d.2 n hn), fun x hx => d6_3 (k (n1 x hx).1) (k (n1 x hx).2) (k2 (h.s x hx)), fun x hx => d6_1 (k (n3 x hx)), fun x hx => d6_3 (k (n2 x hx).1) (k (n2 x hx).2) (k2 (h.y x hx)), fun x hx => d6_1 (k (n4 x hx))⟩
theorem ev_max (head bytes : List UInt8) {l : List Int} (h : D6 l) : (evT head bytes l).length ≤ head.length + 21 * l.length + 2 * bytes.length + 3 := by
 have := line_len head h
 have := word_len bytes
 rw [ev_len]
 omega
theorem tick_max {c : GConf} {t : GTick} (h : TR c t) (hn : 0 ≤ c.N ∧ c.N ≤ 13) : (tickT t).length ≤ 2600000 := by
 have g := tr_tg h
 have b := mulB (a := c.N) (b := c.N) (A := 13) (B := 13) hn.1 hn.2 hn.1 hn.2
 have u1 := some_len [117, 110, 105, 116, 115] g.u
 have u2 := some_len [100, 101, 108, 97, 121, 115] g.d
 have hu := h.u.1
 have hd := h.d.1
 rw [wrI (n := c.N * c.N) rfl (by omega)] at hd
 have hf := h.f
 unfold Fl at hf
 obtain ⟨h1, h2, h3⟩ := h.h
 have m1 := flat_max (g := sendT) 16100 (l := t.Sends) fun x hx => by
  have := ev_max [115, 101, 110, 100] x.Bytes (g.s x hx)
  have := h1 x hx
  unfold sendT
  simp only [List.length_cons, List.length_nil] at *
  omega
 have m2 := flat_max (g := burstT) 16100 (l := t.Bursts) fun x hx => by
  have := ev_max [98, 117, 114, 115, 116] x.Image (g.b x hx)
  have := h3 x hx
  unfold burstT
  simp only [List.length_cons, List.length_nil] at *
  omega
 have m3 := flat_max (g := strayT) 16100 (l := t.Strays) fun x hx => by
  have := ev_max [115, 116, 114, 97, 121] x.Bytes (g.y x hx)
  have := h2 x hx
  unfold strayT
  simp only [List.length_cons, List.length_nil] at *
  omega
 have m4 := flat_max (g := writeT) 16100 (l := t.Writes) fun x hx => by
  have := ev_max [119, 114, 105, 116, 101] x.Text (g.w x hx)
  have := h.w x hx
  unfold writeT
  simp only [List.length_cons, List.length_nil] at *
  omega
 have p1 : t.Sends.length * 16100 ≤ 40 * 16100 := Nat.mul_le_mul_right _ (by omega)
 have p2 : t.Bursts.length * 16100 ≤ 40 * 16100 := Nat.mul_le_mul_right _ (by omega)
 have p3 : t.Strays.length * 16100 ≤ 40 * 16100 := Nat.mul_le_mul_right _ (by omega)
 have p4 : t.Writes.length * 16100 ≤ 40 * 16100 := Nat.mul_le_mul_right _ (by omega)
 unfold tickT tickA
 simp only [List.length_append, List.length_cons, List.length_nil] at u1 u2 ⊢
 omega
structure SD (s : GScript) : Prop where
 c : D6 (confL s.Conf)
 t : D6 s.Conf.Table
 f : D6 s.Faulty
 tt : ∀ x ∈ s.Ticks, TG x
theorem sr_sd {s : GScript} (h : SR s) : SD s := by
 obtain ⟨⟨n1, n2, n3, n4, n5⟩, ⟨l1, l2⟩, ⟨p1, p2, r1, r2, d1, d2, o1, o2, s1, s2, m1, m2, f1, f2⟩, ⟨t1, t2, t3, t4⟩⟩ := h.c
 have h0 := mulB (a := s.Conf.F + 1) (b := s.Conf.D) (A := 5) (B := 4) (by omega) (by omega) (by omega) (by omega)
 have e0 : 6 * (s.Conf.F + 1) * s.Conf.D = 6 * ((s.Conf.F + 1) * s.Conf.D) := by rw [Int.mul_assoc]
 have hc : D6 (confL s.Conf) := by
  intro n hn
  simp only [confL, List.mem_cons, List.not_mem_nil, or_false] at hn
  rcases hn with rfl | rfl | rfl | rfl | rfl | rfl | rfl | rfl | rfl | rfl <;> omega
 have ht : D6 s.Conf.Table := fun n hn => by have := t3 n hn; omega
 have hfy : D6 s.Faulty := fun n hn => by
  obtain ⟨k, hk, e⟩ := List.getElem_of_mem hn
  have := isn_d6 (h.f k n (List.getElem?_eq_some_iff.2 ⟨hk, e⟩)).1
  omega
 exact ⟨hc, ht, hfy, fun t ht => tr_tg (h.tt t ht)⟩
theorem sr_scg {s : GScript} (h : SR s) (hf : s.Ticks.length ≤ 300) (hy : s.Faulty.length ≤ 100) : ScG s := by
 obtain ⟨hc, ht, hfy, htt⟩ := sr_sd h
 refine ⟨hc, ht, hfy, htt, ?_⟩
 obtain ⟨⟨n1, n2, -⟩, -, -, ⟨-, t2, -⟩⟩ := h.c
 have q1 := line_len [99, 111, 110, 102] hc
 have q2 := some_len [116, 97, 98, 108, 101] ht
 have q3 := some_len [102, 97, 117, 108, 116, 121] hfy
 have q4 := flat_max (g := imageT) 16100 (l := s.Images) fun x hx => by
  have := ev_max [105, 109, 97, 103, 101] x (l := []) (fun n hn => by cases hn)
  have := h.ii x hx
  unfold imageT
  simp only [List.length_cons, List.length_nil] at *
  omega
 have q5 := flat_max (g := tickT) 2600000 (l := s.Ticks) fun x hx => tick_max (h.tt x hx) (by omega)
 have hi := h.i
 have z1 : s.Images.length * 16100 ≤ 13 * 16100 := Nat.mul_le_mul_right _ (by omega)
 have z2 : s.Ticks.length * 2600000 ≤ 300 * 2600000 := Nat.mul_le_mul_right _ (by omega)
 unfold scriptT headA
 simp only [List.length_append, List.length_cons, List.length_nil, confL] at q1 q2 q3 ⊢
 omega
theorem in_cin {s : GScript} (h : GScript.In s) : cf.CIn s.Conf := by
 obtain ⟨h1, h2, h3, h4, h5, h6, h7, h8, h9, h10, ⟨h11, h12⟩, -⟩ := h
 unfold SL at h11
 exact ⟨h1, h2, h3, h4, h5, h6, by omega, h12⟩
theorem writes_eq {s : GScript} (h : SIn s) (hf : FewS s) : lines_Write s = some (if scriptV s = 0 then (scriptT s, 0) else ([], scriptV s)) := by
 have hr := script_right s h
 by_cases e : scriptV s = 0
 ·rw [if_pos e]
  rw [e] at hr
  have h1 := hf.t
  have h2 := hf.f
  exact wscript s (sr_scg (sr_of e) (by omega) (by omega)) hr
 ·rw [if_neg e]
  unfold lines_Write
  rw [hr, zbs, if_pos e]
def spl (c : UInt8) : List UInt8 → List UInt8 × List (List UInt8)
 | [] => ([], [])
 | b :: r => if b = c then ([], (spl c r).1 :: (spl c r).2) else (b :: (spl c r).1, (spl c r).2)
theorem idx_cons (c b : UInt8) (r : List UInt8) : Lib.index (b :: r) [c] = if b = c then 0 else if Lib.index r [c] = -1 then -1 else Lib.index r [c] + 1 := by
 have e : List.isPrefixOf [c] (b :: r) = (c == b) := by simp [List.isPrefixOf]
 rw [Lib.index, e]
 by_cases h : b = c
 ·subst h; simp
 ·rw [if_neg h, if_neg (by simp [Ne.symm h])]
  simp
theorem spl_idx (c : UInt8) : ∀ s : List UInt8, ((spl c s).2 = [] ∧ Lib.index s [c] = -1 ∧ (spl c s).1 = s) ∨
 ∃ r, (spl c s).2 = (spl c r).1 :: (spl c r).2 ∧ s = (spl c s).1 ++ c :: r ∧ Lib.index s [c] = ((spl c s).1.length : Int)
 | [] => .inl ⟨rfl, rfl, rfl⟩
 | b :: r => by
   rw [idx_cons, spl]
   by_cases h : b = c
   ·subst h
    rw [if_pos rfl, if_pos rfl]
    exact .inr ⟨r, rfl, rfl, rfl⟩
   ·rw [if_neg h, if_neg h]
    rcases spl_idx c r with ⟨h1, h2, h3⟩ | ⟨q, h1, h2, h3⟩
    ·exact .inl ⟨h1, by rw [h2]; rfl, by simp only; rw [h3]⟩
    ·refine .inr ⟨q, h1, by simp only [List.cons_append]; rw [← h2], ?_⟩
     rw [h3, if_neg (by omega)]
     simp
theorem cut_spl (c : UInt8) (s : List UInt8) : (Lib.cut s [c]).1 = (spl c s).1 := by
 unfold Lib.cut
 rcases spl_idx c s with ⟨h1, h2, h3⟩ | ⟨q, h1, h2, h3⟩
 ·rw [h2, if_neg (by omega), h3]
 ·rw [h3, if_pos (by omega)]
  simp only [Int.toNat_natCast]
  conv => lhs; arg 2; rw [h2]
  exact List.take_left' rfl
theorem count_spl (c : UInt8) : ∀ (k : Nat) (s : List UInt8), s.length < k → Lib.countFrom [c] k s = (spl c s).2.length
 | 0, s, h => absurd h (by omega)
 | k + 1, s, h => by
   unfold Lib.countFrom
   rcases spl_idx c s with ⟨h1, h2, h3⟩ | ⟨q, h1, h2, h3⟩
   ·rw [h2, h1]; rfl
   ·have hl := congrArg List.length h2
    simp only [List.length_append, List.length_cons] at hl
    have hd : s.drop ((Lib.index s [c]).toNat + [c].length) = q := by
     rw [h3, Int.toNat_natCast]
     conv => lhs; arg 2; rw [h2]
     simp
    rw [hd, count_spl c k q (by omega), h1, if_neg (by rw [h3]; simp only [beq_iff_eq]; omega), List.length_cons]
    omega
theorem split_spl (c : UInt8) (s : List UInt8) : Lib.split s [c] = (spl c s).1 :: (spl c s).2 := by
 have : ∀ (k : Nat) (s : List UInt8), (spl c s).2.length = k → Lib.splitK [c] 0 k s = (spl c s).1 :: (spl c s).2 := by
  intro k
  induction k with
  | zero =>
    intro s h
    rcases spl_idx c s with ⟨h1, h2, h3⟩ | ⟨q, h1, h2, h3⟩
    ·rw [h1, h3]; rfl
    ·rw [h1] at h; cases h
  | succ k ih =>
    intro s h
    unfold Lib.splitK
    rcases spl_idx c s with ⟨h1, h2, h3⟩ | ⟨q, h1, h2, h3⟩
    ·rw [h1] at h; cases h
    ·have hd : s.drop ((Lib.index s [c]).toNat + [c].length) = q := by
      rw [h3, Int.toNat_natCast]
      conv => lhs; arg 2; rw [h2]
      simp
     have ht : s.take ((Lib.index s [c]).toNat + 0) = (spl c s).1 := by
      rw [h3, Int.toNat_natCast, Nat.add_zero]
      conv => lhs; arg 2; rw [h2]
      exact List.take_left' rfl
     rw [h1, List.length_cons] at h
     rw [if_neg (by rw [h3]; simp only [beq_iff_eq]; omega), hd, ht, ih q (by omega), h1]
 unfold Lib.split
 have e : Lib.count s [c] = (spl c s).2.length := count_spl c _ s (by omega)
 rw [e]
 exact this _ s rfl
theorem spl_join (c : UInt8) : ∀ s : List UInt8, s = (spl c s).1 ++ (spl c s).2.flatMap (c :: ·)
 | [] => rfl
 | b :: r => by
   have := spl_join c r
   rw [spl]
   by_cases h : b = c
   ·subst h
    rw [if_pos rfl]
    simp only [List.flatMap_cons, List.nil_append, List.cons_append]
    rw [← this]
   ·rw [if_neg h]
    simp only [List.cons_append]
    rw [← this]
theorem spl_no {c : UInt8} : ∀ {w : List UInt8}, c ∉ w → spl c w = (w, [])
 | [], _ => rfl
 | b :: r, h => by
   rw [List.mem_cons, not_or] at h
   rw [spl, if_neg (Ne.symm h.1), spl_no h.2]
theorem spl_app {c : UInt8} : ∀ {w : List UInt8} (r : List UInt8), c ∉ w → spl c (w ++ c :: r) = (w, (spl c r).1 :: (spl c r).2)
 | [], r, _ => by rw [List.nil_append, spl, if_pos rfl]
 | b :: w, r, h => by
   rw [List.mem_cons, not_or] at h
   rw [List.cons_append, spl, if_neg (Ne.symm h.1), spl_app r h.2]
theorem spl_of {c : UInt8} : ∀ {ws : List (List UInt8)} {w : List UInt8}, c ∉ w → (∀ x ∈ ws, c ∉ x) → spl c (w ++ ws.flatMap (c :: ·)) = (w, ws)
 | [], w, h, _ => by rw [List.flatMap_nil, List.append_nil, spl_no h]
 | x :: ws, w, h, hs => by
   rw [List.flatMap_cons, List.cons_append, spl_app _ h, spl_of (hs x (by simp)) fun y hy => hs y (List.mem_cons_of_mem _ hy)]
theorem spl_len (c : UInt8) (s : List UInt8) : (spl c s).1.length ≤ s.length ∧ (spl c s).2.length ≤ s.length ∧ ∀ x ∈ (spl c s).2, x.length ≤ s.length := by
 have h := congrArg List.length (spl_join c s)
 rw [List.length_append] at h
 have h2 := flat_le (g := fun x : List UInt8 => c :: x) (fun x => by simp) (spl c s).2
 refine ⟨by omega, by omega, fun x hx => ?_⟩
 have := flat_at (g := fun x : List UInt8 => c :: x) hx
 simp only [List.length_cons] at this
 omega
theorem numF_app : ∀ (a : List UInt8) (d : UInt8) (m : Nat), numF (a ++ [d]) m = (numF a m).bind fun x => if dg d then some (10 * x + (d.toNat - 48)) else none
 | [], d, m => rfl
 | b :: a, d, m => by
   rw [List.cons_append, numF, numF]
   split
   ·exact numF_app a d _
   ·rfl
theorem numF_lt : ∀ (a : List UInt8) (m k n : Nat), m < 10 ^ k → numF a m = some n → n < 10 ^ (k + a.length)
 | [], m, k, n, h, e => by cases e; simpa using h
 | b :: a, m, k, n, h, e => by
   rw [numF] at e
   split at e
   ·rename_i hd
    have h1 := hd.1
    have h2 := hd.2
    have := numF_lt a _ (k + 1) n (by rw [Nat.pow_succ]; omega) e
    rw [List.length_cons, show k + (a.length + 1) = k + 1 + a.length by omega]
    exact this
   ·cases e
theorem numF_dig : ∀ (u : Nat), numF (Lib.decDigits u) 0 = some u := by
 intro u
 induction u using Nat.strongRecOn with
 | _ u ih =>
   have one : ∀ d, d < 10 → dg (UInt8.ofNat (48 + d)) ∧ (UInt8.ofNat (48 + d)).toNat = 48 + d := by
    intro d hd
    have : (UInt8.ofNat (48 + d)).toNat = 48 + d := by rw [UInt8.toNat_ofNat']; omega
    exact ⟨⟨by omega, by omega⟩, this⟩
   by_cases h : u < 10
   ·rw [Lib.decDigits, dif_pos h]
    simp only [numF]
    rw [if_pos (one u h).1, (one u h).2]
    congr 1; omega
   ·rw [dd h, numF_app, ih (u / 10) (by omega), zbs, if_pos (one _ (by omega)).1, (one _ (by omega)).2]
    congr 1; omega
theorem dig_head : ∀ (u : Nat), 1 ≤ u → (Lib.decDigits u)[0]? ≠ some 48 := by
 intro u
 induction u using Nat.strongRecOn with
 | _ u ih =>
   intro hu
   by_cases h : u < 10
   ·rw [Lib.decDigits, dif_pos h]
    intro e
    have e := congrArg (fun z : Option UInt8 => (z.getD 0).toNat) e
    simp only [List.getElem?_cons_zero, Option.getD_some, UInt8.toNat_ofNat'] at e
    have : (48 : UInt8).toNat = 48 := rfl
    omega
   ·rw [dd h, List.getElem?_append_left (dig_pos _)]
    exact ih (u / 10) (by omega) (by omega)
theorem dig_le : ∀ (u : Nat), u < 1000000 → (Lib.decDigits u).length ≤ 6 := fun u h => dig_len 5 u (by omega)
theorem numV_dig {n : Nat} (h : n < 1000000) : numV (Lib.decDigits n) = some n := by
 unfold numV
 have h1 := dig_pos n
 have h2 := dig_le n h
 rw [if_neg, numF_dig]
 rintro (h3 | h3 | ⟨h3, h4⟩)
 ·omega
 ·omega
 ·by_cases h0 : n = 0
  ·subst h0; rw [Lib.decDigits, dif_pos (by omega)] at h3; simp at h3
  ·exact dig_head n (by omega) h4
theorem num_of : ∀ (k : Nat) (a : List UInt8) (n : Nat), a.length = k → a ≠ [] → a[0]? ≠ some 48 → numF a 0 = some n → a = Lib.decDigits n ∧ 1 ≤ n := by
 intro k
 induction k with
 | zero => intro a n hk ha; exact absurd (List.length_eq_zero_iff.1 hk) ha
 | succ k ih =>
   intro a n hk ha h0 hn
   obtain ⟨b, d, rfl⟩ : ∃ b d, a = b ++ [d] := ⟨a.dropLast, a.getLast ha, (List.dropLast_concat_getLast ha).symm⟩
   rw [numF_app] at hn
   rw [List.length_append, List.length_singleton] at hk
   cases hb : numF b 0 with
   | none => rw [hb] at hn; cases hn
   | some m =>
     rw [hb, zbs] at hn
     split at hn
     ·rename_i hd
      have h1 := hd.1
      have h2 := hd.2
      cases hn
      have ed : UInt8.ofNat (48 + (d.toNat - 48)) = d := by rw [show 48 + (d.toNat - 48) = d.toNat by omega]; simp
      by_cases hbe : b = []
      ·subst hbe
       cases hb
       have hd48 : d.toNat ≠ 48 := fun e => h0 (by
        rw [List.nil_append, List.getElem?_cons_zero]
        congr 1
        exact UInt8.toNat_inj.1 e)
       refine ⟨?_, by omega⟩
       rw [Lib.decDigits, dif_pos (by omega), Nat.mul_zero, Nat.zero_add, ed]
       rfl
      ·have hp := List.length_pos_iff.2 hbe
       rw [List.getElem?_append_left hp] at h0
       obtain ⟨e1, e2⟩ := ih b m (by omega) hbe h0 hb
       refine ⟨?_, by omega⟩
       rw [dd (by omega), show (10 * m + (d.toNat - 48)) / 10 = m by omega, show (10 * m + (d.toNat - 48)) % 10 = d.toNat - 48 by omega, ed, ← e1]
     ·cases hn
theorem numV_of {s : List UInt8} {n : Nat} (h : numV s = some n) : s = Lib.decDigits n ∧ n < 1000000 := by
 unfold numV at h
 split at h
 ·cases h
 ·rename_i hc
  have lt := numF_lt s 0 0 n (by simp) h
  have l6 : s.length ≤ 6 := by omega
  have : 10 ^ (0 + s.length) ≤ 10 ^ 6 := Nat.pow_le_pow_right (by omega) (by omega)
  refine ⟨?_, by omega⟩
  by_cases h1 : 1 < s.length
  ·exact (num_of _ s n rfl (fun e => hc (.inl (by rw [e]; rfl))) (fun e => hc (.inr (.inr ⟨h1, e⟩))) h).1
  ·match s, h, hc, h1 with
   | [], _, hc, _ => exact absurd (.inl rfl) hc
   | [d], h, _, _ =>
     simp only [numF] at h
     split at h
     ·rename_i hd
      have h1 := hd.1
      have h2 := hd.2
      cases h
      rw [Lib.decDigits, dif_pos (by omega), Nat.mul_zero, Nat.zero_add, show 48 + (d.toNat - 48) = d.toNat by omega]
      simp
     ·cases h
   | _ :: _ :: _, _, _, h1 => exact absurd (by simp) h1
def intsV : List (List UInt8) → Option (List Int)
 | [] => some []
 | w :: ws => match numV w with
   | some n => (intsV ws).map ((n : Int) :: ·)
   | none => none
theorem intsV_of : ∀ {ws : List (List UInt8)} {ns : List Int}, intsV ws = some ns → ws = ns.map Lib.itoa ∧ D6 ns
 | [], ns, h => by cases h; exact ⟨rfl, fun n hn => by cases hn⟩
 | w :: ws, ns, h => by
   unfold intsV at h
   cases hw : numV w with
   | none => rw [hw] at h; cases h
   | some n =>
     rw [hw] at h
     cases hr : intsV ws with
     | none => rw [hr] at h; cases h
     | some l =>
       rw [hr] at h
       cases h
       obtain ⟨e1, e2⟩ := intsV_of hr
       obtain ⟨f1, f2⟩ := numV_of hw
       refine ⟨?_, fun x hx => ?_⟩
       ·rw [List.map_cons, Lib.itoa_nonneg, ← f1, ← e1]
       ·rcases List.mem_cons.1 hx with rfl | hx
        ·omega
        ·exact e2 x hx
theorem intsV_map : ∀ {ns : List Int}, D6 ns → intsV (ns.map Lib.itoa) = some ns
 | [], _ => rfl
 | n :: ns, h => by
   obtain ⟨m, rfl⟩ : ∃ m : Nat, n = (m : Int) := ⟨n.toNat, by have := h n (by simp); omega⟩
   have := h (m : Int) (by simp)
   rw [List.map_cons, intsV, Lib.itoa_nonneg, numV_dig (by omega)]
   simp only
   rw [intsV_map fun x hx => h x (List.mem_cons_of_mem _ hx)]
   rfl
theorem ints_eqV (l : List (List UInt8)) (hl : l.length ≤ 1000000000) : lines_ints l = some (match intsV l with | some ns => (ns, true) | none => ([], false)) := by
 have : ∀ (j k : Nat) (out : List Int), k + j = l.length → out.length = k → ∃ z, loopO (fun s : List Int × Int => lines_ints_0_step l (l.length : Int) s.1 s.2) (out, (k : Int)) = some (match intsV (l.drop k) with | some ns => .inr (out ++ ns) | none => .inl ([], false, z)) := by
  intro j
  induction j with
  | zero =>
    intro k out hk ho
    obtain rfl : k = l.length := by omega
    refine ⟨[], ?_⟩
    have e0 : lines_ints_0_step l (l.length : Int) out (l.length : Int) = some (.inr (.inr out)) := by unfold lines_ints_0_step; rw [if_neg (by omega)]
    rw [loopO_inr (f := fun s : List Int × Int => lines_ints_0_step l (l.length : Int) s.1 s.2) (s := (out, (l.length : Int))) e0, List.drop_length]
    simp [intsV]
  | succ j ih =>
    intro k out hk ho
    have hlt : k < l.length := by omega
    rw [List.drop_eq_getElem_cons hlt]
    have hx := zge hlt
    unfold intsV
    cases hn : numV l[k] with
    | none =>
      refine ⟨out, loopO_inr ?_⟩
      show lines_ints_0_step _ _ _ _ = _
      unfold lines_ints_0_step
      rw [if_pos (by omega), idx_get hx, zbs, number_eq, hn]
      rfl
    | some n =>
      obtain ⟨z, hz⟩ := ih (k + 1) (out ++ [(n : Int)]) (by omega) (by rw [List.length_append, ho]; rfl)
      refine ⟨z, ?_⟩
      have e0 : lines_ints_0_step l (l.length : Int) out (k : Int) = some (.inl (out ++ [(n : Int)], (k : Int) + 1)) := by
       unfold lines_ints_0_step
       rw [if_pos (by omega), idx_get hx, zbs, number_eq, hn]
       simp only [zbs, Bool.not_true]
       rw [if_neg (by decide), if_pos (by rw [lenMax_eq]; simp; omega), wrI rfl (by omega)]
      rw [loopO_inl (f := fun s : List Int × Int => lines_ints_0_step l (l.length : Int) s.1 s.2) (s := (out, (k : Int))) e0, show ((k : Int) + 1) = ((k + 1 : Nat) : Int) by omega, hz]
      cases intsV (l.drop (k + 1)) with
      | none => rfl
      | some ns => simp
 obtain ⟨z, hz⟩ := this l.length 0 [] (by omega) rfl
 unfold lines_ints lines_ints_0
 rw [show ((0 : Nat) : Int) = 0 from rfl, List.drop_zero] at hz
 rw [hz]
 cases intsV l <;> rfl
structure LOK (L : List (List UInt8)) : Prop where
 n : L.length ≤ 1000000000
 l : ∀ x ∈ L, x.length ≤ 1000000000
@[reducible] def rd (L : List (List UInt8)) (a : Nat) (s : GScript) : Rdr := Rdr.mk L (a : Int) s
def kd : List (List UInt8) → List UInt8
 | [] => []
 | l :: _ => (spl 32 l).1
def lsAt (head : List UInt8) : List (List UInt8) → Option (Option (List Int))
 | [] => none
 | l :: _ => if (spl 32 l).1 = head then some ((intsV (spl 32 l).2).bind fun ns => if ns = [] then none else some ns) else none
def evAt (head : List UInt8) (n : Nat) : List (List UInt8) → Option (Option (List Int × List UInt8))
 | [] => none
 | l :: _ => if (spl 32 l).1 = head then some (if (spl 32 l).2.length = n + 1 then (intsV ((spl 32 l).2.take n)).bind fun ns => (bytesV ((spl 32 l).2.getD n [])).map fun b => (ns, b) else none) else none
def pL (head : List UInt8) (r : List (List UInt8)) : Option (List Int × List (List UInt8)) :=
 match lsAt head r with
 | none => some ([], r)
 | some none => none
 | some (some ns) => some (ns, r.drop 1)
def pE (head : List UInt8) (n : Nat) : List (List UInt8) → Option (List (List Int × List UInt8) × List (List UInt8))
 | [] => some ([], [])
 | l :: r => match evAt head n (l :: r) with
   | none => some ([], l :: r)
   | some none => none
   | some (some e) => (pE head n r).map fun x => (e :: x.1, x.2)
theorem kind_eq {L : List (List UInt8)} (hL : LOK L) (a : Nat) (s : GScript) : lr_kind (rd L a s) = some (kd (L.drop a), rd L a s) := by
 unfold lr_kind
 by_cases h : L.length ≤ a
 ·rw [if_pos (show (L.length : Int) ≤ (a : Int) by omega), List.drop_eq_nil_of_le h]
  rfl
 ·have hlt : a < L.length := by omega
  have := hL.l _ (List.getElem_mem hlt)
  rw [if_neg (show ¬ (L.length : Int) ≤ (a : Int) by omega), idx_get (zge hlt), zbs, List.drop_eq_getElem_cons hlt]
  unfold strings_Cut
  rw [if_pos (by omega), zbs, cut_spl]
  rfl
theorem words_eq {L : List (List UInt8)} (hL : LOK L) {a : Nat} (hlt : a < L.length) (s : GScript) : lr_words (rd L a s) = some ((spl 32 L[a]).2, rd L a s) := by
 have := hL.l _ (List.getElem_mem hlt)
 unfold lr_words
 rw [idx_get (zge hlt), zbs]
 unfold strings_Split
 rw [if_pos (by simp; omega), zbs, split_spl, if_pos (by simp only [List.length_cons]; omega)]
 rfl
noncomputable def lsK {R : Type} (head : List UInt8) (o : Rdr) (stop bad : Rdr → R) (k : List Int → Rdr → R) : Option R :=
 (lr_kind o).bind fun r0 =>
 if r0.1 ≠ head then some (stop r0.2)
 else
  (lr_words r0.2).bind fun r2 =>
  (lines_ints r2.1).bind fun r3 =>
  if (!r3.2) = true then some (bad r2.2)
  else
   if (List.length r3.1 : Int) = 0 then some (bad r2.2)
   else some (k r3.1 r2.2)
theorem lsK_eq {R : Type} {head : List UInt8} (hh : head ≠ []) {L : List (List UInt8)} (hL : LOK L) (a : Nat) (s : GScript) (stop bad : Rdr → R) (k : List Int → Rdr → R) :
 lsK head (rd L a s) stop bad k = some (match lsAt head (L.drop a) with | none => stop (rd L a s) | some none => bad (rd L a s) | some (some ns) => k ns (rd L a s)) := by
 unfold lsK
 rw [kind_eq hL, zbs]
 by_cases hlt : a < L.length
 ·have hw := (spl_len 32 L[a]).2
  have hl := hL.l _ (List.getElem_mem hlt)
  rw [List.drop_eq_getElem_cons hlt, kd, lsAt]
  by_cases h : (spl 32 L[a]).1 = head
  ·rw [if_neg (not_not_intro h), if_pos h, words_eq hL hlt, zbs]
   dsimp only
   rw [ints_eqV _ (by omega), zbs]
   cases intsV (spl 32 L[a]).2 with
   | none => rfl
   | some ns =>
     simp only [zbs, Bool.not_true]
     rw [if_neg (by decide)]
     by_cases hn : ns = []
     ·subst hn; rfl
     ·rw [if_neg hn, if_neg (by have := List.length_pos_iff.2 hn; omega)]
  ·rw [if_neg h, if_pos h]
 ·rw [List.drop_eq_nil_of_le (by omega), kd, lsAt, if_pos (Ne.symm hh)]
theorem ls_lt {head : List UInt8} {L : List (List UInt8)} {a : Nat} {x : Option (List Int)} (h : lsAt head (L.drop a) = some x) : a < L.length := by
 by_cases hlt : a < L.length
 ·exact hlt
 ·rw [List.drop_eq_nil_of_le (by omega)] at h; cases h
theorem ev_lt {head : List UInt8} {n : Nat} {L : List (List UInt8)} {a : Nat} {x : Option (List Int × List UInt8)} (h : evAt head n (L.drop a) = some x) : a < L.length := by
 by_cases hlt : a < L.length
 ·exact hlt
 ·rw [List.drop_eq_nil_of_le (by omega)] at h; cases h
theorem up_eq {L : List (List UInt8)} (hL : LOK L) {a : Nat} (h : a < L.length) : wr ((a : Int) + 1) = ((a + 1 : Nat) : Int) := by
 have := hL.n
 rw [wrI rfl (by omega)]; omega
theorem list_eq {R : Type} {head : List UInt8} (hh : head ≠ []) {L : List (List UInt8)} (hL : LOK L) {a : Nat} (ha : a ≤ L.length) (s : GScript) (stop bad : Rdr → R) (k : List Int → Rdr → R) (fin : List Int → Nat → R)
 (h0 : stop (rd L a s) = fin [] a) (h1 : ∀ ns, a < L.length → k ns (rd L a s) = fin ns (a + 1)) :
 (∀ ns r, pL head (L.drop a) = some (ns, r) → ∃ a' : Nat, a ≤ a' ∧ a' ≤ L.length ∧ L.drop a' = r ∧ lsK head (rd L a s) stop bad k = some (fin ns a')) ∧ (pL head (L.drop a) = none → lsK head (rd L a s) stop bad k = some (bad (rd L a s))) := by
 rw [lsK_eq hh hL]
 unfold pL
 cases h : lsAt head (L.drop a) with
 | none => exact ⟨fun ns r e => by cases e; exact ⟨a, Nat.le_refl _, ha, rfl, by rw [← h0]⟩, fun e => by cases e⟩
 | some x =>
   have hlt := ls_lt h
   cases x with
   | none => exact ⟨fun ns r e => (by cases e), fun _ => rfl⟩
   | some ns => exact ⟨fun ns' r e => by cases e; exact ⟨a + 1, by omega, hlt, by rw [List.drop_drop], by rw [← h1 ns hlt]⟩, fun e => by cases e⟩
noncomputable def evK {R : Type} (head : List UInt8) (n : Int) (o : Rdr) (stop bad : Rdr → R) (k : List Int → List UInt8 → Rdr → Option R) : Option R :=
 (lr_kind o).bind fun r0 =>
 if r0.1 = head then
  (lr_words r0.2).bind fun r2 =>
  if (List.length r2.1 : Int) ≠ (wr (n + 1)) then some (bad r2.2)
  else
   if 0 ≤ n ∧ n ≤ ((List.length r2.1) : Nat) then
    (lines_ints (List.take (Int.toNat n) r2.1)).bind fun r3 =>
    (idx? r2.1 n).bind fun z0 =>
    (lines_word z0).bind fun r4 =>
    if (!r3.2) = true then some (bad r2.2)
    else
     if (!r4.2) = true then some (bad r2.2)
     else k r3.1 r4.1 r2.2
   else none
 else some (stop r0.2)
theorem evK_eq {R : Type} {head : List UInt8} (hh : head ≠ []) {n : Nat} (hn : n ≤ 10) {L : List (List UInt8)} (hL : LOK L) (a : Nat) (s : GScript) (stop bad : Rdr → R) (k : List Int → List UInt8 → Rdr → Option R) :
 evK head (n : Int) (rd L a s) stop bad k = match evAt head n (L.drop a) with | none => some (stop (rd L a s)) | some none => some (bad (rd L a s)) | some (some e) => k e.1 e.2 (rd L a s) := by
 unfold evK
 rw [kind_eq hL, zbs]
 by_cases hlt : a < L.length
 ·obtain ⟨-, hw, hx⟩ := spl_len 32 L[a]
  have hl := hL.l _ (List.getElem_mem hlt)
  rw [List.drop_eq_getElem_cons hlt, kd, evAt]
  by_cases h : (spl 32 L[a]).1 = head
  ·rw [if_pos h, if_pos h, words_eq hL hlt, zbs, wrI (n := (n : Int) + 1) rfl (by omega)]
   dsimp only
   by_cases hc : (spl 32 L[a]).2.length = n + 1
   ·have hg : (spl 32 L[a]).2[n]? = some (spl 32 L[a]).2[n] := zge (by omega)
    have hd : (spl 32 L[a]).2.getD n [] = (spl 32 L[a]).2[n] := by rw [List.getD_eq_getElem?_getD, hg]; rfl
    obtain ⟨j, hj⟩ := word_eq (spl 32 L[a]).2[n] (by have := hx _ (List.getElem_mem (by omega : n < (spl 32 L[a]).2.length)); omega)
    rw [if_neg (by omega), if_pos hc, if_pos (by omega), Int.toNat_natCast, ints_eqV _ (by rw [List.length_take]; omega), zbs, idx_get hg, zbs, hj, zbs, hd]
    cases intsV ((spl 32 L[a]).2.take n) with
    | none => rfl
    | some ns =>
      cases bytesV (spl 32 L[a]).2[n] with
      | none => rfl
      | some b => rfl
   ·rw [if_pos (by omega), if_neg hc]
  ·rw [if_neg h, if_neg h]
 ·rw [List.drop_eq_nil_of_le (by omega), kd, evAt, if_neg (Ne.symm hh)]
theorem intsV_len : ∀ {ws : List (List UInt8)} {ns : List Int}, intsV ws = some ns → ns.length = ws.length := fun h => by
 rw [(intsV_of h).1, List.length_map]
theorem ev_n {head : List UInt8} {n : Nat} {r : List (List UInt8)} {e : List Int × List UInt8} (h : evAt head n r = some (some e)) : e.1.length = n := by
 cases r with
 | nil => cases h
 | cons l r =>
   rw [evAt] at h
   split at h
   ·split at h
    ·rename_i hc
     replace h := Option.some.inj h
     cases hi : intsV ((spl 32 l).2.take n) with
     | none => rw [hi] at h; cases h
     | some ns =>
       rw [hi, zbs] at h
       cases hb : bytesV ((spl 32 l).2.getD n []) with
       | none => rw [hb] at h; cases h
       | some b =>
         rw [hb] at h
         cases h
         rw [intsV_len hi, List.length_take]; omega
    ·cases Option.some.inj h
   ·cases h
theorem ev_loop {σ τ β γ : Type} (f : σ → Option (σ ⊕ (β ⊕ γ))) (st : Nat → τ → σ) (bad : Nat → τ → β) (fin : Nat → τ → γ) (add : τ → List Int × List UInt8 → τ) (ok : Nat → τ → Prop) (L : List (List UInt8)) (head : List UInt8) (n : Nat)
 (h : ∀ (a : Nat) t, a ≤ L.length → ok a t → (evAt head n (L.drop a) = none → f (st a t) = some (.inr (.inr (fin a t)))) ∧ (evAt head n (L.drop a) = some none → f (st a t) = some (.inr (.inl (bad a t)))) ∧
   ∀ e, evAt head n (L.drop a) = some (some e) → f (st a t) = some (.inl (st (a + 1) (add t e))) ∧ ok (a + 1) (add t e)) :
 ∀ (m a : Nat) t, a + m = L.length → ok a t → (∀ es r, pE head n (L.drop a) = some (es, r) → ∃ a' : Nat, a ≤ a' ∧ a' ≤ L.length ∧ L.drop a' = r ∧ ok a' (es.foldl add t) ∧ loopO f (st a t) = some (.inr (fin a' (es.foldl add t)))) ∧
   (pE head n (L.drop a) = none → ∃ (a' : Nat) (t' : τ), a' ≤ L.length ∧ loopO f (st a t) = some (.inl (bad a' t')))
 | 0, a, t, hm, hk => by
   have e := List.drop_eq_nil_of_le (show L.length ≤ a by omega)
   have h0 := (h a t (by omega) hk).1 (by rw [e]; rfl)
   rw [e]
   exact ⟨fun es r hp => by cases hp; exact ⟨a, Nat.le_refl _, by omega, e, hk, loopO_inr h0⟩, fun hp => by cases hp⟩
 | m + 1, a, t, hm, hk => by
   have hlt : a < L.length := by omega
   obtain ⟨h0, h1, h2⟩ := h a t (by omega) hk
   rw [List.drop_eq_getElem_cons hlt] at h0 h1 h2 ⊢
   unfold pE
   cases he : evAt head n (L[a] :: L.drop (a + 1)) with
   | none => exact ⟨fun es r hp => by cases hp; exact ⟨a, Nat.le_refl _, by omega, List.drop_eq_getElem_cons hlt, hk, loopO_inr (h0 he)⟩, fun hp => by cases hp⟩
   | some x =>
     cases x with
     | none => exact ⟨fun es r hp => (by cases hp), fun _ => ⟨a, t, by omega, loopO_inr (h1 he)⟩⟩
     | some e =>
       obtain ⟨h3, h4⟩ := h2 e he
       obtain ⟨i1, i2⟩ := ev_loop f st bad fin add ok L head n h m (a + 1) (add t e) (by omega) h4
       rw [loopO_inl h3]
       simp only
       cases hp : pE head n (L.drop (a + 1)) with
       | none => exact ⟨fun es r hp => (by cases hp), fun _ => i2 hp⟩
       | some x =>
         refine ⟨fun es r hq => ?_, fun hq => by cases hq⟩
         cases hq
         obtain ⟨a', q1, q2⟩ := i1 x.1 x.2 hp
         exact ⟨a', by omega, q2⟩
theorem units_eq {L : List (List UInt8)} (hL : LOK L) {a : Nat} (ha : a ≤ L.length) (s : GScript) (t : GTick) (ht : t.Units = []) :
 (∀ ns r, pL [117, 110, 105, 116, 115] (L.drop a) = some (ns, r) → ∃ a' : Nat, a ≤ a' ∧ a' ≤ L.length ∧ L.drop a' = r ∧ lr_list_v3 [117, 110, 105, 116, 115] (rd L a s) t = some (true, rd L a' s, GTick.mk ns t.Delays t.Sends t.Bursts t.Strays t.Writes)) ∧
 (pL [117, 110, 105, 116, 115] (L.drop a) = none → lr_list_v3 [117, 110, 105, 116, 115] (rd L a s) t = some (false, rd L a s, t)) :=
 list_eq (by decide) hL ha s (fun o => (true, o, t)) (fun o => (false, o, t)) (fun ns o => (true, Rdr.mk o.f_lines (wr (o.f_at + 1)) o.f_s, GTick.mk ns t.Delays t.Sends t.Bursts t.Strays t.Writes)) (fun ns a' => (true, rd L a' s, GTick.mk ns t.Delays t.Sends t.Bursts t.Strays t.Writes)) (by cases t; cases ht; rfl) (fun ns h => by simp only; rw [up_eq hL h])
theorem delays_eq {L : List (List UInt8)} (hL : LOK L) {a : Nat} (ha : a ≤ L.length) (s : GScript) (t : GTick) (ht : t.Delays = []) :
 (∀ ns r, pL [100, 101, 108, 97, 121, 115] (L.drop a) = some (ns, r) → ∃ a' : Nat, a ≤ a' ∧ a' ≤ L.length ∧ L.drop a' = r ∧ lr_list_v4 [100, 101, 108, 97, 121, 115] (rd L a s) t = some (true, rd L a' s, GTick.mk t.Units ns t.Sends t.Bursts t.Strays t.Writes)) ∧
 (pL [100, 101, 108, 97, 121, 115] (L.drop a) = none → lr_list_v4 [100, 101, 108, 97, 121, 115] (rd L a s) t = some (false, rd L a s, t)) :=
 list_eq (by decide) hL ha s (fun o => (true, o, t)) (fun o => (false, o, t)) (fun ns o => (true, Rdr.mk o.f_lines (wr (o.f_at + 1)) o.f_s, GTick.mk t.Units ns t.Sends t.Bursts t.Strays t.Writes)) (fun ns a' => (true, rd L a' s, GTick.mk t.Units ns t.Sends t.Bursts t.Strays t.Writes)) (by cases t; cases ht; rfl) (fun ns h => by simp only; rw [up_eq hL h])
theorem conf_eq {L : List (List UInt8)} (hL : LOK L) {a : Nat} (ha : a ≤ L.length) (s : GScript) :
 (∀ ns r, pL [99, 111, 110, 102] (L.drop a) = some (ns, r) → ∃ a' : Nat, a ≤ a' ∧ a' ≤ L.length ∧ L.drop a' = r ∧ lr_list [99, 111, 110, 102] (rd L a s) [] = some (true, rd L a' s, ns)) ∧
 (pL [99, 111, 110, 102] (L.drop a) = none → lr_list [99, 111, 110, 102] (rd L a s) [] = some (false, rd L a s, [])) :=
 list_eq (by decide) hL ha s (fun o => (true, o, [])) (fun o => (false, o, [])) (fun ns o => (true, Rdr.mk o.f_lines (wr (o.f_at + 1)) o.f_s, ns)) (fun ns a' => (true, rd L a' s, ns)) rfl (fun ns h => by simp only; rw [up_eq hL h])
@[reducible] def tabl (s : GScript) (l : List Int) : GScript := GScript.mk (GConf.mk s.Conf.N s.Conf.F s.Conf.D s.Conf.Period s.Conf.Rate s.Conf.Drift s.Conf.Offset s.Conf.Slot s.Conf.Mod s.Conf.Fresh l) s.Faulty s.Images s.Ticks
theorem tab_eq {L : List (List UInt8)} (hL : LOK L) {a : Nat} (ha : a ≤ L.length) (s : GScript) (hs : s.Conf.Table = []) :
 (∀ ns r, pL [116, 97, 98, 108, 101] (L.drop a) = some (ns, r) → ∃ a' : Nat, a ≤ a' ∧ a' ≤ L.length ∧ L.drop a' = r ∧ lr_list_v1 [116, 97, 98, 108, 101] (rd L a s) = some (true, rd L a' (tabl s ns))) ∧
 (pL [116, 97, 98, 108, 101] (L.drop a) = none → lr_list_v1 [116, 97, 98, 108, 101] (rd L a s) = some (false, rd L a s)) :=
 list_eq (by decide) hL ha s (fun o => (true, o)) (fun o => (false, o)) (fun ns o => (true, Rdr.mk o.f_lines (wr (o.f_at + 1)) (tabl o.f_s ns))) (fun ns a' => (true, rd L a' (tabl s ns))) (by obtain ⟨⟨_, _, _, _, _, _, _, _, _, _, q⟩, _, _, _⟩ := s; cases hs; rfl) (fun ns h => by simp only; rw [up_eq hL h])
theorem fau_eq {L : List (List UInt8)} (hL : LOK L) {a : Nat} (ha : a ≤ L.length) (s : GScript) (hs : s.Faulty = []) :
 (∀ ns r, pL [102, 97, 117, 108, 116, 121] (L.drop a) = some (ns, r) → ∃ a' : Nat, a ≤ a' ∧ a' ≤ L.length ∧ L.drop a' = r ∧ lr_list_v2 [102, 97, 117, 108, 116, 121] (rd L a s) = some (true, rd L a' (GScript.mk s.Conf ns s.Images s.Ticks))) ∧
 (pL [102, 97, 117, 108, 116, 121] (L.drop a) = none → lr_list_v2 [102, 97, 117, 108, 116, 121] (rd L a s) = some (false, rd L a s)) :=
 list_eq (by decide) hL ha s (fun o => (true, o)) (fun o => (false, o)) (fun ns o => (true, Rdr.mk o.f_lines (wr (o.f_at + 1)) (GScript.mk o.f_s.Conf ns o.f_s.Images o.f_s.Ticks))) (fun ns a' => (true, rd L a' (GScript.mk s.Conf ns s.Images s.Ticks))) (by cases s; cases hs; rfl) (fun ns h => by simp only; rw [up_eq hL h])
def mkS (e : List Int × List UInt8) : GSend := GSend.mk (e.1.getD 0 0) (e.1.getD 1 0) (e.1.getD 2 0) e.2
def mkB (e : List Int × List UInt8) : GBurst := GBurst.mk (e.1.getD 0 0) e.2
def mkW (e : List Int × List UInt8) : GWrite := GWrite.mk (e.1.getD 0 0) e.2
theorem fold_app {τ α ε : Type} (add : τ → ε → τ) (get : τ → List α) (put : τ → List α → τ) (g : ε → α) (h1 : ∀ t e, add t e = put t (get t ++ [g e])) (h2 : ∀ t l, get (put t l) = l) (h3 : ∀ t l l', put (put t l) l' = put t l') (h4 : ∀ t, put t (get t) = t) :
 ∀ (es : List ε) t, es.foldl add t = put t (get t ++ es.map g)
 | [], t => by rw [List.map_nil, List.append_nil, h4]; rfl
 | e :: es, t => by
   rw [List.foldl_cons, fold_app add get put g h1 h2 h3 h4 es, h1, h2, h3, List.map_cons, List.append_assoc]
   rfl
theorem evt_eq {α : Type} (head : List UInt8) (hh : head ≠ []) (n : Nat) (hn : n ≤ 10) (get : GTick → List α) (put : GTick → List α → GTick) (g : List Int × List UInt8 → α) (hd : List Int → List UInt8 → GTick → Option GTick)
 (h2 : ∀ t l, get (put t l) = l) (h3 : ∀ t l l', put (put t l) l' = put t l') (h4 : ∀ t, put t (get t) = t)
 (hk : ∀ (e : List Int × List UInt8) t, e.1.length = n → (get t).length ≤ 1000000000 → hd e.1 e.2 t = some (put t (get t ++ [g e]))) {L : List (List UInt8)} (hL : LOK L) {a : Nat} (ha : a ≤ L.length) (s : GScript) (t : GTick) (ht : get t = []) :
 (∀ es r, pE head n (L.drop a) = some (es, r) → ∃ a' : Nat, a ≤ a' ∧ a' ≤ L.length ∧ L.drop a' = r ∧
   loopO (fun z : Rdr × GTick => evK head (n : Int) z.1 (fun o => .inr (.inr (o, z.2))) (fun o => .inr (.inl (false, o, z.2))) fun l b o => (hd l b z.2).bind fun r5 => (some (.inl (Rdr.mk o.f_lines (wr (o.f_at + 1)) o.f_s, r5)) : Option ((Rdr × GTick) ⊕ ((Bool × Rdr × GTick) ⊕ (Rdr × GTick))))) (rd L a s, t)
    = some (.inr (rd L a' s, put t (es.map g)))) ∧
 (pE head n (L.drop a) = none → ∃ (a' : Nat) (t' : GTick), a' ≤ L.length ∧
   loopO (fun z : Rdr × GTick => evK head (n : Int) z.1 (fun o => .inr (.inr (o, z.2))) (fun o => .inr (.inl (false, o, z.2))) fun l b o => (hd l b z.2).bind fun r5 => (some (.inl (Rdr.mk o.f_lines (wr (o.f_at + 1)) o.f_s, r5)) : Option ((Rdr × GTick) ⊕ ((Bool × Rdr × GTick) ⊕ (Rdr × GTick))))) (rd L a s, t)
    = some (.inl (false, rd L a' s, t'))) := by
 have H := ev_loop (fun z : Rdr × GTick => evK head (n : Int) z.1 (fun o => .inr (.inr (o, z.2))) (fun o => .inr (.inl (false, o, z.2))) fun l b o => (hd l b z.2).bind fun r5 => (some (.inl (Rdr.mk o.f_lines (wr (o.f_at + 1)) o.f_s, r5)) : Option ((Rdr × GTick) ⊕ ((Bool × Rdr × GTick) ⊕ (Rdr × GTick)))))
  (fun a t => (rd L a s, t)) (fun a t => (false, rd L a s, t)) (fun a t => (rd L a s, t)) (fun t e => put t (get t ++ [g e])) (fun a t => (get t).length ≤ a) L head n (fun a t ha hok => by
    have hl := hL.n
    have e0 := evK_eq (R := (Rdr × GTick) ⊕ ((Bool × Rdr × GTick) ⊕ (Rdr × GTick))) hh hn hL a s (fun o => .inr (.inr (o, t))) (fun o => .inr (.inl (false, o, t))) (fun l b o => (hd l b t).bind fun r5 => some (.inl (Rdr.mk o.f_lines (wr (o.f_at + 1)) o.f_s, r5)))
    refine ⟨fun h => ?_, fun h => ?_, fun e h => ⟨?_, ?_⟩⟩
    ·rw [h] at e0; exact e0
    ·rw [h] at e0; exact e0
    ·rw [h] at e0
     refine e0.trans ?_
     dsimp only
     rw [hk e t (ev_n h) (by omega), zbs, up_eq hL (ev_lt h)]
    ·show (get (put t (get t ++ [g e]))).length ≤ a + 1
     rw [h2, List.length_append, List.length_singleton]; omega) (L.length - a) a t (by omega) (by rw [ht]; simp)
 refine ⟨fun es r hp => ?_, H.2⟩
 obtain ⟨a', q1, q2, q3, q4, q5⟩ := H.1 es r hp
 refine ⟨a', q1, q2, q3, q5.trans ?_⟩
 rw [fold_app _ get put g (fun t e => rfl) h2 h3 h4, ht, List.nil_append]
theorem get3 {e : List Int × List UInt8} (h : e.1.length = 3) : ∃ x y z, e.1 = [x, y, z] := by
 match e.1, h with
 | [x, y, z], _ => exact ⟨x, y, z, rfl⟩
theorem get1 {e : List Int × List UInt8} (h : e.1.length = 1) : ∃ x, e.1 = [x] := by
 match e.1, h with
 | [x], _ => exact ⟨x, rfl⟩
theorem evs_out {L : List (List UInt8)} {a : Nat} {s : GScript} {p : Option (List (List Int × List UInt8) × List (List UInt8))} {u : List (List Int × List UInt8) → GTick} {x : Option ((Bool × Rdr × GTick) ⊕ (Rdr × GTick))}
 (h : (∀ es r, p = some (es, r) → ∃ a' : Nat, a ≤ a' ∧ a' ≤ L.length ∧ L.drop a' = r ∧ x = some (.inr (rd L a' s, u es))) ∧ (p = none → ∃ (a' : Nat) (t' : GTick), a' ≤ L.length ∧ x = some (.inl (false, rd L a' s, t')))) :
 (∀ es r, p = some (es, r) → ∃ a' : Nat, a ≤ a' ∧ a' ≤ L.length ∧ L.drop a' = r ∧ (x.bind fun r6 => Sum.elim (fun r7 => some (r7.1, r7.2.1, r7.2.2)) (fun r8 => some (true, r8.1, r8.2)) r6) = some (true, rd L a' s, u es)) ∧
 (p = none → ∃ (a' : Nat) (t' : GTick), a' ≤ L.length ∧ (x.bind fun r6 => Sum.elim (fun r7 => some (r7.1, r7.2.1, r7.2.2)) (fun r8 => some (true, r8.1, r8.2)) r6) = some (false, rd L a' s, t')) := by
 refine ⟨fun es r hp => ?_, fun hp => ?_⟩
 ·obtain ⟨a', h1, h2, h3, rfl⟩ := h.1 es r hp
  exact ⟨a', h1, h2, h3, rfl⟩
 ·obtain ⟨a', t', h1, rfl⟩ := h.2 hp
  exact ⟨a', t', h1, rfl⟩
theorem sends_eq {L : List (List UInt8)} (hL : LOK L) {a : Nat} (ha : a ≤ L.length) (s : GScript) (t : GTick) (ht : t.Sends = []) :
 (∀ es r, pE [115, 101, 110, 100] 3 (L.drop a) = some (es, r) → ∃ a' : Nat, a ≤ a' ∧ a' ≤ L.length ∧ L.drop a' = r ∧ lr_ev_v1 [115, 101, 110, 100] 3 (rd L a s) t = some (true, rd L a' s, GTick.mk t.Units t.Delays (es.map mkS) t.Bursts t.Strays t.Writes)) ∧
 (pE [115, 101, 110, 100] 3 (L.drop a) = none → ∃ (a' : Nat) (t' : GTick), a' ≤ L.length ∧ lr_ev_v1 [115, 101, 110, 100] 3 (rd L a s) t = some (false, rd L a' s, t')) :=
 evs_out (evt_eq [115, 101, 110, 100] (by decide) 3 (by decide) GTick.Sends (fun t l => GTick.mk t.Units t.Delays l t.Bursts t.Strays t.Writes) mkS lr_tick_1_1 (fun _ _ => rfl) (fun _ _ _ => rfl) (fun _ => rfl) (fun e t he hl => by
  obtain ⟨x, y, z, h⟩ := get3 he
  unfold lr_tick_1_1 mkS
  rw [h]
  rw [show idx? [x, y, z] 0 = some x from rfl, show idx? [x, y, z] 1 = some y from rfl, show idx? [x, y, z] 2 = some z from rfl]
  simp only [zbs]
  rw [if_pos (by rw [lenMax_eq]; simp; omega)]
  rfl) hL ha s t ht)
theorem strays_eq {L : List (List UInt8)} (hL : LOK L) {a : Nat} (ha : a ≤ L.length) (s : GScript) (t : GTick) (ht : t.Strays = []) :
 (∀ es r, pE [115, 116, 114, 97, 121] 3 (L.drop a) = some (es, r) → ∃ a' : Nat, a ≤ a' ∧ a' ≤ L.length ∧ L.drop a' = r ∧ lr_ev_v3 [115, 116, 114, 97, 121] 3 (rd L a s) t = some (true, rd L a' s, GTick.mk t.Units t.Delays t.Sends t.Bursts (es.map mkS) t.Writes)) ∧
 (pE [115, 116, 114, 97, 121] 3 (L.drop a) = none → ∃ (a' : Nat) (t' : GTick), a' ≤ L.length ∧ lr_ev_v3 [115, 116, 114, 97, 121] 3 (rd L a s) t = some (false, rd L a' s, t')) :=
 evs_out (evt_eq [115, 116, 114, 97, 121] (by decide) 3 (by decide) GTick.Strays (fun t l => GTick.mk t.Units t.Delays t.Sends t.Bursts l t.Writes) mkS lr_tick_1_1_v1 (fun _ _ => rfl) (fun _ _ _ => rfl) (fun _ => rfl) (fun e t he hl => by
  obtain ⟨x, y, z, h⟩ := get3 he
  unfold lr_tick_1_1_v1 mkS
  rw [h]
  rw [show idx? [x, y, z] 0 = some x from rfl, show idx? [x, y, z] 1 = some y from rfl, show idx? [x, y, z] 2 = some z from rfl]
  simp only [zbs]
  rw [if_pos (by rw [lenMax_eq]; simp; omega)]
  rfl) hL ha s t ht)
theorem bursts_eq {L : List (List UInt8)} (hL : LOK L) {a : Nat} (ha : a ≤ L.length) (s : GScript) (t : GTick) (ht : t.Bursts = []) :
 (∀ es r, pE [98, 117, 114, 115, 116] 1 (L.drop a) = some (es, r) → ∃ a' : Nat, a ≤ a' ∧ a' ≤ L.length ∧ L.drop a' = r ∧ lr_ev_v2 [98, 117, 114, 115, 116] 1 (rd L a s) t = some (true, rd L a' s, GTick.mk t.Units t.Delays t.Sends (es.map mkB) t.Strays t.Writes)) ∧
 (pE [98, 117, 114, 115, 116] 1 (L.drop a) = none → ∃ (a' : Nat) (t' : GTick), a' ≤ L.length ∧ lr_ev_v2 [98, 117, 114, 115, 116] 1 (rd L a s) t = some (false, rd L a' s, t')) :=
 evs_out (evt_eq [98, 117, 114, 115, 116] (by decide) 1 (by decide) GTick.Bursts (fun t l => GTick.mk t.Units t.Delays t.Sends l t.Strays t.Writes) mkB lr_tick_2 (fun _ _ => rfl) (fun _ _ _ => rfl) (fun _ => rfl) (fun e t he hl => by
  obtain ⟨x, h⟩ := get1 he
  unfold lr_tick_2 mkB
  rw [h]
  rw [show idx? [x] 0 = some x from rfl]
  simp only [zbs]
  rw [if_pos (by rw [lenMax_eq]; simp; omega)]
  rfl) hL ha s t ht)
theorem writes_ev {L : List (List UInt8)} (hL : LOK L) {a : Nat} (ha : a ≤ L.length) (s : GScript) (t : GTick) (ht : t.Writes = []) :
 (∀ es r, pE [119, 114, 105, 116, 101] 1 (L.drop a) = some (es, r) → ∃ a' : Nat, a ≤ a' ∧ a' ≤ L.length ∧ L.drop a' = r ∧ lr_ev_v4 [119, 114, 105, 116, 101] 1 (rd L a s) t = some (true, rd L a' s, GTick.mk t.Units t.Delays t.Sends t.Bursts t.Strays (es.map mkW))) ∧
 (pE [119, 114, 105, 116, 101] 1 (L.drop a) = none → ∃ (a' : Nat) (t' : GTick), a' ≤ L.length ∧ lr_ev_v4 [119, 114, 105, 116, 101] 1 (rd L a s) t = some (false, rd L a' s, t')) :=
 evs_out (evt_eq [119, 114, 105, 116, 101] (by decide) 1 (by decide) GTick.Writes (fun t l => GTick.mk t.Units t.Delays t.Sends t.Bursts t.Strays l) mkW lr_tick_3 (fun _ _ => rfl) (fun _ _ _ => rfl) (fun _ => rfl) (fun e t he hl => by
  obtain ⟨x, h⟩ := get1 he
  unfold lr_tick_3 mkW
  rw [h]
  rw [show idx? [x] 0 = some x from rfl]
  simp only [zbs]
  rw [if_pos (by rw [lenMax_eq]; simp; omega)]
  rfl) hL ha s t ht)
theorem ls_none {head : List UInt8} {r : List (List UInt8)} (h : kd r ≠ head) : lsAt head r = none := by
 cases r with
 | nil => rfl
 | cons l r => exact if_neg h
theorem ev_none {head : List UInt8} {n : Nat} {r : List (List UInt8)} (h : kd r ≠ head) : evAt head n r = none := by
 cases r with
 | nil => rfl
 | cons l r => exact if_neg h
theorem pL_none {head : List UInt8} {r : List (List UInt8)} (h : kd r ≠ head) : pL head r = some ([], r) := by
 unfold pL
 rw [ls_none h]
theorem pE_none {head : List UInt8} {n : Nat} {r : List (List UInt8)} (h : kd r ≠ head) : pE head n r = some ([], r) := by
 cases r with
 | nil => rfl
 | cons l r => rw [pE, ev_none h]
def pT (r : List (List UInt8)) : Option (GTick × List (List UInt8)) :=
 (pL [117, 110, 105, 116, 115] r).bind fun u => (pL [100, 101, 108, 97, 121, 115] u.2).bind fun d => (pE [115, 101, 110, 100] 3 d.2).bind fun s => (pE [98, 117, 114, 115, 116] 1 s.2).bind fun b =>
 (pE [115, 116, 114, 97, 121] 3 b.2).bind fun y => (pE [119, 114, 105, 116, 101] 1 y.2).bind fun w => some (GTick.mk u.1 d.1 (s.1.map mkS) (b.1.map mkB) (y.1.map mkS) (w.1.map mkW), w.2)
noncomputable def tfin (b : Bool) (o : Rdr) (t : GTick) : Option (Bool × Rdr) :=
 if List.length o.f_s.Ticks + List.length [t] ≤ lenMax then
  some (b, (Rdr.mk o.f_lines o.f_at (GScript.mk o.f_s.Conf o.f_s.Faulty o.f_s.Images (o.f_s.Ticks ++ [t]))))
 else none
noncomputable def tl4 (o : Rdr) (t : GTick) : Option (Bool × Rdr) := (lr_ev_v4 [119, 114, 105, 116, 101] 1 o t).bind fun r => tfin r.1 r.2.1 r.2.2
noncomputable def tl3 (o : Rdr) (t : GTick) : Option (Bool × Rdr) := (lr_ev_v3 [115, 116, 114, 97, 121] 3 o t).bind fun r => if r.1 = true then tl4 r.2.1 r.2.2 else tfin false r.2.1 r.2.2
noncomputable def tl2 (o : Rdr) (t : GTick) : Option (Bool × Rdr) := (lr_ev_v2 [98, 117, 114, 115, 116] 1 o t).bind fun r => if r.1 = true then tl3 r.2.1 r.2.2 else tfin false r.2.1 r.2.2
noncomputable def tl1 (o : Rdr) (t : GTick) : Option (Bool × Rdr) := (lr_ev_v1 [115, 101, 110, 100] 3 o t).bind fun r => if r.1 = true then tl2 r.2.1 r.2.2 else tfin false r.2.1 r.2.2
noncomputable def tld (o : Rdr) (t : GTick) : Option (Bool × Rdr) := (lr_list_v4 [100, 101, 108, 97, 121, 115] o t).bind fun r => if r.1 = true then tl1 r.2.1 r.2.2 else tfin false r.2.1 r.2.2
noncomputable def tlu (o : Rdr) (t : GTick) : Option (Bool × Rdr) := (lr_list_v3 [117, 110, 105, 116, 115] o t).bind fun r => if r.1 = true then tld r.2.1 r.2.2 else tfin false r.2.1 r.2.2
@[reducible] def T0 : GTick := GTick.mk ([] : List Int) ([] : List Int) ([] : List GSend) ([] : List GBurst) ([] : List GSend) ([] : List GWrite)
theorem tick_unf (o : Rdr) : lr_tick o = (idx? o.f_lines o.f_at).bind fun z0 => if z0 ≠ ([116, 105, 99, 107] : List UInt8) then some (false, o) else
 (lr_kind (Rdr.mk o.f_lines (wr (o.f_at + 1)) o.f_s)).bind fun r0 =>
 if r0.1 = ([117, 110, 105, 116, 115] : List UInt8) then tlu r0.2 T0
 else if r0.1 = ([100, 101, 108, 97, 121, 115] : List UInt8) then tld r0.2 T0
 else if r0.1 = ([115, 101, 110, 100] : List UInt8) then tl1 r0.2 T0
 else if r0.1 = ([98, 117, 114, 115, 116] : List UInt8) then tl2 r0.2 T0
 else if r0.1 = ([115, 116, 114, 97, 121] : List UInt8) then tl3 r0.2 T0
 else if r0.1 = ([119, 114, 105, 116, 101] : List UInt8) then tl4 r0.2 T0
 else tfin true r0.2 T0 := rfl
def Out {α : Type} (L : List (List UInt8)) (a : Nat) (p : Option (α × List (List UInt8))) (u : α → GScript) (x : Option (Bool × Rdr)) : Prop :=
 (∀ v r, p = some (v, r) → ∃ a' : Nat, a ≤ a' ∧ a' ≤ L.length ∧ L.drop a' = r ∧ x = some (true, rd L a' (u v))) ∧ (p = none → ∃ (a' : Nat) (s' : GScript), a' ≤ L.length ∧ x = some (false, rd L a' s'))
@[reducible] def addT (s : GScript) (t : GTick) : GScript := GScript.mk s.Conf s.Faulty s.Images (s.Ticks ++ [t])
theorem tfin_eq {L : List (List UInt8)} (b : Bool) (a : Nat) (s : GScript) (hs : s.Ticks.length ≤ 1000000000) (t : GTick) : tfin b (rd L a s) t = some (b, rd L a (addT s t)) := by
 unfold tfin
 rw [if_pos (by rw [lenMax_eq]; simp only [List.length_cons, List.length_nil]; omega)]
theorem out_step {α β : Type} {L : List (List UInt8)} {a : Nat} {s : GScript} (hs : s.Ticks.length ≤ 1000000000) {p : Option (α × List (List UInt8))} {f : α → GTick} {x : Option (Bool × Rdr × GTick)} {q : α → List (List UInt8) → Option (β × List (List UInt8))} {u : β → GScript} {k : Rdr → GTick → Option (Bool × Rdr)}
 (h : (∀ v r, p = some (v, r) → ∃ a' : Nat, a ≤ a' ∧ a' ≤ L.length ∧ L.drop a' = r ∧ x = some (true, rd L a' s, f v)) ∧ (p = none → ∃ (a' : Nat) (t' : GTick), a' ≤ L.length ∧ x = some (false, rd L a' s, t')))
 (hk : ∀ v a', a ≤ a' → a' ≤ L.length → Out L a' (q v (L.drop a')) u (k (rd L a' s) (f v))) :
 Out L a (p.bind fun z => q z.1 z.2) u (x.bind fun r => if r.1 = true then k r.2.1 r.2.2 else tfin false r.2.1 r.2.2) := by
 cases hp : p with
 | none =>
   obtain ⟨a', t', h1, rfl⟩ := h.2 hp
   refine ⟨fun v r e => (by cases e), fun _ => ⟨a', addT s t', h1, ?_⟩⟩
   rw [zbs, if_neg Bool.false_ne_true]
   exact tfin_eq false a' s hs t'
 | some z =>
   obtain ⟨a', h1, h2, h3, rfl⟩ := h.1 z.1 z.2 hp
   have := hk z.1 a' h1 h2
   rw [h3] at this
   rw [zbs, zbs, if_pos rfl]
   refine ⟨fun v r e => ?_, this.2⟩
   obtain ⟨b, g1, g2⟩ := this.1 v r e
   exact ⟨b, by omega, g2⟩
theorem list_out {L : List (List UInt8)} {a : Nat} (ha : a ≤ L.length) {s : GScript} {p : Option (List Int × List (List UInt8))} {f : List Int → GTick} {t : GTick} {x : Option (Bool × Rdr × GTick)}
 (h : (∀ ns r, p = some (ns, r) → ∃ a' : Nat, a ≤ a' ∧ a' ≤ L.length ∧ L.drop a' = r ∧ x = some (true, rd L a' s, f ns)) ∧ (p = none → x = some (false, rd L a s, t))) :
 (∀ ns r, p = some (ns, r) → ∃ a' : Nat, a ≤ a' ∧ a' ≤ L.length ∧ L.drop a' = r ∧ x = some (true, rd L a' s, f ns)) ∧ (p = none → ∃ (a' : Nat) (t' : GTick), a' ≤ L.length ∧ x = some (false, rd L a' s, t')) :=
 ⟨h.1, fun hp => ⟨a, t, ha, h.2 hp⟩⟩
theorem tl4_out {L : List (List UInt8)} (hL : LOK L) {a : Nat} (ha : a ≤ L.length) (s : GScript) (hs : s.Ticks.length ≤ 1000000000) (t : GTick) (ht : t.Writes = []) :
 Out L a ((pE [119, 114, 105, 116, 101] 1 (L.drop a)).bind fun w => some (GTick.mk t.Units t.Delays t.Sends t.Bursts t.Strays (w.1.map mkW), w.2)) (addT s) (tl4 (rd L a s) t) := by
 have h := writes_ev hL ha s t ht
 unfold tl4
 cases hp : pE [119, 114, 105, 116, 101] 1 (L.drop a) with
 | none =>
   obtain ⟨a', t', h1, h2⟩ := h.2 hp
   rw [h2, zbs]
   exact ⟨fun v r e => (by cases e), fun _ => ⟨a', addT s t', h1, tfin_eq false a' s hs t'⟩⟩
 | some z =>
   obtain ⟨a', h1, h2, h3, h4⟩ := h.1 z.1 z.2 hp
   rw [h4, zbs, zbs]
   refine ⟨fun v r e => ?_, fun e => by cases e⟩
   cases e
   exact ⟨a', h1, h2, h3, tfin_eq true a' s hs _⟩
theorem tl3_out {L : List (List UInt8)} (hL : LOK L) {a : Nat} (ha : a ≤ L.length) (s : GScript) (hs : s.Ticks.length ≤ 1000000000) (t : GTick) (hw : t.Writes = []) (hy : t.Strays = []) :
 Out L a ((pE [115, 116, 114, 97, 121] 3 (L.drop a)).bind fun y => (pE [119, 114, 105, 116, 101] 1 y.2).bind fun w => some (GTick.mk t.Units t.Delays t.Sends t.Bursts (y.1.map mkS) (w.1.map mkW), w.2)) (addT s) (tl3 (rd L a s) t) :=
 out_step hs (q := fun v r => (pE [119, 114, 105, 116, 101] 1 r).bind fun w => some (GTick.mk t.Units t.Delays t.Sends t.Bursts (v.map mkS) (w.1.map mkW), w.2)) (strays_eq hL ha s t hy) fun v a' h1 h2 => tl4_out hL h2 s hs (GTick.mk t.Units t.Delays t.Sends t.Bursts (v.map mkS) t.Writes) hw
theorem tl2_out {L : List (List UInt8)} (hL : LOK L) {a : Nat} (ha : a ≤ L.length) (s : GScript) (hs : s.Ticks.length ≤ 1000000000) (t : GTick) (hw : t.Writes = []) (hy : t.Strays = []) (hb : t.Bursts = []) :
 Out L a ((pE [98, 117, 114, 115, 116] 1 (L.drop a)).bind fun b => (pE [115, 116, 114, 97, 121] 3 b.2).bind fun y => (pE [119, 114, 105, 116, 101] 1 y.2).bind fun w => some (GTick.mk t.Units t.Delays t.Sends (b.1.map mkB) (y.1.map mkS) (w.1.map mkW), w.2)) (addT s) (tl2 (rd L a s) t) :=
 out_step hs (q := fun v r => (pE [115, 116, 114, 97, 121] 3 r).bind fun y => (pE [119, 114, 105, 116, 101] 1 y.2).bind fun w => some (GTick.mk t.Units t.Delays t.Sends (v.map mkB) (y.1.map mkS) (w.1.map mkW), w.2)) (bursts_eq hL ha s t hb) fun v a' h1 h2 => tl3_out hL h2 s hs (GTick.mk t.Units t.Delays t.Sends (v.map mkB) t.Strays t.Writes) hw hy
theorem tl1_out {L : List (List UInt8)} (hL : LOK L) {a : Nat} (ha : a ≤ L.length) (s : GScript) (hs : s.Ticks.length ≤ 1000000000) (t : GTick) (hw : t.Writes = []) (hy : t.Strays = []) (hb : t.Bursts = []) (hn : t.Sends = []) :
 Out L a ((pE [115, 101, 110, 100] 3 (L.drop a)).bind fun z => (pE [98, 117, 114, 115, 116] 1 z.2).bind fun b => (pE [115, 116, 114, 97, 121] 3 b.2).bind fun y => (pE [119, 114, 105, 116, 101] 1 y.2).bind fun w => some (GTick.mk t.Units t.Delays (z.1.map mkS) (b.1.map mkB) (y.1.map mkS) (w.1.map mkW), w.2)) (addT s) (tl1 (rd L a s) t) :=
 out_step hs (q := fun v r => (pE [98, 117, 114, 115, 116] 1 r).bind fun b => (pE [115, 116, 114, 97, 121] 3 b.2).bind fun y => (pE [119, 114, 105, 116, 101] 1 y.2).bind fun w => some (GTick.mk t.Units t.Delays (v.map mkS) (b.1.map mkB) (y.1.map mkS) (w.1.map mkW), w.2)) (sends_eq hL ha s t hn) fun v a' h1 h2 => tl2_out hL h2 s hs (GTick.mk t.Units t.Delays (v.map mkS) t.Bursts t.Strays t.Writes) hw hy hb
theorem tld_out {L : List (List UInt8)} (hL : LOK L) {a : Nat} (ha : a ≤ L.length) (s : GScript) (hs : s.Ticks.length ≤ 1000000000) (t : GTick) (hw : t.Writes = []) (hy : t.Strays = []) (hb : t.Bursts = []) (hn : t.Sends = []) (hd : t.Delays = []) :
 Out L a ((pL [100, 101, 108, 97, 121, 115] (L.drop a)).bind fun d => (pE [115, 101, 110, 100] 3 d.2).bind fun z => (pE [98, 117, 114, 115, 116] 1 z.2).bind fun b => (pE [115, 116, 114, 97, 121] 3 b.2).bind fun y => (pE [119, 114, 105, 116, 101] 1 y.2).bind fun w => some (GTick.mk t.Units d.1 (z.1.map mkS) (b.1.map mkB) (y.1.map mkS) (w.1.map mkW), w.2)) (addT s) (tld (rd L a s) t) :=
 out_step hs (q := fun v r => (pE [115, 101, 110, 100] 3 r).bind fun z => (pE [98, 117, 114, 115, 116] 1 z.2).bind fun b => (pE [115, 116, 114, 97, 121] 3 b.2).bind fun y => (pE [119, 114, 105, 116, 101] 1 y.2).bind fun w => some (GTick.mk t.Units v (z.1.map mkS) (b.1.map mkB) (y.1.map mkS) (w.1.map mkW), w.2)) (list_out ha (delays_eq hL ha s t hd)) fun v a' h1 h2 => tl1_out hL h2 s hs (GTick.mk t.Units v t.Sends t.Bursts t.Strays t.Writes) hw hy hb hn
theorem tlu_out {L : List (List UInt8)} (hL : LOK L) {a : Nat} (ha : a ≤ L.length) (s : GScript) (hs : s.Ticks.length ≤ 1000000000) : Out L a (pT (L.drop a)) (addT s) (tlu (rd L a s) T0) :=
 out_step hs (q := fun v r => (pL [100, 101, 108, 97, 121, 115] r).bind fun d => (pE [115, 101, 110, 100] 3 d.2).bind fun z => (pE [98, 117, 114, 115, 116] 1 z.2).bind fun b => (pE [115, 116, 114, 97, 121] 3 b.2).bind fun y => (pE [119, 114, 105, 116, 101] 1 y.2).bind fun w => some (GTick.mk v d.1 (z.1.map mkS) (b.1.map mkB) (y.1.map mkS) (w.1.map mkW), w.2)) (list_out ha (units_eq hL ha s T0 rfl)) fun v a' h1 h2 => tld_out hL h2 s hs (GTick.mk v [] [] [] [] []) rfl rfl rfl rfl rfl
theorem out_of {L : List (List UInt8)} {a : Nat} {s : GScript} {p q : Option (GTick × List (List UInt8))} {x : Option (Bool × Rdr)} (h : Out L a p (addT s) x) (e : q = p) : Out L a q (addT s) x := e ▸ h
theorem tick_out {L : List (List UInt8)} (hL : LOK L) {a : Nat} (ha : a < L.length) (s : GScript) (hs : s.Ticks.length ≤ 1000000000) :
 Out L (a + 1) (if L[a] = [116, 105, 99, 107] then pT (L.drop (a + 1)) else none) (addT s) (lr_tick (rd L a s)) := by
 rw [tick_unf, idx_get (zge ha), zbs]
 by_cases h : L[a] = [116, 105, 99, 107]
 ·rw [if_neg (not_not_intro h), if_pos h, up_eq hL ha]
  change Out L (a + 1) _ _ ((lr_kind (rd L (a + 1) s)).bind _)
  rw [kind_eq hL, zbs]
  dsimp only
  generalize hr : L.drop (a + 1) = r
  have out := @tlu_out L hL (a + 1) ha s hs
  have od := @tld_out L hL (a + 1) ha s hs T0 rfl rfl rfl rfl rfl
  have o1 := @tl1_out L hL (a + 1) ha s hs T0 rfl rfl rfl rfl
  have o2 := @tl2_out L hL (a + 1) ha s hs T0 rfl rfl rfl
  have o3 := @tl3_out L hL (a + 1) ha s hs T0 rfl rfl
  have o4 := @tl4_out L hL (a + 1) ha s hs T0 rfl
  rw [hr] at out od o1 o2 o3 o4
  by_cases k1 : kd r = [117, 110, 105, 116, 115]
  ·rw [if_pos k1]; exact out
  rw [if_neg k1]
  by_cases k2 : kd r = [100, 101, 108, 97, 121, 115]
  ·rw [if_pos k2]; exact out_of od (by rw [pT, pL_none k1]; rfl)
  rw [if_neg k2]
  by_cases k3 : kd r = [115, 101, 110, 100]
  ·rw [if_pos k3]; exact out_of o1 (by rw [pT, pL_none k1, zbs, pL_none k2]; rfl)
  rw [if_neg k3]
  by_cases k4 : kd r = [98, 117, 114, 115, 116]
  ·rw [if_pos k4]; exact out_of o2 (by rw [pT, pL_none k1, zbs, pL_none k2, zbs, pE_none k3]; rfl)
  rw [if_neg k4]
  by_cases k5 : kd r = [115, 116, 114, 97, 121]
  ·rw [if_pos k5]; exact out_of o3 (by rw [pT, pL_none k1, zbs, pL_none k2, zbs, pE_none k3, zbs, pE_none k4]; rfl)
  rw [if_neg k5]
  by_cases k6 : kd r = [119, 114, 105, 116, 101]
  ·rw [if_pos k6]; exact out_of o4 (by rw [pT, pL_none k1, zbs, pL_none k2, zbs, pE_none k3, zbs, pE_none k4, zbs, pE_none k5]; rfl)
  rw [if_neg k6, pT, pL_none k1, zbs, pL_none k2, zbs, pE_none k3, zbs, pE_none k4, zbs, pE_none k5, zbs, pE_none k6, tfin_eq true (a + 1) s hs]
  exact ⟨fun v r' e => by cases e; exact ⟨a + 1, Nat.le_refl _, ha, hr, rfl⟩, fun e => by cases e⟩
 ·rw [if_pos h, if_neg h]
  exact ⟨fun v r e => (by cases e), fun _ => ⟨a, s, by omega, rfl⟩⟩
@[reducible] def imgs (s : GScript) (l : List (List UInt8)) : GScript := GScript.mk s.Conf s.Faulty l s.Ticks
theorem images_out {L : List (List UInt8)} (hL : LOK L) {a : Nat} (ha : a ≤ L.length) (s : GScript) (hs : s.Images = []) :
 Out L a (pE [105, 109, 97, 103, 101] 0 (L.drop a)) (fun es => imgs s (es.map (·.2))) ((lr_events [105, 109, 97, 103, 101] 0 (rd L a s)).bind fun r6 => some (r6.1, r6.2)) := by
 have H := ev_loop (fun z : Rdr => evK [105, 109, 97, 103, 101] ((0 : Nat) : Int) z (fun o => .inr (.inr o)) (fun o => .inr (.inl (false, o))) fun l b o => (lr_head_1 l b o).bind fun r5 => (some (.inl (Rdr.mk r5.f_lines (wr (r5.f_at + 1)) r5.f_s)) : Option (Rdr ⊕ ((Bool × Rdr) ⊕ Rdr))))
  (fun a s => rd L a s) (fun a s => (false, rd L a s)) (fun a s => rd L a s) (fun s e => imgs s (s.Images ++ [e.2])) (fun a s => s.Images.length ≤ a) L [105, 109, 97, 103, 101] 0 (fun a s ha hok => by
    have hl := hL.n
    have e0 := evK_eq (R := Rdr ⊕ ((Bool × Rdr) ⊕ Rdr)) (head := [105, 109, 97, 103, 101]) (by decide) (n := 0) (by decide) hL a s (fun o => .inr (.inr o)) (fun o => .inr (.inl (false, o))) (fun l b o => (lr_head_1 l b o).bind fun r5 => some (.inl (Rdr.mk r5.f_lines (wr (r5.f_at + 1)) r5.f_s)))
    refine ⟨fun h => ?_, fun h => ?_, fun e h => ⟨?_, ?_⟩⟩
    ·rw [h] at e0; exact e0
    ·rw [h] at e0; exact e0
    ·rw [h] at e0
     refine e0.trans ?_
     dsimp only
     unfold lr_head_1
     rw [if_pos (by rw [lenMax_eq]; simp only [List.length_cons, List.length_nil]; omega), zbs, up_eq hL (ev_lt h)]
    ·show (s.Images ++ [e.2]).length ≤ a + 1
     rw [List.length_append, List.length_singleton]; omega) (L.length - a) a s (by omega) (by rw [hs]; simp)
 refine ⟨fun es r hp => ?_, fun hp => ?_⟩
 ·obtain ⟨a', q1, q2, q3, q4, q5⟩ := H.1 es r hp
  refine ⟨a', q1, q2, q3, ?_⟩
  have e1 : lr_ev_0 [105, 109, 97, 103, 101] 0 (rd L a s) = some (.inr (rd L a' (imgs s (es.map (·.2))))) := by
   refine Eq.trans q5 ?_
   rw [fold_app _ GScript.Images imgs (fun e : List Int × List UInt8 => e.2) (fun t e => rfl) (fun _ _ => rfl) (fun _ _ _ => rfl) (fun _ => rfl), hs, List.nil_append]
  unfold lr_events
  rw [e1]
  rfl
 ·obtain ⟨a', s', q1, q2⟩ := H.2 hp
  refine ⟨a', s', q1, ?_⟩
  have e1 : lr_ev_0 [105, 109, 97, 103, 101] 0 (rd L a s) = some (.inl (false, rd L a' s')) := q2
  unfold lr_events
  rw [e1]
  rfl
def pK : Nat → List (List UInt8) → Option (List GTick × List (List UInt8))
 | 0, _ => none
 | m + 1, r => if kd r = [116, 105, 99, 107] then (if r.head? = some [116, 105, 99, 107] then (pT (r.drop 1)).bind fun t => (pK m t.2).map fun x => (t.1 :: x.1, x.2) else none) else some ([], r)
@[reducible] def tks (s : GScript) (l : List GTick) : GScript := GScript.mk s.Conf s.Faulty s.Images (s.Ticks ++ l)
noncomputable def endK (o : Rdr) : Option (Bool × Rdr) :=
 (lr_kind o).bind fun r6 =>
   if r6.1 ≠ ([101, 110, 100] : List UInt8) then some (false, r6.2)
   else
    (idx? r6.2.f_lines r6.2.f_at).bind fun z0 =>
    if z0 ≠ ([101, 110, 100] : List UInt8) then some (false, r6.2)
    else some ((decide ((wr (r6.2.f_at + 1)) = (List.length r6.2.f_lines : Int))), (Rdr.mk r6.2.f_lines (wr (r6.2.f_at + 1)) r6.2.f_s))
theorem end_out {L : List (List UInt8)} (hL : LOK L) {a : Nat} (ha : a ≤ L.length) (s : GScript) :
 (L.drop a = [[101, 110, 100]] → ∃ a' : Nat, a' ≤ L.length ∧ endK (rd L a s) = some (true, rd L a' s)) ∧ (L.drop a ≠ [[101, 110, 100]] → ∃ a' : Nat, a' ≤ L.length ∧ endK (rd L a s) = some (false, rd L a' s)) := by
 unfold endK
 rw [kind_eq hL, zbs]
 dsimp only
 by_cases hlt : a < L.length
 ·rw [idx_get (zge hlt), zbs, up_eq hL hlt]
  rw [List.drop_eq_getElem_cons hlt]
  by_cases h : L[a] = [101, 110, 100]
  ·rw [h, if_neg (not_not_intro (show kd ([101, 110, 100] :: L.drop (a + 1)) = [101, 110, 100] from rfl)), if_neg (not_not_intro rfl)]
   by_cases hl : a + 1 = L.length
   ·rw [decide_eq_true (by omega)]
    exact ⟨fun _ => ⟨a + 1, hlt, rfl⟩, fun hn => absurd (by rw [List.drop_eq_nil_of_le (by omega)]) hn⟩
   ·rw [decide_eq_false (by omega)]
    refine ⟨fun hn => ?_, fun _ => ⟨a + 1, hlt, rfl⟩⟩
    have := congrArg List.length hn
    simp only [List.length_cons, List.length_drop, List.length_nil] at this
    omega
  ·refine ⟨fun hn => absurd (List.cons.inj hn).1 h, fun _ => ⟨a, ha, ?_⟩⟩
   rw [if_pos h]
   split <;> rfl
 ·rw [List.drop_eq_nil_of_le (by omega)]
  refine ⟨fun hn => (by cases hn), fun _ => ⟨a, ha, rfl⟩⟩
theorem script0_eq (o : Rdr) : lr_script_0 o = (lr_kind o).bind fun r4 =>
 if r4.1 = ([116, 105, 99, 107] : List UInt8) then
  (lr_tick r4.2).bind fun r5 => if (!r5.1) = true then some (false, r5.2) else lr_script_0 r5.2
 else endK r4.2 := by
 unfold lr_script_0
 rw [loopO_eq]
 unfold lr_script_0_step
 cases lr_kind o with
 | none => rfl
 | some r4 =>
   simp only [zbs]
   by_cases h : r4.1 = ([116, 105, 99, 107] : List UInt8)
   ·rw [if_pos h, if_pos h]
    cases lr_tick r4.2 with
    | none => rfl
    | some r5 =>
      simp only [zbs]
      cases r5.1 <;> rfl
   ·rw [if_neg h, if_neg h]
    unfold endK
    cases lr_kind r4.2 with
    | none => rfl
    | some r6 =>
      simp only [zbs]
      by_cases h1 : r6.1 ≠ ([101, 110, 100] : List UInt8)
      ·rw [if_pos h1, if_pos h1]; rfl
      ·rw [if_neg h1, if_neg h1]
       cases idx? r6.2.f_lines r6.2.f_at with
       | none => rfl
       | some z =>
         simp only [zbs]
         split <;> rfl
theorem ticks_out {L : List (List UInt8)} (hL : LOK L) : ∀ (m a : Nat) (s : GScript), a ≤ L.length → L.length - a < m → s.Ticks.length ≤ a →
 (∀ ts, pK m (L.drop a) = some (ts, [[101, 110, 100]]) → ∃ a' : Nat, a' ≤ L.length ∧ lr_script_0 (rd L a s) = some (true, rd L a' (tks s ts))) ∧
 ((∀ ts, pK m (L.drop a) ≠ some (ts, [[101, 110, 100]])) → ∃ (a' : Nat) (s' : GScript), a' ≤ L.length ∧ lr_script_0 (rd L a s) = some (false, rd L a' s'))
 | 0, a, s, ha, hm, hs => absurd hm (by omega)
 | m + 1, a, s, ha, hm, hs => by
   have hn := hL.n
   rw [script0_eq, kind_eq hL, zbs, pK]
   dsimp only
   by_cases hk : kd (L.drop a) = [116, 105, 99, 107]
   ·have hlt : a < L.length := by
     by_cases h : a < L.length
     ·exact h
     ·rw [List.drop_eq_nil_of_le (by omega)] at hk; cases hk
    rw [if_pos hk, if_pos hk]
    have ho := tick_out hL hlt s (by omega)
    rw [List.drop_drop, List.drop_eq_getElem_cons hlt, List.head?_cons]
    by_cases hh : L[a] = [116, 105, 99, 107]
    ·rw [if_pos (by rw [hh])]
     rw [if_pos hh] at ho
     cases hp : pT (L.drop (a + 1)) with
     | none =>
       rw [hp] at ho
       obtain ⟨a', s', h1, h2⟩ := ho.2 rfl
       rw [h2]
       exact ⟨fun ts e => (by cases e), fun _ => ⟨a', s', h1, rfl⟩⟩
     | some t =>
       rw [hp] at ho
       obtain ⟨a', h1, h2, h3, h4⟩ := ho.1 t.1 t.2 rfl
       have ih := ticks_out hL m a' (addT s t.1) h2 (by omega) (by show (s.Ticks ++ [t.1]).length ≤ a'; rw [List.length_append, List.length_singleton]; omega)
       rw [h3] at ih
       rw [h4, zbs, zbs, if_neg (show ¬ (!true) = true by decide)]
       dsimp only
       cases hq : pK m t.2 with
       | none =>
         rw [hq] at ih
         exact ⟨fun ts e => (by cases e), fun _ => ih.2 fun ts e => by cases e⟩
       | some x =>
         rw [hq] at ih
         refine ⟨fun ts e => ?_, fun hne => ih.2 fun ts e => hne (t.1 :: ts) ?_⟩
         ·obtain ⟨x1, x2⟩ := x
          have e2 := Prod.mk.inj (Option.some.inj e)
          obtain ⟨b, g1, g2⟩ := ih.1 x1 (by rw [show x2 = [[101, 110, 100]] from e2.2])
          refine ⟨b, g1, g2.trans ?_⟩
          rw [← show t.1 :: x1 = ts from e2.1]
          unfold tks addT
          simp only [List.append_assoc, List.cons_append, List.nil_append]
         ·cases e; rfl
    ·rw [if_neg (fun e => hh (Option.some.inj e))]
     rw [if_neg hh] at ho
     obtain ⟨a', s', h1, h2⟩ := ho.2 rfl
     rw [h2]
     exact ⟨fun ts e => (by cases e), fun _ => ⟨a', s', h1, rfl⟩⟩
   ·rw [if_neg hk, if_neg hk]
    have he := end_out hL ha s
    refine ⟨fun ts e => ?_, fun hne => ?_⟩
    ·have e2 := (Prod.mk.inj (Option.some.inj e))
     obtain ⟨a', h1, h2⟩ := he.1 e2.2
     refine ⟨a', h1, h2.trans ?_⟩
     rw [← e2.1]
     unfold tks
     rw [List.append_nil]
    ·obtain ⟨a', h1, h2⟩ := he.2 fun e => hne [] (by rw [e])
     exact ⟨a', s, h1, h2⟩
def confOf (ns tb : List Int) : GConf := GConf.mk (ns.getD 0 0) (ns.getD 1 0) (ns.getD 2 0) (ns.getD 3 0) (ns.getD 4 0) (ns.getD 5 0) (ns.getD 6 0) (ns.getD 7 0) (ns.getD 8 0) (ns.getD 9 0) tb
@[reducible] def S0 : GScript := GScript.mk (GConf.mk 0 0 0 0 0 0 0 0 0 0 ([] : List Int)) ([] : List Int) ([] : List (List UInt8)) ([] : List GTick)
def pHead (L : List (List UInt8)) : Option (GScript × List (List UInt8)) :=
 if kd L = [99, 111, 110, 102] then (pL [99, 111, 110, 102] L).bind fun c => if c.1.length = 10 then (if kd c.2 = [116, 97, 98, 108, 101] then (pL [116, 97, 98, 108, 101] c.2).bind fun t => (pL [102, 97, 117, 108, 116, 121] t.2).bind fun f =>
  (pE [105, 109, 97, 103, 101] 0 f.2).map fun i => (GScript.mk (confOf c.1 t.1) f.1 (i.1.map (·.2)) [], i.2) else none) else none
 else none
theorem get10 {l : List Int} (h : l.length = 10) : ∃ x0 x1 x2 x3 x4 x5 x6 x7 x8 x9, l = [x0, x1, x2, x3, x4, x5, x6, x7, x8, x9] := by
 match l, h with
 | [x0, x1, x2, x3, x4, x5, x6, x7, x8, x9], _ => exact ⟨x0, x1, x2, x3, x4, x5, x6, x7, x8, x9, rfl⟩
theorem head_out {L : List (List UInt8)} (hL : LOK L) : Out L 0 (pHead L) id (lr_head (rd L 0 S0)) := by
 have bad : ∀ (x : Option (Bool × Rdr)), (∃ (a' : Nat) (s' : GScript), a' ≤ L.length ∧ x = some (false, rd L a' s')) → Out L 0 (none : Option (GScript × List (List UInt8))) id x := fun x h => ⟨fun v r e => (by cases e), fun _ => h⟩
 unfold lr_head pHead
 rw [kind_eq hL, zbs]
 dsimp only
 rw [List.drop_zero]
 by_cases h0 : kd L = [99, 111, 110, 102]
 ·rw [if_neg (not_not_intro h0), if_pos h0]
  have hne : L ≠ [] := by rintro rfl; cases h0
  have hlen := List.length_pos_iff.2 hne
  have hc := conf_eq hL (a := 0) (by omega) S0
  rw [List.drop_zero] at hc
  cases hp : pL [99, 111, 110, 102] L with
  | none =>
    rw [hc.2 hp, zbs, if_pos (show (!false) = true from rfl)]
    exact bad _ ⟨0, S0, by omega, rfl⟩
  | some c =>
    obtain ⟨ns, r⟩ := c
    obtain ⟨a1, -, q1, q2, q3⟩ := hc.1 ns r hp
    rw [q3, zbs, zbs, if_neg (show ¬ (!true) = true by decide)]
    dsimp only
    by_cases hl : ns.length = 10
    ·rw [if_pos hl, if_neg (show ¬ (ns.length : Int) ≠ 10 by omega)]
     obtain ⟨x0, x1, x2, x3, x4, x5, x6, x7, x8, x9, rfl⟩ := get10 hl
     rw [show idx? [x0, x1, x2, x3, x4, x5, x6, x7, x8, x9] 0 = some x0 from rfl, show idx? [x0, x1, x2, x3, x4, x5, x6, x7, x8, x9] 1 = some x1 from rfl, show idx? [x0, x1, x2, x3, x4, x5, x6, x7, x8, x9] 2 = some x2 from rfl,
      show idx? [x0, x1, x2, x3, x4, x5, x6, x7, x8, x9] 3 = some x3 from rfl, show idx? [x0, x1, x2, x3, x4, x5, x6, x7, x8, x9] 4 = some x4 from rfl, show idx? [x0, x1, x2, x3, x4, x5, x6, x7, x8, x9] 5 = some x5 from rfl,
      show idx? [x0, x1, x2, x3, x4, x5, x6, x7, x8, x9] 6 = some x6 from rfl, show idx? [x0, x1, x2, x3, x4, x5, x6, x7, x8, x9] 7 = some x7 from rfl, show idx? [x0, x1, x2, x3, x4, x5, x6, x7, x8, x9] 8 = some x8 from rfl,
      show idx? [x0, x1, x2, x3, x4, x5, x6, x7, x8, x9] 9 = some x9 from rfl]
     simp only [zbs]
     generalize hs : (GScript.mk (GConf.mk x0 x1 x2 x3 x4 x5 x6 x7 x8 x9 ([] : List Int)) ([] : List Int) ([] : List (List UInt8)) ([] : List GTick)) = s1
     have hs' : s1.Conf.Table = [] ∧ s1.Faulty = [] ∧ s1.Images = [] := by subst hs; exact ⟨rfl, rfl, rfl⟩
     rw [show lr_kind (Rdr.mk L (a1 : Int) s1) = _ from kind_eq hL a1 s1, zbs]
     dsimp only
     rw [q2]
     by_cases ht : kd r = [116, 97, 98, 108, 101]
     ·rw [if_neg (not_not_intro ht), if_pos ht]
      have hT := tab_eq hL q1 s1 hs'.1
      rw [q2] at hT
      cases hp2 : pL [116, 97, 98, 108, 101] r with
      | none =>
        rw [hT.2 hp2, zbs, if_pos (show (!false) = true from rfl)]
        exact bad _ ⟨a1, s1, q1, rfl⟩
      | some t =>
        obtain ⟨tb, r2⟩ := t
        obtain ⟨a2, -, p1, p2, p3⟩ := hT.1 tb r2 hp2
        rw [p3, zbs, zbs, if_neg (show ¬ (!true) = true by decide)]
        dsimp only
        have hF := fau_eq hL p1 (tabl s1 tb) hs'.2.1
        rw [p2] at hF
        cases hp3 : pL [102, 97, 117, 108, 116, 121] r2 with
        | none =>
          rw [hF.2 hp3, zbs, if_pos (show (!false) = true from rfl)]
          exact bad _ ⟨a2, _, p1, rfl⟩
        | some f =>
          obtain ⟨fy, r3⟩ := f
          obtain ⟨a3, -, w1, w2, w3⟩ := hF.1 fy r3 hp3
          rw [w3, zbs, zbs, if_neg (show ¬ (!true) = true by decide)]
          dsimp only
          have hI := images_out hL w1 (GScript.mk (tabl s1 tb).Conf fy (tabl s1 tb).Images (tabl s1 tb).Ticks) hs'.2.2
          rw [w2] at hI
          cases hp4 : pE [105, 109, 97, 103, 101] 0 r3 with
          | none =>
            rw [hp4] at hI
            exact bad _ (hI.2 rfl)
          | some i =>
            rw [hp4] at hI
            obtain ⟨a4, -, v1, v2, v3⟩ := hI.1 i.1 i.2 rfl
            refine ⟨fun v r e => ?_, fun e => by cases e⟩
            cases e
            refine ⟨a4, by omega, v1, v2, v3.trans ?_⟩
            subst hs
            rfl
     ·rw [if_pos ht, if_neg ht]
      exact bad _ ⟨a1, s1, q1, rfl⟩
    ·rw [if_neg hl, if_pos (show (ns.length : Int) ≠ 10 by omega)]
     have : 1 ≤ a1 := by
      have e := hp
      unfold pL at e
      cases L with
      | nil => exact absurd rfl hne
      | cons l q =>
        rw [lsAt, if_pos (show (spl 32 l).1 = [99, 111, 110, 102] from h0)] at e
        cases hx : (intsV (spl 32 l).2).bind fun ns => if ns = [] then none else some ns with
        | none => rw [hx] at e; cases e
        | some y =>
          rw [hx] at e
          have e2 := (Prod.mk.inj (Option.some.inj e)).2
          have := congrArg List.length (q2.trans e2.symm)
          simp only [List.length_drop, List.length_cons] at this q1
          omega
     refine bad _ ⟨a1 - 1, S0, by omega, ?_⟩
     have hn := hL.n
     rw [wrI (n := (a1 : Int) - 1) (m := ((a1 - 1 : Nat) : Int)) (by omega) (by omega)]
 ·rw [if_pos h0, if_neg h0]
  exact bad _ ⟨0, S0, by omega, rfl⟩
def pS (L : List (List UInt8)) : Option GScript := (pHead L).bind fun h => (pK (L.length + 1) h.2).bind fun k => if k.2 = [[101, 110, 100]] then some (tks h.1 k.1) else none
theorem script_unf (o : Rdr) : lr_script o = (lr_head o).bind fun r0 => if (!r0.1) = true then some (false, r0.2) else lr_script_0 r0.2 := by
 unfold lr_script
 congr 1
 funext r0
 split
 ·rfl
 ·rw [script0_eq]
  congr 1
  funext r2
  split
  ·congr 1
   funext r3
   split
   ·rfl
   ·cases lr_script_0 r3.2 <;> rfl
  ·rfl
theorem script_out {L : List (List UInt8)} (hL : LOK L) : (∀ s, pS L = some s → ∃ a' : Nat, a' ≤ L.length ∧ lr_script (rd L 0 S0) = some (true, rd L a' s)) ∧ (pS L = none → ∃ (a' : Nat) (s' : GScript), a' ≤ L.length ∧ lr_script (rd L 0 S0) = some (false, rd L a' s')) := by
 have hh := head_out hL
 rw [script_unf]
 unfold pS
 cases hp : pHead L with
 | none =>
   obtain ⟨a', s', h1, h2⟩ := hh.2 hp
   rw [h2]
   exact ⟨fun s e => (by cases e), fun _ => ⟨a', s', h1, rfl⟩⟩
 | some h =>
   obtain ⟨a', -, h1, h2, h3⟩ := hh.1 h.1 h.2 hp
   have hz : h.1.Ticks = [] := by
    unfold pHead at hp
    split at hp
    ·cases hc : pL [99, 111, 110, 102] L with
     | none => rw [hc] at hp; cases hp
     | some c =>
       rw [hc, zbs] at hp
       split at hp
       ·split at hp
        ·cases ht : pL [116, 97, 98, 108, 101] c.2 with
         | none => rw [ht] at hp; cases hp
         | some t =>
           rw [ht, zbs] at hp
           cases hf : pL [102, 97, 117, 108, 116, 121] t.2 with
           | none => rw [hf] at hp; cases hp
           | some f =>
             rw [hf, zbs] at hp
             cases hi : pE [105, 109, 97, 103, 101] 0 f.2 with
             | none => rw [hi] at hp; cases hp
             | some i => rw [hi] at hp; cases hp; rfl
        ·cases hp
       ·cases hp
    ·cases hp
   have e3 : ((some (true, rd L a' (id h.1))).bind fun r0 : Bool × Rdr => if (!r0.1) = true then some (false, r0.2) else lr_script_0 r0.2) = lr_script_0 (rd L a' h.1) := rfl
   rw [h3, e3]
   have ht := ticks_out hL (L.length + 1) a' h.1 h1 (by omega) (by rw [hz]; simp)
   rw [h2] at ht
   rw [zbs]
   cases hk : pK (L.length + 1) h.2 with
   | none =>
     rw [hk] at ht
     exact ⟨fun s e => (by cases e), fun _ => ht.2 fun ts e => by cases e⟩
   | some k =>
     rw [hk] at ht
     rw [zbs]
     by_cases he : k.2 = [[101, 110, 100]]
     ·rw [if_pos he]
      exact ⟨fun s e => (by cases e; exact ht.1 k.1 (by rw [← he])), fun e => by cases e⟩
     ·rw [if_neg he]
      exact ⟨fun s e => (by cases e), fun _ => ht.2 fun ts e => he (by rw [Option.some.inj e])⟩
def lns (text : List UInt8) : List (List UInt8) := ((spl 10 text).1 :: (spl 10 text).2).dropLast
def lst (text : List UInt8) : List UInt8 := ((spl 10 text).1 :: (spl 10 text).2).getLast (List.cons_ne_nil _ _)
theorem lns_ok {text : List UInt8} (h : text.length ≤ 1000000000) : LOK (lns text) := by
 obtain ⟨h1, h2, h3⟩ := spl_len 10 text
 refine ⟨by unfold lns; rw [List.length_dropLast, List.length_cons]; omega, fun x hx => ?_⟩
 rcases List.mem_cons.1 (List.dropLast_subset _ hx) with rfl | hx
 ·omega
 ·have := h3 x hx; omega
theorem read_out (text : List UInt8) (h : text.length ≤ 1000000000) :
 (pS (lns text) = none ∨ lst text ≠ [] → ∃ n : Int, 1 ≤ n ∧ n ≤ (lns text).length + 1 ∧ lines_Read text = some (S0, n, 3)) ∧
 (∀ s, pS (lns text) = some s → lst text = [] → SIn s → lines_Read text = some (if scriptV s = 0 then (s, 0, 0) else (S0, 0, scriptV s))) := by
 have hL := lns_ok h
 have hn := hL.n
 have hlen : (((spl 10 text).1 :: (spl 10 text).2).length : Int) - 1 = (((spl 10 text).2.length : Nat) : Int) := by rw [List.length_cons]; omega
 have hm := (spl_len 10 text).2.1
 have e1 : idx? ((spl 10 text).1 :: (spl 10 text).2) (((spl 10 text).2.length : Nat) : Int) = some (lst text) := by
  refine idx_get ?_
  unfold lst
  rw [List.getLast_eq_getElem, ← zge]
  rfl
 have e2 : ((spl 10 text).1 :: (spl 10 text).2).take (spl 10 text).2.length = lns text := by
  unfold lns
  rw [List.dropLast_eq_take]
  rfl
 have start : lines_Read text = (lr_script (rd (lns text) 0 S0)).bind fun r2 =>
  if (!r2.1) = true then some (S0, (wr (r2.2.f_at + 1)), 3)
  else if lst text ≠ [] then some (S0, (wr (r2.2.f_at + 1)), 3)
  else (script_Right r2.2.f_s).bind fun r3 => if r3 ≠ 0 then some (S0, 0, r3) else some (r2.2.f_s, 0, 0) := by
  unfold lines_Read strings_Split
  rw [if_pos (by simp; omega), zbs, split_spl, hlen, wrI rfl (by omega), e1, zbs, if_pos (by rw [List.length_cons]; omega), Int.toNat_natCast, e2]
  rfl
 have ho := script_out hL
 rw [start]
 refine ⟨fun hb => ?_, fun s hp hl hs => ?_⟩
 ·have hb3 : ∀ a' : Nat, a' ≤ (lns text).length → 1 ≤ ((a' + 1 : Nat) : Int) ∧ ((a' + 1 : Nat) : Int) ≤ (lns text).length + 1 ∧ wr ((a' : Int) + 1) = ((a' + 1 : Nat) : Int) := fun a' ha => ⟨by omega, by omega, by rw [wrI rfl (by omega)]; omega⟩
  cases hp : pS (lns text) with
  | none =>
    obtain ⟨a', s', h1, h2⟩ := ho.2 hp
    obtain ⟨k1, k2, k3⟩ := hb3 a' h1
    refine ⟨((a' + 1 : Nat) : Int), k1, k2, ?_⟩
    rw [h2, zbs, if_pos (show (!false) = true from rfl)]
    dsimp only
    rw [k3]
  | some s =>
    obtain ⟨a', h1, h2⟩ := ho.1 s hp
    obtain ⟨k1, k2, k3⟩ := hb3 a' h1
    refine ⟨((a' + 1 : Nat) : Int), k1, k2, ?_⟩
    rw [hp] at hb
    rw [h2, zbs, if_neg (show ¬ (!true) = true by decide), if_pos (hb.resolve_left fun e => by cases e)]
    dsimp only
    rw [k3]
 ·obtain ⟨a', h1, h2⟩ := ho.1 s hp
  rw [h2, zbs, if_neg (show ¬ (!true) = true by decide), if_neg (not_not_intro hl)]
  dsimp only
  rw [script_right s hs, zbs]
  by_cases hv : scriptV s = 0
  ·rw [if_neg (not_not_intro hv), if_pos hv]
  ·rw [if_pos hv, if_neg hv]
def someL (head : List UInt8) (l : List Int) : List (List UInt8) := if l = [] then [] else [lineL head l]
def evL (head : List UInt8) (e : List Int × List UInt8) : List UInt8 := lineL head e.1 ++ 32 :: word e.2
@[reducible] def unS (s : GSend) : List Int × List UInt8 := ([s.From, s.To, s.Delay], s.Bytes)
@[reducible] def unB (b : GBurst) : List Int × List UInt8 := ([b.Node], b.Image)
@[reducible] def unW (w : GWrite) : List Int × List UInt8 := ([w.Node], w.Text)
@[reducible] def unI (i : List UInt8) : List Int × List UInt8 := ([], i)
def tickB (t : GTick) : List (List UInt8) := someL [117, 110, 105, 116, 115] t.Units ++ (someL [100, 101, 108, 97, 121, 115] t.Delays ++ ((t.Sends.map unS).map (evL [115, 101, 110, 100]) ++ ((t.Bursts.map unB).map (evL [98, 117, 114, 115, 116]) ++ ((t.Strays.map unS).map (evL [115, 116, 114, 97, 121]) ++ (t.Writes.map unW).map (evL [119, 114, 105, 116, 101])))))
def tickL (t : GTick) : List (List UInt8) := [116, 105, 99, 107] :: tickB t
def headL (s : GScript) : List (List UInt8) := lineL [99, 111, 110, 102] (confL s.Conf) :: (someL [116, 97, 98, 108, 101] s.Conf.Table ++ (someL [102, 97, 117, 108, 116, 121] s.Faulty ++ (s.Images.map unI).map (evL [105, 109, 97, 103, 101])))
def scriptL (s : GScript) : List (List UInt8) := headL s ++ (s.Ticks.flatMap tickL ++ [[101, 110, 100]])
def lnT (r : List (List UInt8)) : List UInt8 := r.flatMap (· ++ [10])
theorem lnT_app (a b : List (List UInt8)) : lnT (a ++ b) = lnT a ++ lnT b := List.flatMap_append ..
theorem lnT_some (head : List UInt8) (l : List Int) : lnT (someL head l) = someT head l := by
 unfold someL someT
 split
 ·rfl
 ·simp [lnT]
theorem lnT_ev {α : Type} (head : List UInt8) (u : α → List Int × List UInt8) : ∀ l : List α, lnT ((l.map u).map (evL head)) = l.flatMap fun x => evT head (u x).2 (u x).1
 | [] => rfl
 | x :: l => by
   have := lnT_ev head u l
   unfold lnT at this ⊢
   rw [List.map_cons, List.map_cons, List.flatMap_cons, this, List.flatMap_cons]
   simp [evL, evT]
theorem lnT_ticks : ∀ l : List GTick, lnT (l.flatMap tickL) = l.flatMap tickT
 | [] => rfl
 | t :: l => by
   rw [List.flatMap_cons, lnT_app, lnT_ticks l, List.flatMap_cons]
   congr 1
   unfold tickL tickB
   rw [show lnT ([116, 105, 99, 107] :: _) = [116, 105, 99, 107, 10] ++ lnT _ from rfl]
   simp only [lnT_app, lnT_some, lnT_ev]
   unfold tickT tickA
   simp only [List.append_assoc]
   rfl
theorem lnT_script (s : GScript) : lnT (scriptL s) = scriptT s := by
 unfold scriptL headL
 rw [lnT_app, lnT_app, lnT_ticks]
 rw [show lnT (lineL [99, 111, 110, 102] (confL s.Conf) :: _) = (lineL [99, 111, 110, 102] (confL s.Conf) ++ [10]) ++ lnT _ from rfl]
 simp only [lnT_app, lnT_some, lnT_ev]
 unfold scriptT headA
 simp only [List.append_assoc]
 rfl
theorem flat_num (ns : List Int) : (ns.map Lib.itoa).flatMap (32 :: ·) = ns.flatMap num := by
 induction ns with
 | nil => rfl
 | cons n ns ih => rw [List.map_cons, List.flatMap_cons, List.flatMap_cons, ih]; rfl
theorem itoa_no {n : Int} (c : UInt8) (hc : c = 10 ∨ c = 32) : c ∉ Lib.itoa n := by
 intro h
 rcases itoa_mem n c h with rfl | ⟨h1, h2⟩
 ·rcases hc with e | e <;> cases e
 ·rcases hc with rfl | rfl
  ·exact absurd h1 (by decide)
  ·exact absurd h1 (by decide)
theorem hd_no : ∀ k : Fin 16, hd k.val ≠ 10 ∧ hd k.val ≠ 32 := by decide
theorem word_no (s : List UInt8) (c : UInt8) (hc : c = 10 ∨ c = 32) : c ∉ word s := by
 intro h
 unfold word at h
 split at h
 ·simp only [List.mem_singleton] at h
  subst h
  rcases hc with e | e <;> cases e
 ·obtain ⟨b, -, hb⟩ := List.mem_flatMap.1 h
  have l := u8_lt b
  have k1 := hd_no ⟨b.toNat / 16, by omega⟩
  have k2 := hd_no ⟨b.toNat % 16, by omega⟩
  simp only [hx, List.mem_cons, List.not_mem_nil, or_false] at hb
  rcases hb with rfl | rfl
  ·rcases hc with e | e
   ·exact k1.1 e
   ·exact k1.2 e
  ·rcases hc with e | e
   ·exact k2.1 e
   ·exact k2.2 e
theorem line_spl {head : List UInt8} (hh : (32 : UInt8) ∉ head) (ns : List Int) (ws : List (List UInt8)) (hw : ∀ x ∈ ws, (32 : UInt8) ∉ x) : spl 32 (lineL head ns ++ ws.flatMap (32 :: ·)) = (head, ns.map Lib.itoa ++ ws) := by
 have := spl_of (ws := ns.map Lib.itoa ++ ws) hh (fun x hx => by
  rcases List.mem_append.1 hx with hx | hx
  ·obtain ⟨n, -, rfl⟩ := List.mem_map.1 hx
   exact itoa_no 32 (.inr rfl)
  ·exact hw x hx)
 rw [List.flatMap_append, flat_num] at this
 unfold lineL
 rw [List.append_assoc]
 exact this
theorem line_spl0 {head : List UInt8} (hh : (32 : UInt8) ∉ head) (ns : List Int) : spl 32 (lineL head ns) = (head, ns.map Lib.itoa) := by
 have := line_spl hh ns [] (fun x hx => by cases hx)
 simpa using this
theorem ev_spl {head : List UInt8} (hh : (32 : UInt8) ∉ head) (e : List Int × List UInt8) : spl 32 (evL head e) = (head, e.1.map Lib.itoa ++ [word e.2]) := by
 have := line_spl hh e.1 [word e.2] (fun x hx => by
  simp only [List.mem_singleton] at hx
  subst hx
  exact word_no _ 32 (.inr rfl))
 rw [List.flatMap_cons, List.flatMap_nil, List.append_nil] at this
 exact this
theorem kd_some {head : List UInt8} (hh : (32 : UInt8) ∉ head) (ns : List Int) (r : List (List UInt8)) : kd (someL head ns ++ r) = head ∨ kd (someL head ns ++ r) = kd r := by
 unfold someL
 split
 ·exact .inr rfl
 ·exact .inl (by show (spl 32 (lineL head ns)).1 = head; rw [line_spl0 hh])
theorem kd_ev {head : List UInt8} (hh : (32 : UInt8) ∉ head) (es : List (List Int × List UInt8)) (r : List (List UInt8)) : kd (es.map (evL head) ++ r) = head ∨ kd (es.map (evL head) ++ r) = kd r := by
 cases es with
 | nil => exact .inr rfl
 | cons e es => exact .inl (by show (spl 32 (evL head e)).1 = head; rw [ev_spl hh])
theorem pL_full {head : List UInt8} (hh : (32 : UInt8) ∉ head) {ns : List Int} (hd : D6 ns) {r : List (List UInt8)} (hr : kd r ≠ head) : pL head (someL head ns ++ r) = some (ns, r) := by
 unfold someL
 by_cases h : ns = []
 ·rw [if_pos h, h, List.nil_append, pL_none hr]
 ·rw [if_neg h]
  unfold pL
  rw [show [lineL head ns] ++ r = lineL head ns :: r from rfl, lsAt, line_spl0 hh, if_pos rfl]
  dsimp only
  rw [intsV_map hd, zbs, if_neg h]
  rfl
theorem pE_full {head : List UInt8} (hh : (32 : UInt8) ∉ head) {n : Nat} {r : List (List UInt8)} (hr : kd r ≠ head) : ∀ {es : List (List Int × List UInt8)}, (∀ e ∈ es, e.1.length = n ∧ D6 e.1) → pE head n (es.map (evL head) ++ r) = some (es, r)
 | [], _ => pE_none hr
 | e :: es, h => by
   obtain ⟨h1, h2⟩ := h e (by simp)
   have hg : (e.1.map Lib.itoa ++ [word e.2]).getD n [] = word e.2 := by
    rw [List.getD_eq_getElem?_getD, List.getElem?_append_right (by rw [List.length_map]; omega), List.length_map, h1, Nat.sub_self]
    rfl
   have ht : (e.1.map Lib.itoa ++ [word e.2]).take n = e.1.map Lib.itoa := by rw [← h1, ← List.length_map (f := Lib.itoa)]; exact List.take_left' rfl
   rw [List.map_cons, List.cons_append, pE, evAt, ev_spl hh, if_pos rfl]
   dsimp only
   rw [if_pos (by simp [h1]), ht, hg, intsV_map h2, zbs, bytesV_word]
   simp only [Option.map_some]
   rw [pE_full hh hr fun x hx => h x (List.mem_cons_of_mem _ hx)]
   rfl
theorem map_mk {α : Type} {mk : List Int × List UInt8 → α} {un : α → List Int × List UInt8} (h : ∀ x, mk (un x) = x) : ∀ l : List α, (l.map un).map mk = l
 | [] => rfl
 | x :: l => by rw [List.map_cons, List.map_cons, h, map_mk h l]
theorem all_un {α : Type} {un : α → List Int × List UInt8} {n : Nat} {l : List α} (h : ∀ x ∈ l, (un x).1.length = n ∧ D6 (un x).1) : ∀ e ∈ l.map un, e.1.length = n ∧ D6 e.1 := fun e he => by
 obtain ⟨x, hx, rfl⟩ := List.mem_map.1 he
 exact h x hx
def KI (hs : List (List UInt8)) (r : List (List UInt8)) : Prop := kd r ∈ hs
theorem ki_ne {hs : List (List UInt8)} {r : List (List UInt8)} {h : List UInt8} (k : KI hs r) (hn : h ∉ hs) : kd r ≠ h := fun e => hn (e ▸ k)
theorem ki_some {hs : List (List UInt8)} {r : List (List UInt8)} {head : List UInt8} (hh : (32 : UInt8) ∉ head) (k : KI hs r) (ns : List Int) : KI (head :: hs) (someL head ns ++ r) := by
 rcases kd_some hh ns r with e | e
 ·exact List.mem_cons.2 (.inl e)
 ·exact List.mem_cons.2 (.inr (by rw [e]; exact k))
theorem ki_ev {hs : List (List UInt8)} {r : List (List UInt8)} {head : List UInt8} (hh : (32 : UInt8) ∉ head) (k : KI hs r) (es : List (List Int × List UInt8)) : KI (head :: hs) (es.map (evL head) ++ r) := by
 rcases kd_ev hh es r with e | e
 ·exact List.mem_cons.2 (.inl e)
 ·exact List.mem_cons.2 (.inr (by rw [e]; exact k))
theorem pT_full {t : GTick} (h : TG t) {r : List (List UInt8)} (k : KI [[116, 105, 99, 107], [101, 110, 100]] r) : pT (tickB t ++ r) = some (t, r) := by
 unfold tickB
 simp only [List.append_assoc]
 have k6 := ki_ev (head := [119, 114, 105, 116, 101]) (by decide) k (t.Writes.map unW)
 have k5 := ki_ev (head := [115, 116, 114, 97, 121]) (by decide) k6 (t.Strays.map unS)
 have k4 := ki_ev (head := [98, 117, 114, 115, 116]) (by decide) k5 (t.Bursts.map unB)
 have k3 := ki_ev (head := [115, 101, 110, 100]) (by decide) k4 (t.Sends.map unS)
 have k2 := ki_some (head := [100, 101, 108, 97, 121, 115]) (by decide) k3 t.Delays
 unfold pT
 rw [pL_full (by decide) h.u (ki_ne k2 (by decide)), zbs]
 dsimp only
 rw [pL_full (by decide) h.d (ki_ne k3 (by decide)), zbs]
 dsimp only
 rw [pE_full (by decide) (ki_ne k4 (by decide)) (all_un (un := unS) (n := 3) fun x hx => ⟨rfl, h.s x hx⟩), zbs]
 dsimp only
 rw [pE_full (by decide) (ki_ne k5 (by decide)) (all_un (un := unB) (n := 1) fun x hx => ⟨rfl, h.b x hx⟩), zbs]
 dsimp only
 rw [pE_full (by decide) (ki_ne k6 (by decide)) (all_un (un := unS) (n := 3) fun x hx => ⟨rfl, h.y x hx⟩), zbs]
 dsimp only
 rw [pE_full (by decide) (ki_ne k (by decide)) (all_un (un := unW) (n := 1) fun x hx => ⟨rfl, h.w x hx⟩), zbs]
 rw [map_mk (mk := mkS) (un := unS) (fun _ => rfl), map_mk (mk := mkS) (un := unS) (fun _ => rfl), map_mk (mk := mkB) (un := unB) (fun _ => rfl), map_mk (mk := mkW) (un := unW) (fun _ => rfl)]
theorem ki_ticks (ts : List GTick) : KI [[116, 105, 99, 107], [101, 110, 100]] (ts.flatMap tickL ++ [[101, 110, 100]]) := by
 cases ts with
 | nil => exact List.mem_cons.2 (.inr (List.mem_cons.2 (.inl rfl)))
 | cons t ts => exact List.mem_cons.2 (.inl rfl)
theorem pK_full : ∀ {ts : List GTick}, (∀ t ∈ ts, TG t) → ∀ m, ts.length < m → pK m (ts.flatMap tickL ++ [[101, 110, 100]]) = some (ts, [[101, 110, 100]])
 | [], _, m, hm => by
   obtain ⟨m, rfl⟩ : ∃ j, m = j + 1 := ⟨m - 1, by omega⟩
   rw [pK]
   exact if_neg (by decide)
 | t :: ts, h, m, hm => by
   rw [List.length_cons] at hm
   obtain ⟨m, rfl⟩ : ∃ j, m = j + 1 := ⟨m - 1, by omega⟩
   rw [pK, List.flatMap_cons, tickL, List.cons_append, List.cons_append, List.append_assoc]
   rw [if_pos (show kd ([116, 105, 99, 107] :: _) = [116, 105, 99, 107] from rfl), List.head?_cons, if_pos rfl, List.drop_one, List.tail_cons, pT_full (h t (by simp)) (ki_ticks ts), zbs]
   dsimp only
   rw [pK_full (fun x hx => h x (List.mem_cons_of_mem _ hx)) m (by omega)]
   rfl
theorem conf_of (c : GConf) : confOf (confL c) c.Table = c := rfl
theorem pS_full {s : GScript} (h : SD s) (ht : s.Conf.Table ≠ []) : pS (scriptL s) = some s := by
 unfold scriptL headL
 simp only [List.cons_append, List.append_assoc]
 have k := ki_ticks s.Ticks
 have k4 := ki_ev (head := [105, 109, 97, 103, 101]) (by decide) k (s.Images.map unI)
 have k3 := ki_some (head := [102, 97, 117, 108, 116, 121]) (by decide) k4 s.Faulty
 have e2 : kd (someL [116, 97, 98, 108, 101] s.Conf.Table ++ (someL [102, 97, 117, 108, 116, 121] s.Faulty ++ ((s.Images.map unI).map (evL [105, 109, 97, 103, 101]) ++ (s.Ticks.flatMap tickL ++ [[101, 110, 100]])))) = [116, 97, 98, 108, 101] := by
  rw [someL, if_neg ht]
  show (spl 32 (lineL [116, 97, 98, 108, 101] s.Conf.Table)).1 = _
  rw [line_spl0 (by decide)]
 have e1 := pL_full (head := [99, 111, 110, 102]) (by decide) h.c (r := someL [116, 97, 98, 108, 101] s.Conf.Table ++ (someL [102, 97, 117, 108, 116, 121] s.Faulty ++ ((s.Images.map unI).map (evL [105, 109, 97, 103, 101]) ++ (s.Ticks.flatMap tickL ++ [[101, 110, 100]])))) (by rw [e2]; decide)
 rw [someL, if_neg (by simp [confL]), List.singleton_append] at e1
 have e0 : kd (lineL [99, 111, 110, 102] (confL s.Conf) :: (someL [116, 97, 98, 108, 101] s.Conf.Table ++ (someL [102, 97, 117, 108, 116, 121] s.Faulty ++ ((s.Images.map unI).map (evL [105, 109, 97, 103, 101]) ++ (s.Ticks.flatMap tickL ++ [[101, 110, 100]]))))) = [99, 111, 110, 102] := by
  show (spl 32 (lineL [99, 111, 110, 102] (confL s.Conf))).1 = _
  rw [line_spl0 (by decide)]
 unfold pS pHead
 rw [if_pos e0, e1, zbs]
 dsimp only
 rw [if_pos (show (confL s.Conf).length = 10 from rfl), if_pos e2, pL_full (by decide) h.t (ki_ne k3 (by decide)), zbs]
 dsimp only
 rw [pL_full (by decide) h.f (ki_ne k4 (by decide)), zbs]
 dsimp only
 rw [pE_full (by decide) (ki_ne k (by decide)) (all_un (un := unI) (n := 0) fun x hx => ⟨rfl, fun n hn => by cases hn⟩), Option.map_some, zbs]
 dsimp only
 have hl := flat_le (g := fun t => [10] ++ (tickL t).flatMap id) (fun t => by simp) s.Ticks
 have hl2 : ∀ ts : List GTick, ts.length ≤ (ts.flatMap tickL).length := by
  intro ts
  induction ts with
  | nil => simp
  | cons t ts ih => rw [List.flatMap_cons, List.length_append, List.length_cons, tickL, List.length_cons]; omega
 have hl3 := hl2 s.Ticks
 rw [pK_full h.tt _ (by simp only [List.length_cons, List.length_append]; omega), zbs, if_pos rfl, map_mk (mk := fun e : List Int × List UInt8 => e.2) (un := unI) (fun _ => rfl), conf_of]
 rfl
theorem spl_lnT : ∀ (L : List (List UInt8)), (∀ x ∈ L, (10 : UInt8) ∉ x) → (spl 10 (lnT L)).1 :: (spl 10 (lnT L)).2 = L ++ [[]]
 | [], _ => rfl
 | x :: L, h => by
   have e : lnT (x :: L) = x ++ 10 :: lnT L := by unfold lnT; rw [List.flatMap_cons, List.append_assoc]; rfl
   rw [e, spl_app _ (h x (by simp))]
   dsimp only
   rw [spl_lnT L fun y hy => h y (List.mem_cons_of_mem _ hy)]
   rfl
theorem lns_lnT {L : List (List UInt8)} (h : ∀ x ∈ L, (10 : UInt8) ∉ x) : lns (lnT L) = L ∧ lst (lnT L) = [] := by
 unfold lns lst
 have e := spl_lnT L h
 constructor
 ·rw [e, List.dropLast_concat]
 ·simp only [e]
  rw [List.getLast_concat]
theorem line_no {head : List UInt8} (hh : (10 : UInt8) ∉ head) (ns : List Int) : (10 : UInt8) ∉ lineL head ns := by
 intro h
 unfold lineL at h
 rcases List.mem_append.1 h with h | h
 ·exact hh h
 ·obtain ⟨n, -, hn⟩ := List.mem_flatMap.1 h
  rcases List.mem_cons.1 hn with e | hn
  ·cases e
  ·exact itoa_no 10 (.inl rfl) hn
theorem some_no {head : List UInt8} (hh : (10 : UInt8) ∉ head) (ns : List Int) : ∀ x ∈ someL head ns, (10 : UInt8) ∉ x := fun x hx => by
 unfold someL at hx
 split at hx
 ·cases hx
 ·simp only [List.mem_singleton] at hx
  subst hx
  exact line_no hh ns
theorem ev_no {head : List UInt8} (hh : (10 : UInt8) ∉ head) (es : List (List Int × List UInt8)) : ∀ x ∈ es.map (evL head), (10 : UInt8) ∉ x := fun x hx => by
 obtain ⟨e, -, rfl⟩ := List.mem_map.1 hx
 unfold evL
 intro h
 rcases List.mem_append.1 h with h | h
 ·exact line_no hh _ h
 ·rcases List.mem_cons.1 h with e | h
  ·cases e
  ·exact word_no _ 10 (.inl rfl) h
theorem script_no (s : GScript) : ∀ x ∈ scriptL s, (10 : UInt8) ∉ x := fun x hx => by
 unfold scriptL headL at hx
 simp only [List.mem_append, List.mem_cons, List.mem_flatMap, List.not_mem_nil, or_false] at hx
 rcases hx with (rfl | hx | hx | hx) | ⟨t, ht, hx⟩ | rfl
 ·exact line_no (by decide) _
 ·exact some_no (by decide) _ x hx
 ·exact some_no (by decide) _ x hx
 ·exact ev_no (by decide) _ x hx
 ·unfold tickL tickB at hx
  simp only [List.mem_append, List.mem_cons] at hx
  rcases hx with rfl | hx | hx | hx | hx | hx | hx
  ·decide
  ·exact some_no (by decide) _ x hx
  ·exact some_no (by decide) _ x hx
  ·exact ev_no (by decide) _ x hx
  ·exact ev_no (by decide) _ x hx
  ·exact ev_no (by decide) _ x hx
  ·exact ev_no (by decide) _ x hx
 ·decide
theorem read_script {s : GScript} (h : ScG s) (hs : SIn s) (ht : s.Conf.Table ≠ []) (hv : scriptV s = 0) : lines_Read (scriptT s) = some (s, 0, 0) := by
 obtain ⟨e1, e2⟩ := lns_lnT (script_no s)
 rw [lnT_script] at e1 e2
 have := (read_out (scriptT s) h.len).2 s (by rw [e1]; exact pS_full ⟨h.c, h.t, h.f, h.tt⟩ ht) e2 hs
 rw [if_pos hv] at this
 exact this
theorem every_true (f : Int → Option (Int ⊕ (Bool ⊕ Unit))) (n : Nat) (h : ∀ k : Nat, k < n → f (k : Int) = some (.inl ((k : Int) + 1))) (he : f (n : Int) = some (.inr (.inr ()))) : loopO f 0 = some (.inr ()) := by
 classical
 have := loopO_all (f := f) n (fun _ => True) (fun k hk => by rw [h k hk, if_pos trivial]) he
 rw [this, if_pos fun _ _ => trivial]
theorem ints_same (l : List Int) (hl : l.length ≤ 100000000) : r33_ints l l = some true := by
 have L := every_true (fun s => r33_ints_0_step l l s) l.length (fun k hk => by
  simp only [r33_ints_0_step]
  rw [if_pos (by omega), idx_get (zge hk), zbs, zbs, if_neg (not_not_intro rfl), wrI rfl (by omega)]) (by simp only [r33_ints_0_step]; rw [if_neg (by omega)])
 unfold r33_ints r33_ints_0
 rw [if_neg (not_not_intro rfl), L]
 rfl
theorem sends_same (l : List GSend) (hl : l.length ≤ 100000000) : r33_sends l l = some true := by
 have L := every_true (fun s => r33_sends_0_step l l s) l.length (fun k hk => by
  simp only [r33_sends_0_step]
  rw [if_pos (by omega), idx_get (zge hk), zbs, zbs, wrI rfl (by omega)]
  simp) (by simp only [r33_sends_0_step]; rw [if_neg (by omega)])
 unfold r33_sends r33_sends_0
 rw [if_neg (not_not_intro rfl), L]
 rfl
theorem tick_same (t : GTick) (h : TIn t) : r33_same t t = some true := by
 have h3 := h.b
 have h4 := h.w
 have L0 := every_true (fun s => r33_same_0_step t t s) t.Bursts.length (fun k hk => by
  simp only [r33_same_0_step]
  rw [if_pos (by omega), idx_get (zge hk), zbs, zbs, wrI rfl (by omega)]
  simp) (by simp only [r33_same_0_step]; rw [if_neg (by omega)])
 have L1 := every_true (fun s => r33_same_1_step t t s) t.Writes.length (fun k hk => by
  simp only [r33_same_1_step]
  rw [if_pos (by omega), idx_get (zge hk), zbs, zbs, wrI rfl (by omega)]
  simp) (by simp only [r33_same_1_step]; rw [if_neg (by omega)])
 unfold r33_same r33_same_0 r33_same_1
 rw [ints_same _ h.u, ints_same _ h.d, sends_same _ h.s, sends_same _ h.y, L0, L1]
 simp
theorem script_same (s : GScript) (h : SIn s) (hc : s.Conf.Table.length ≤ 100000000) : r33_Same s s = some true := by
 have h3 := h.i
 have h4 := h.t
 have L0 := every_true (fun z => r33_Same_0_step s s s.Conf s.Conf z) s.Images.length (fun k hk => by
  simp only [r33_Same_0_step]
  rw [if_pos (by omega), idx_get (zge hk), zbs, zbs, if_neg (not_not_intro rfl), wrI rfl (by omega)]) (by simp only [r33_Same_0_step]; rw [if_neg (by omega)])
 have L1 := every_true (fun z => r33_Same_1_step s s s.Conf s.Conf z) s.Ticks.length (fun k hk => by
  simp only [r33_Same_1_step]
  rw [if_pos (by omega), idx_get (zge hk), zbs, zbs, tick_same _ (h.tt _ (List.getElem_mem hk)), zbs, wrI rfl (by omega)]
  rfl) (by simp only [r33_Same_1_step]; rw [if_neg (by omega)])
 unfold r33_Same r33_Same_0 r33_Same_1
 rw [ints_same _ (by simp), ints_same _ hc, ints_same _ h.f, L0, L1]
 simp
theorem LinesBack_true (s : GScript) (h : GScript.In s) (hb : bkL [GScript.av s] ≤ 1048576) : l40_LinesBack s = some true := by
 unfold l40_LinesBack
 obtain ⟨b, e, hf⟩ := few_eq s
 rw [e, zbs]
 cases b with
 | false => rfl
 | true =>
   have hf := hf rfl
   have hs := few_sin hf (in_cin h)
   rw [if_neg (show ¬ (!true) = true by decide), r33_right s hs, zbs]
   by_cases hv : scriptV s = 0
   ·have hr := sr_of hv
    have h1 := hf.t
    have h2 := hf.f
    have h3 := hf.c
    have hg := sr_scg hr (by omega) (by omega)
    obtain ⟨-, -, -, ⟨t1, t2, -⟩⟩ := hr.c
    rw [if_neg (not_not_intro hv), writes_eq hs hf, if_pos hv, zbs]
    dsimp only
    rw [read_script hg hs (fun e => by rw [e] at t1; simp at t1) hv, zbs, if_pos rfl]
    dsimp only
    rw [if_pos rfl, if_pos rfl, script_same s hs (by omega), zbs, if_pos rfl]
    rfl
   ·rw [if_pos hv]
    rfl
theorem LinesBack_law (l : List AV) (h : ArgsOf [([.i .i64, .i .i64, .i .i64, .i .i64, .i .i64, .i .i64, .i .i64, .i .i64, .i .i64, .i .i64, .l [.i .i64] false, .l [.i .i64] false, .l [.s] false, .l [.l [.i .i64] false, .l [.i .i64] false, .l [.i .i64, .i .i64, .i .i64, .s] true, .l [.i .i64, .s] true, .l [.i .i64, .i .i64, .i .i64, .s] true, .l [.i .i64, .s] true] true], true)] l) (hb : bkL l ≤ 1048576) : LM.call n_l40_LinesBack l [] = some (.bool true, []) := by
 obtain ⟨y0, _, rfl, p0, h⟩ := GScript.dec.arg h
 obtain rfl := Dec.end_ h
 obtain ⟨q, e, rfl⟩ := l40_LinesBack_sim y0 true (LinesBack_true y0 p0 hb)
 exact e
end Go.Proofs.YtfjlpfjpidikjaaGreatDoor
