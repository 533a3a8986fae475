/-
  NumLeft: the printed meaning of the statement tells true for all three whole numbers within 64 bits: the rest of a division is at least nought and below the divisor, and one more never goes past the limit. No condition beyond the size of the numbers.
-/
import Derived.Test.YtmnnichijcfjaaaPNumLeftx2
import Derived.OpenShut
namespace Go.Proofs.Ytmnnichijcfjaaa.Pure
open Go.RowKit Go.Proofs.Ytmnnichijcfjaaa.PNumLeft Go.Proofs.YtmnnichijcfjaaaW.PrintWords Go.Proofs.YtmnnichijcfjaaaW.PrintLast
set_option linter.unusedVariables false
set_option linter.unusedSimpArgs false

theorem kn (k : Nat) : bellwetherlaw01_known.f (k + 20) = some true := by
  have h : bellwetherlaw01_known.f 20 = some true := by kernel_rfl
  induction k with
  | zero => exact h
  | succ k ih => rw [Nat.add_right_comm]; exact bellwetherlaw01_known.mono _ _ ih

theorem clamp_f (k : Nat) (x l h : Int) : num_Clamp.f (k + 1) x l h = some (if x < l ∨ h < l then l else if x > h then h else x) := by
  simp only [num_Clamp.f, num_Clamp.j0, decide_eq_true_eq]
  split <;> split <;> first | rfl | (split <;> (first | rfl | (simp_all; done) | (simp_all; omega))) | (simp_all; done)

theorem mod_f (x b : Int) : num_Mod.f x b = some (if b < 1 then 0 else if Int.tmod x b < 0 then wrap64 (Int.tmod x b + b) else Int.tmod x b) := by
  simp only [num_Mod.f]
  by_cases h : b < 1
  · simp [h]
  · rw [if_neg h, if_neg h, if_neg (by omega)]; split <;> rfl

theorem sat_f (k : Nat) (x m : Int) : num_Sat.f (k + 1) x m = some (if x < 0 ∨ m < 0 then 0 else if x ≥ m then m else wrap64 (x + 1)) := by
  simp only [num_Sat.f, num_Sat.j0, decide_eq_true_eq]
  by_cases h : x < 0
  · simp [h]
  · by_cases h' : m < 0
    · simp only [h, h', if_false, if_true, or_true, decide_true, decide_eq_true_eq]
    · simp only [h, h', if_false, false_or]; split <;> rfl

/-- The rest of a whole division by a positive number, brought up. -/
theorem mod_props {x b : Int} (hx : -9223372036854775808 ≤ x ∧ x ≤ 9223372036854775807) (hb : 1 ≤ b) (hb' : b ≤ 9223372036854775807) :
    ∃ r, num_Mod.f x b = some r ∧ 0 ≤ r ∧ r < b ∧ Int.tmod (wrap64 (Int.tmod x b - r)) b = 0 := by
  have h1 : Int.tmod x b < b := Int.tmod_lt_of_pos x (by omega)
  have h2 : -b < Int.tmod x b := Int.lt_tmod_of_pos x (by omega)
  rw [mod_f, if_neg (by omega)]
  by_cases h : Int.tmod x b < 0
  · rw [if_pos h]
    have e : wrap64 (Int.tmod x b + b) = Int.tmod x b + b := by unfold wrap64; omega
    refine ⟨_, rfl, by omega, by omega, ?_⟩
    rw [e]
    have e2 : wrap64 (Int.tmod x b - (Int.tmod x b + b)) = -b := by unfold wrap64; omega
    rw [e2, Int.neg_tmod, Int.tmod_self]; rfl
  · rw [if_neg h]
    refine ⟨_, rfl, by omega, by omega, ?_⟩
    rw [Int.sub_self]
    have e3 : wrap64 0 = 0 := by unfold wrap64; omega
    rw [e3, Int.zero_tmod]

theorem tail_ok (k : Nat) (x m : Int) (hx : -9223372036854775808 ≤ x ∧ x ≤ 9223372036854775807) (hm : -9223372036854775808 ≤ m ∧ m ≤ 9223372036854775807) :
    bellwetherlaw01_NumLeft.j0 (k + 21) x m false = some true := by
  simp only [bellwetherlaw01_NumLeft.j0, sat_f, Option.bind_some, kn]
  have hw : 0 ≤ x → x < m → wrap64 (x + 1) = x + 1 := by intro _ _; unfold wrap64; omega
  have hw2 : 0 ≤ x → x < m → wrap64 (x + 1 - 1) = x := by intro _ _; unfold wrap64; omega
  by_cases h0 : x ≥ 0
  · by_cases h1 : m ≥ 0
    · have hn : ¬ (x < 0 ∨ m < 0) := by omega
      by_cases h2 : x ≥ m
      · simp [h0, h1, hn, h2]; omega
      · have h3 := hw h0 (by omega)
        have h4 := hw2 h0 (by omega)
        simp only [h0, h1, hn, h2, if_true, if_false, h3, h4]
        simp; omega
    · simp [h0, h1]
  · simp [h0]

theorem NumLeft : bellwetherlaw01_NumLeft.Pure := by
  intro x b m hx hb hm
  have hx := Go.bounds_i64 hx
  have hb := Go.bounds_i64 hb
  have hm := Go.bounds_i64 hm
  refine ⟨21, ?_⟩
  simp only [bellwetherlaw01_NumLeft.f]
  by_cases h : b < 1
  · have := kn 1
    simp [mod_f, h, this]
  · obtain ⟨r, e, h0, h1, h2⟩ := mod_props hx (b := b) (by omega) (by omega)
    rw [e]
    simp only [Option.bind_some]
    rw [if_neg h, if_neg (by omega), if_neg (by omega), if_neg (by omega), h2]
    exact tail_ok 0 x m hx hm

end Go.Proofs.Ytmnnichijcfjaaa.Pure
