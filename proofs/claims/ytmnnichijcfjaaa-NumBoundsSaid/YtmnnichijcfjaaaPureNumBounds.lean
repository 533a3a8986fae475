/-
  NumBounds: the printed meaning of the statement tells true for all three whole numbers within 64 bits: Clamp, Mod and Sat answer as those of the document. No condition beyond the size of the numbers.
-/
import Derived.Test.YtmnnichijcfjaaaPNumBoundsx2
import Derived.OpenShut
namespace Go.Proofs.Ytmnnichijcfjaaa.Pure
open Go.RowKit Go.Proofs.Ytmnnichijcfjaaa.PNumBounds Go.Proofs.YtmnnichijcfjaaaW.PrintWords Go.Proofs.YtmnnichijcfjaaaW.PrintLast
set_option linter.unusedVariables false
set_option linter.unusedSimpArgs false

theorem kn (k : Nat) : bellwetherlaw01_known.f (k + 20) = some true := by
  have h : bellwetherlaw01_known.f 20 = some true := by kernel_rfl
  induction k with
  | zero => exact h
  | succ k ih => rw [Nat.add_right_comm]; exact bellwetherlaw01_known.mono _ _ ih

theorem clamp_f (k : Nat) (x l h : Int) : num_Clamp.f (k + 1) x l h = some (if x < l ∨ h < l then l else if x > h then h else x) := by
  simp only [num_Clamp.f, num_Clamp.j0, decide_eq_true_eq]
  split <;> split <;> first | rfl | (split <;> (first | rfl | (simp_all; done) | (simp_all; omega))) | (simp_all; done)

theorem mod_f (x b : Int) : num_Mod.f x b = some (if b < 1 then 0 else if Int.tmod x b < 0 then wrap64 (Int.tmod x b + b) else Int.tmod x b) := by
  simp only [num_Mod.f]
  by_cases h : b < 1
  · simp [h]
  · rw [if_neg h, if_neg h, if_neg (by omega)]; split <;> rfl

theorem sat_f (k : Nat) (x m : Int) : num_Sat.f (k + 1) x m = some (if x < 0 ∨ m < 0 then 0 else if x ≥ m then m else wrap64 (x + 1)) := by
  simp only [num_Sat.f, num_Sat.j0, decide_eq_true_eq]
  by_cases h : x < 0
  · simp [h]
  · by_cases h' : m < 0
    · simp only [h, h', if_false, if_true, or_true, decide_true, decide_eq_true_eq]
    · simp only [h, h', if_false, false_or]; split <;> rfl

theorem rsat_f (k : Nat) (x m : Int) : bellwetherref01_Sat.f (k + 1) x m = some (if x < 0 ∨ m < 0 then 0 else if x ≥ m then m else wrap64 (x + 1)) := by
  simp only [bellwetherref01_Sat.f, bellwetherref01_Sat.j0, decide_eq_true_eq]
  by_cases h : x < 0
  · simp [h]
  · by_cases h' : m < 0
    · simp [h']
    · simp only [h, h', if_false, false_or]; split <;> rfl
theorem rclamp_f (x l h : Int) : bellwetherref01_Clamp.f x l h = some (if x < l ∨ h < l then l else if x > h then h else x) := by
  simp only [bellwetherref01_Clamp.f, mn]
  by_cases h1 : x < l
  · simp [h1]
  · by_cases h2 : h < l
    · simp [h2]
    · simp only [h1, h2, if_false, false_or, Option.some.injEq, gt_iff_lt]
theorem rmod_f (x b : Int) : bellwetherref01_Mod.f x b = num_Mod.f x b := rfl

theorem NumBounds : bellwetherlaw01_NumBounds.Pure := by
  intro x b m hx hb hm
  refine ⟨21, ?_⟩
  have := kn 1
  simp only [bellwetherlaw01_NumBounds.f, clamp_f, rclamp_f, Option.bind_some, if_true, mod_f, rmod_f, sat_f, rsat_f, this]

end Go.Proofs.Ytmnnichijcfjaaa.Pure
