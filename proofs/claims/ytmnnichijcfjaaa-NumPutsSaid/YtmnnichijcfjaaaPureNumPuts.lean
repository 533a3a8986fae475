/-
  NumPuts: the printed meaning of the statement tells true: Put and Get answer as those of the document. Conditions: numbers within 64 bits, texts of at most 140737488351232 bytes.
-/
import Derived.Test.YtmnnichijcfjaaaPNumPutsx3
import Derived.OpenShut
import Derived.Laws.BitsLemmas
namespace Go.Proofs.Ytmnnichijcfjaaa.Pure
open Go.RowKit Go.Proofs.Ytmnnichijcfjaaa.PNumPuts Go.Proofs.YtmnnichijcfjaaaW.PrintWords Go.Proofs.YtmnnichijcfjaaaW.PrintLast
set_option linter.unusedVariables false
set_option linter.unusedSimpArgs false

theorem kn (k : Nat) : bellwetherlaw01_known.f (k + 20) = some true := by
  have h : bellwetherlaw01_known.f 20 = some true := by kernel_rfl
  induction k with
  | zero => exact h
  | succ k ih => rw [Nat.add_right_comm]; exact bellwetherlaw01_known.mono _ _ ih

theorem clamp_f (k : Nat) (x l h : Int) : num_Clamp.f (k + 1) x l h = some (if x < l ∨ h < l then l else if x > h then h else x) := by
  simp only [num_Clamp.f, num_Clamp.j0, decide_eq_true_eq]
  split <;> split <;> first | rfl | (split <;> (first | rfl | (simp_all; done) | (simp_all; omega))) | (simp_all; done)

theorem mod_f (x b : Int) : num_Mod.f x b = some (if b < 1 then 0 else if Int.tmod x b < 0 then wrap64 (Int.tmod x b + b) else Int.tmod x b) := by
  simp only [num_Mod.f]
  by_cases h : b < 1
  · simp [h]
  · rw [if_neg h, if_neg h, if_neg (by omega)]; split <;> rfl

theorem sat_f (k : Nat) (x m : Int) : num_Sat.f (k + 1) x m = some (if x < 0 ∨ m < 0 then 0 else if x ≥ m then m else wrap64 (x + 1)) := by
  simp only [num_Sat.f, num_Sat.j0, decide_eq_true_eq]
  by_cases h : x < 0
  · simp [h]
  · by_cases h' : m < 0
    · simp only [h, h', if_false, if_true, or_true, decide_true, decide_eq_true_eq]
    · simp only [h, h', if_false, false_or]; split <;> rfl

/-- What Put answers. -/
def pspec (v : Int) (n : Int) : ByteArray × Int :=
  if n < 1 ∨ 4 < n then (⟨#[]⟩, 2) else if v < 0 ∨ (2 : Int) ^ (8 * n).toNat ≤ v then (⟨#[]⟩, 6)
  else (strOfNums ((List.range n.toNat).map (fun (i : Nat) => v / (2 : Int) ^ (8 * i) % 256)), 0)
/-- What Get answers. -/
def gspec (s : ByteArray) (p n : Int) : Int × Int :=
  if n < 1 ∨ 4 < n ∨ p < 0 then (0, 2) else if (s.size : Int) < p + n then (0, 5)
  else (((List.range n.toNat).map (fun (i : Nat) => bt s (p + i) * (2 : Int) ^ (8 * i))).sum, 0)

theorem shr_pow (v m : Int) (h : m.toNat ≤ 64 := by decide +kernel) : shr .i64 v m = v / 2 ^ m.toNat := by
  have : min m.toNat IntKind.i64.bits = m.toNat := Nat.min_eq_left h
  simp only [shr, this]
theorem wl (n : Int) (h : 0 ≤ n ∧ n ≤ 64 := by decide) : wrap64 n = n := by unfold wrap64; omega
theorem four {n : Int} (h : ¬ (n < 1 ∨ 4 < n)) : n = 1 ∨ n = 2 ∨ n = 3 ∨ n = 4 := by omega
theorem sdiv (v : Int) (m : Int) (hm : 0 < m) : (v / m != 0) = decide (v < 0 ∨ m ≤ v) := by
  by_cases h : v < 0 ∨ m ≤ v
  · rw [decide_eq_true h, bne_iff_ne]
    intro e
    have h1 := Int.emod_add_mul_ediv v m
    have h2 := Int.emod_nonneg v (by omega : m ≠ 0)
    have h3 := Int.emod_lt_of_pos v hm
    rw [e] at h1
    omega
  · rw [decide_eq_false h, bne_eq_false_iff_eq]
    exact Int.ediv_eq_zero_of_lt (by omega) (by omega)

theorem put_f (k : Nat) (v n : Int) : num_Put.f (k + 6) v n = some (pspec v n) := by
  by_cases hn : n < 1 ∨ 4 < n
  · have h1 : num_fits.f n = some false := by
      simp only [num_fits.f]
      by_cases h : n ≥ 1
      · rw [if_pos h, decide_eq_false (by omega)]
      · rw [if_neg h]
    simp [num_Put.f, h1, pspec, hn]
  · have h1 : num_fits.f n = some true := by simp only [num_fits.f]; rw [if_pos (by omega), decide_eq_true (by omega)]
    simp only [pspec, hn, if_false, num_Put.f, h1, Option.bind_some, if_true]
    rcases four hn with rfl | rfl | rfl | rfl
    · by_cases hv : v < 0
      · simp [hv, num_Put.j0]
      · simp only [hv, if_false, false_or]
        rw [if_pos (by decide +kernel), shr_pow v _, sdiv v _ (by decide +kernel)]
        have e : (2 : Int) ^ (wrap64 (8 * 1)).toNat = 256 := by decide +kernel
        have e' : (2 : Int) ^ (8 * 1 : Int).toNat = 256 := by decide +kernel
        rw [e, e']
        by_cases hq : 256 ≤ v
        · rw [decide_eq_true (Or.inr hq)]; simp [num_Put.j0, hq]
        · rw [decide_eq_false (by omega)]
          simp [num_Put.j0, num_Put.l0, hq, shr_pow v 0, shr_pow v 8, shr_pow v 16, shr_pow v 24, Int.reduceToNat, wl 0, wl 1, wl 2, wl 3, wl 4, wl 8, wl 16, wl 24, List.replicate, List.range_succ]
    · by_cases hv : v < 0
      · simp [hv, num_Put.j0]
      · simp only [hv, if_false, false_or]
        rw [if_pos (by decide +kernel), shr_pow v _, sdiv v _ (by decide +kernel)]
        have e : (2 : Int) ^ (wrap64 (8 * 2)).toNat = 65536 := by decide +kernel
        have e' : (2 : Int) ^ (8 * 2 : Int).toNat = 65536 := by decide +kernel
        rw [e, e']
        by_cases hq : 65536 ≤ v
        · rw [decide_eq_true (Or.inr hq)]; simp [num_Put.j0, hq]
        · rw [decide_eq_false (by omega)]
          simp [num_Put.j0, num_Put.l0, hq, shr_pow v 0, shr_pow v 8, shr_pow v 16, shr_pow v 24, Int.reduceToNat, wl 0, wl 1, wl 2, wl 3, wl 4, wl 8, wl 16, wl 24, List.replicate, List.range_succ]
    · by_cases hv : v < 0
      · simp [hv, num_Put.j0]
      · simp only [hv, if_false, false_or]
        rw [if_pos (by decide +kernel), shr_pow v _, sdiv v _ (by decide +kernel)]
        have e : (2 : Int) ^ (wrap64 (8 * 3)).toNat = 16777216 := by decide +kernel
        have e' : (2 : Int) ^ (8 * 3 : Int).toNat = 16777216 := by decide +kernel
        rw [e, e']
        by_cases hq : 16777216 ≤ v
        · rw [decide_eq_true (Or.inr hq)]; simp [num_Put.j0, hq]
        · rw [decide_eq_false (by omega)]
          simp [num_Put.j0, num_Put.l0, hq, shr_pow v 0, shr_pow v 8, shr_pow v 16, shr_pow v 24, Int.reduceToNat, wl 0, wl 1, wl 2, wl 3, wl 4, wl 8, wl 16, wl 24, List.replicate, List.range_succ]
    · by_cases hv : v < 0
      · simp [hv, num_Put.j0]
      · simp only [hv, if_false, false_or]
        rw [if_pos (by decide +kernel), shr_pow v _, sdiv v _ (by decide +kernel)]
        have e : (2 : Int) ^ (wrap64 (8 * 4)).toNat = 4294967296 := by decide +kernel
        have e' : (2 : Int) ^ (8 * 4 : Int).toNat = 4294967296 := by decide +kernel
        rw [e, e']
        by_cases hq : 4294967296 ≤ v
        · rw [decide_eq_true (Or.inr hq)]; simp [num_Put.j0, hq]
        · rw [decide_eq_false (by omega)]
          simp [num_Put.j0, num_Put.l0, hq, shr_pow v 0, shr_pow v 8, shr_pow v 16, shr_pow v 24, Int.reduceToNat, wl 0, wl 1, wl 2, wl 3, wl 4, wl 8, wl 16, wl 24, List.replicate, List.range_succ]

theorem or_sum (x b : Int) (i : Nat) (hi : i ≤ 24) (hx : 0 ≤ x) (hx' : x < 2 ^ i) (hb : 0 ≤ b ∧ b ≤ 255) : Go.bits .or .i64 x (b * 2 ^ i) = x + b * 2 ^ i := by
  have hp : (2 : Int) ^ i ≤ 2 ^ 24 := by exact_mod_cast Nat.pow_le_pow_right (by decide +kernel : 2 > 0) hi
  have hp0 : (0 : Int) < 2 ^ i := Int.pow_pos (by decide +kernel)
  have e : Go.bits .or .i64 x (b * 2 ^ i) = Go.bits .or .i64 (b * 2 ^ i) x := by
    simp only [Go.bits]; rw [BitVec.or_comm]
  have hb2 : b * 2 ^ i ≤ 255 * 2 ^ 24 := Int.mul_le_mul hb.2 hp (by omega) (by decide +kernel)
  rw [e, Go.bits_join .i64 40 (by decide +kernel) (by intro n h0 h1; rw [Go.IntKind.wrap_i64]; omega) i (b * 2 ^ i) x (Int.mul_nonneg hb.1 (by omega)) (Int.mul_emod_left b _) (by omega) hx hx' (by omega)]
  omega

theorem shl_b (b : Int) (hb : 0 ≤ b ∧ b ≤ 255) (j : Int) (i : Nat) (hj : j.toNat = i) (hi : i ≤ 24) : shl .i64 (wrap64 b) j = b * 2 ^ i := by
  have hp : (2 : Int) ^ i ≤ 2 ^ 24 := by exact_mod_cast Nat.pow_le_pow_right (by decide +kernel : 2 > 0) hi
  have hp0 : (0 : Int) < 2 ^ i := Int.pow_pos (by decide +kernel)
  have hb2 : b * 2 ^ i ≤ 255 * 2 ^ 24 := Int.mul_le_mul hb.2 hp (by omega) (by decide +kernel)
  have hb3 : 0 ≤ b * 2 ^ i := Int.mul_nonneg hb.1 (by omega)
  have e : wrap64 b = b := by unfold wrap64; omega
  simp only [shl, hj, e]
  rw [show min i IntKind.i64.bits = i from Nat.min_eq_left (by simp [IntKind.bits]; omega), Go.IntKind.wrap_i64]
  omega

theorem get_f (k : Nat) (s : ByteArray) (p n : Int) (hs : s.size ≤ 281474976710656) (hp : p ≤ 9223372036854775807) : num_Get.f (k + 8) s p n = some (gspec s p n) := by
  by_cases hn : n < 1 ∨ 4 < n
  · have h1 : num_fits.f n = some false := by
      simp only [num_fits.f]
      by_cases h : n ≥ 1
      · rw [if_pos h, decide_eq_false (by omega)]
      · rw [if_neg h]
    have : n < 1 ∨ 4 < n ∨ p < 0 := by omega
    simp [num_Get.f, h1, gspec, this, num_Get.j0]
  · have h1 : num_fits.f n = some true := by simp only [num_fits.f]; rw [if_pos (by omega), decide_eq_true (by omega)]
    simp only [num_Get.f, h1, Option.bind_some, if_true]
    by_cases hp0 : p < 0
    · have : n < 1 ∨ 4 < n ∨ p < 0 := by omega
      simp [num_Get.j0, gspec, hp0]
    · have hg : ¬ (n < 1 ∨ 4 < n ∨ p < 0) := by omega
      simp only [gspec, hg, if_false, decide_eq_false hp0, num_Get.j0, Bool.false_eq_true]
      by_cases h2 : p > (s.size : Int)
      · rw [if_pos h2, if_pos (by omega)]; simp [num_Get.j1]
      · rw [if_neg h2]
        have hw : wrap64 ((s.size : Int) - p) = (s.size : Int) - p := by unfold wrap64; omega
        rw [hw]
        by_cases h3 : (s.size : Int) < p + n
        · rw [if_pos h3, decide_eq_true (by omega)]; simp [num_Get.j1]
        · rw [if_neg h3, decide_eq_false (by omega)]
          simp only [num_Get.j1, Bool.false_eq_true, if_false]
          have w0 : ∀ j : Int, 0 ≤ j → j ≤ 4 → wrap64 (p + j) = p + j := by intro j _ _; unfold wrap64; omega
          have b0 := bt_range s (p + 0)
          have b1 := bt_range s (p + 1)
          have b2 := bt_range s (p + 2)
          have b3 := bt_range s (p + 3)
          have s0 := shl_b _ b0 (wrap64 (8 * 0)) 0 (by decide +kernel) (by decide +kernel)
          have s1 := shl_b _ b1 (wrap64 (8 * 1)) 8 (by decide +kernel) (by decide +kernel)
          have s2 := shl_b _ b2 (wrap64 (8 * 2)) 16 (by decide +kernel) (by decide +kernel)
          have s3 := shl_b _ b3 (wrap64 (8 * 3)) 24 (by decide +kernel) (by decide +kernel)
          have o0 := or_sum 0 (bt s (p + 0)) 0 (by decide +kernel) (by omega) (by omega) b0
          have o1 := or_sum (bt s (p + 0)) (bt s (p + 1)) 8 (by decide +kernel) (by omega) (by omega) b1
          have o2 := or_sum (bt s (p + 0) + bt s (p + 1) * 2 ^ 8) (bt s (p + 2)) 16 (by decide +kernel) (by omega) (by omega) b2
          have o3 := or_sum (bt s (p + 0) + bt s (p + 1) * 2 ^ 8 + bt s (p + 2) * 2 ^ 16) (bt s (p + 3)) 24 (by decide +kernel) (by omega) (by omega) b3
          have o0' : Go.bits .or .i64 0 (bt s (p + 0) * 2 ^ 0) = bt s (p + 0) := by rw [o0]; omega
          have i1 : wrap64 (0 + 1) = 1 := by decide +kernel
          have i2 : wrap64 (1 + 1) = 2 := by decide +kernel
          have i3 : wrap64 (2 + 1) = 3 := by decide +kernel
          have i4 : wrap64 (3 + 1) = 4 := by decide +kernel
          rcases four hn with rfl | rfl | rfl | rfl
          · rw [num_Get.l0, if_pos (by decide +kernel), w0 0 (by omega) (by omega), if_pos (by omega), if_pos (by omega), if_pos (by decide +kernel), s0, o0', i1, num_Get.l0, if_neg (by decide +kernel)]
            simp [List.range_succ]
          · rw [num_Get.l0, if_pos (by decide +kernel), w0 0 (by omega) (by omega), if_pos (by omega), if_pos (by omega), if_pos (by decide +kernel), s0, o0', i1,
              num_Get.l0, if_pos (by decide +kernel), w0 1 (by omega) (by omega), if_pos (by omega), if_pos (by omega), if_pos (by decide +kernel), s1, o1, i2, num_Get.l0, if_neg (by decide +kernel)]
            simp [List.range_succ]
          · rw [num_Get.l0, if_pos (by decide +kernel), w0 0 (by omega) (by omega), if_pos (by omega), if_pos (by omega), if_pos (by decide +kernel), s0, o0', i1,
              num_Get.l0, if_pos (by decide +kernel), w0 1 (by omega) (by omega), if_pos (by omega), if_pos (by omega), if_pos (by decide +kernel), s1, o1, i2,
              num_Get.l0, if_pos (by decide +kernel), w0 2 (by omega) (by omega), if_pos (by omega), if_pos (by omega), if_pos (by decide +kernel), s2, o2, i3, num_Get.l0, if_neg (by decide +kernel)]
            simp [List.range_succ, Int.add_assoc]
          · rw [num_Get.l0, if_pos (by decide +kernel), w0 0 (by omega) (by omega), if_pos (by omega), if_pos (by omega), if_pos (by decide +kernel), s0, o0', i1,
              num_Get.l0, if_pos (by decide +kernel), w0 1 (by omega) (by omega), if_pos (by omega), if_pos (by omega), if_pos (by decide +kernel), s1, o1, i2,
              num_Get.l0, if_pos (by decide +kernel), w0 2 (by omega) (by omega), if_pos (by omega), if_pos (by omega), if_pos (by decide +kernel), s2, o2, i3,
              num_Get.l0, if_pos (by decide +kernel), w0 3 (by omega) (by omega), if_pos (by omega), if_pos (by omega), if_pos (by decide +kernel), s3, o3, i4, num_Get.l0, if_neg (by decide +kernel)]
            simp [List.range_succ, Int.add_assoc]

theorem nums_app (xs ys : List Int) : strOfNums xs ++ strOfNums ys = strOfNums (xs ++ ys) := by
  simp [strOfNums, ByteArray.ext_iff]

theorem rput_l0 (k : Nat) (v n : Int) (xs : List Int) (i : Int) (hv : 0 ≤ v ∧ v ≤ 9223372036854775807) (hi : i < n) (hx : xs.length ≤ 4) :
    bellwetherref01_Put.l0 (k + 1) v n (strOfNums xs) i = bellwetherref01_Put.l0 k (v / 256) n (strOfNums (xs ++ [v % 256])) (wrap64 (i + 1)) := by
  have h1 : Int.tmod v 256 % 256 = v % 256 := by rw [Int.tmod_eq_emod_of_nonneg hv.1]; omega
  have h2 : wrap64 (Int.tdiv v 256) = v / 256 := by rw [Int.tdiv_eq_ediv_of_nonneg hv.1]; unfold wrap64; omega
  rw [bellwetherref01_Put.l0, if_pos hi, bellwetherref01_Byte.f, Option.bind_some, h1, h2, nums_app, if_pos]
  rw [strOfNums_size, strOfNums_size]; simp; omega

theorem room_f (k : Nat) (n : Int) (hn : ¬ (n < 1 ∨ 4 < n)) : bellwetherref01_room.f (k + 5) n = some (2 ^ (8 * n).toNat) := by
  rcases four hn with rfl | rfl | rfl | rfl
  · have h : bellwetherref01_room.f 5 1 = some 256 := by kernel_rfl
    exact up h k
  · have h : bellwetherref01_room.f 5 2 = some 65536 := by kernel_rfl
    exact up h k
  · have h : bellwetherref01_room.f 5 3 = some 16777216 := by kernel_rfl
    exact up h k
  · have h : bellwetherref01_room.f 5 4 = some 4294967296 := by kernel_rfl
    exact up h k
where up {n r : Int} (h : bellwetherref01_room.f 5 n = some r) : ∀ k, bellwetherref01_room.f (k + 5) n = some r
  | 0 => h
  | k + 1 => by have := up h k; rw [Nat.add_right_comm]; exact bellwetherref01_room.mono _ _ _ this

theorem rput_f (k : Nat) (v n : Int) (hv' : v ≤ 9223372036854775807) : bellwetherref01_Put.f (k + 7) v n = some (pspec v n) := by
  by_cases hn : n < 1 ∨ 4 < n
  · simp only [pspec, hn, if_true, bellwetherref01_Put.f, bellwetherref01_Put.j0]
    by_cases h : n < 1
    · simp [h]
    · have : n > 4 := by omega
      simp [h, this]
  · simp only [pspec, hn, if_false, bellwetherref01_Put.f, bellwetherref01_Put.j0]
    rw [if_neg (by omega), if_neg (by rw [decide_eq_true_eq]; omega)]
    by_cases hv : v < 0
    · simp [hv, bellwetherref01_Put.j1]
    · rw [if_neg hv, show k + 6 = (k + 1) + 5 from rfl, room_f _ n hn, Option.bind_some]
      simp only [hv, false_or, bellwetherref01_Put.j1, decide_eq_true_eq, ge_iff_le]
      by_cases hq : (2 : Int) ^ (8 * n).toNat ≤ v
      · rw [if_pos hq, if_pos hq]
      · rw [if_neg hq, if_neg hq]
        have e0 : (⟨#[]⟩ : ByteArray) = strOfNums [] := rfl
        have i1 : wrap64 (0 + 1) = 1 := by decide +kernel
        have i2 : wrap64 (1 + 1) = 2 := by decide +kernel
        have i3 : wrap64 (2 + 1) = 3 := by decide +kernel
        have i4 : wrap64 (3 + 1) = 4 := by decide +kernel
        rw [e0]
        rcases four hn with rfl | rfl | rfl | rfl
        · rw [rput_l0 _ v _ _ _ (by omega) (by decide) (by decide), i1, bellwetherref01_Put.l0, if_neg (by decide)]
          simp [List.range_succ]
        · rw [rput_l0 _ v _ _ _ (by omega) (by decide) (by decide), i1, rput_l0 _ (v / 256) _ _ _ (by omega) (by decide) (by simp), i2, bellwetherref01_Put.l0, if_neg (by decide)]
          simp [List.range_succ]
        · rw [rput_l0 _ v _ _ _ (by omega) (by decide) (by decide), i1, rput_l0 _ (v / 256) _ _ _ (by omega) (by decide) (by simp), i2,
            rput_l0 _ (v / 256 / 256) _ _ _ (by omega) (by decide) (by simp), i3, bellwetherref01_Put.l0, if_neg (by decide)]
          have a2 : v / 256 / 256 = v / 65536 := by omega
          simp [List.range_succ, a2]
        · rw [rput_l0 _ v _ _ _ (by omega) (by decide) (by decide), i1, rput_l0 _ (v / 256) _ _ _ (by omega) (by decide) (by simp), i2,
            rput_l0 _ (v / 256 / 256) _ _ _ (by omega) (by decide) (by simp), i3, rput_l0 _ (v / 256 / 256 / 256) _ _ _ (by omega) (by decide) (by simp), i4, bellwetherref01_Put.l0, if_neg (by decide)]
          have a2 : v / 256 / 256 = v / 65536 := by omega
          have a3 : v / 65536 / 256 = v / 16777216 := by omega
          simp [List.range_succ, a2, a3]

theorem rget_l0 (k : Nat) (s : ByteArray) (p a i : Int) (hp : 0 ≤ p) (hps : p + i < s.size) (hs : s.size ≤ 281474976710656) (hi : 0 ≤ i) (hi' : i ≤ 4) (ha : 0 ≤ a ∧ a ≤ 4294967296) :
    bellwetherref01_Get.l0 (k + 1) s p a i = bellwetherref01_Get.l0 k s p (256 * a + bt s (p + i)) (wrap64 (i - 1)) := by
  have w0 : wrap64 (p + i) = p + i := by unfold wrap64; omega
  have b0 := bt_range s (p + i)
  have w1 : wrap64 (256 * a) = 256 * a := by unfold wrap64; omega
  have w2 : wrap64 (bt s (p + i)) = bt s (p + i) := by unfold wrap64; omega
  have w3 : wrap64 (256 * a + bt s (p + i)) = 256 * a + bt s (p + i) := by unfold wrap64; omega
  rw [bellwetherref01_Get.l0, if_pos hi, w0, if_pos (by omega), if_pos (by omega), w1, w2, w3]

theorem rget_f (k : Nat) (s : ByteArray) (p n : Int) (hs : s.size ≤ 281474976710656) (hp : p ≤ 9223372036854775807) : bellwetherref01_Get.f (k + 7) s p n = some (gspec s p n) := by
  by_cases hn : n < 1 ∨ 4 < n ∨ p < 0
  · simp only [gspec, hn, if_true, bellwetherref01_Get.f, bellwetherref01_Get.j0]
    by_cases h : n < 1
    · simp [h]
    · by_cases h' : n > 4
      · simp [h, h']
      · have : p < 0 := by omega
        simp [h, h', this]
  · simp only [gspec, hn, if_false, bellwetherref01_Get.f, bellwetherref01_Get.j0]
    rw [if_neg (by omega), if_neg (by omega), if_neg (by rw [decide_eq_true_eq]; omega)]
    have hn' : ¬ (n < 1 ∨ 4 < n) := by omega
    by_cases h2 : p > (s.size : Int)
    · rw [if_pos h2, if_pos (by omega)]; simp [bellwetherref01_Get.j1]
    · rw [if_neg h2]
      have hw : wrap64 ((s.size : Int) - p) = (s.size : Int) - p := by unfold wrap64; omega
      rw [hw]
      by_cases h3 : (s.size : Int) < p + n
      · rw [if_pos h3, decide_eq_true (by omega)]; simp [bellwetherref01_Get.j1]
      · rw [if_neg h3, decide_eq_false (by omega)]
        simp only [bellwetherref01_Get.j1, Bool.false_eq_true, if_false]
        have b0 := bt_range s (p + 0)
        have b1 := bt_range s (p + 1)
        have b2 := bt_range s (p + 2)
        have b3 := bt_range s (p + 3)
        have i4 : wrap64 (4 - 1) = 3 := by decide +kernel
        have i3 : wrap64 (3 - 1) = 2 := by decide +kernel
        have i2 : wrap64 (2 - 1) = 1 := by decide +kernel
        have i1 : wrap64 (1 - 1) = 0 := by decide +kernel
        have i0 : wrap64 (0 - 1) = -1 := by decide +kernel
        rcases four hn' with rfl | rfl | rfl | rfl
        · rw [i1, rget_l0 _ s p 0 0 (by omega) (by omega) hs (by omega) (by omega) (by omega), i0, bellwetherref01_Get.l0, if_neg (by decide)]
          simp [List.range_succ]
        · rw [i2, rget_l0 _ s p 0 1 (by omega) (by omega) hs (by omega) (by omega) (by omega), i1, rget_l0 _ s p _ 0 (by omega) (by omega) hs (by omega) (by omega) (by omega), i0, bellwetherref01_Get.l0, if_neg (by decide)]
          simp [List.range_succ]; omega
        · rw [i3, rget_l0 _ s p 0 2 (by omega) (by omega) hs (by omega) (by omega) (by omega), i2, rget_l0 _ s p _ 1 (by omega) (by omega) hs (by omega) (by omega) (by omega), i1,
            rget_l0 _ s p _ 0 (by omega) (by omega) hs (by omega) (by omega) (by omega), i0, bellwetherref01_Get.l0, if_neg (by decide)]
          simp [List.range_succ]; omega
        · rw [i4, rget_l0 _ s p 0 3 (by omega) (by omega) hs (by omega) (by omega) (by omega), i3, rget_l0 _ s p _ 2 (by omega) (by omega) hs (by omega) (by omega) (by omega), i2,
            rget_l0 _ s p _ 1 (by omega) (by omega) hs (by omega) (by omega) (by omega), i1, rget_l0 _ s p _ 0 (by omega) (by omega) hs (by omega) (by omega) (by omega), i0, bellwetherref01_Get.l0, if_neg (by decide)]
          simp [List.range_succ]; omega

theorem NumPuts : bellwetherlaw01_NumPuts.Pure := by
  intro v n s p hv hn hs hp
  have hv := Go.bounds_i64 hv
  have hp := Go.bounds_i64 hp
  refine ⟨20, ?_⟩
  have := kn 0
  simp only [bellwetherlaw01_NumPuts.f]
  rw [put_f 14 v n, Option.bind_some, rput_f 13 v n hv.2, Option.bind_some, get_f 12 s p n (by omega) hp.2, Option.bind_some, rget_f 13 s p n (by omega) hp.2, Option.bind_some]
  simp only [if_true]
  rw [this]; rfl

end Go.Proofs.Ytmnnichijcfjaaa.Pure
