/-
  NumBack: the printed meaning of the statement tells true: what was put is got, what was got is put. Conditions: numbers within 64 bits, texts of at most 140737488351232 bytes.
-/
import Derived.Test.YtmnnichijcfjaaaPNumBackx2
import Derived.OpenShut
import Derived.Laws.BitsLemmas
namespace Go.Proofs.Ytmnnichijcfjaaa.Pure
open Go.RowKit Go.Proofs.Ytmnnichijcfjaaa.PNumBack Go.Proofs.YtmnnichijcfjaaaW.PrintWords Go.Proofs.YtmnnichijcfjaaaW.PrintLast
set_option linter.unusedVariables false
set_option linter.unusedSimpArgs false

theorem kn (k : Nat) : bellwetherlaw01_known.f (k + 20) = some true := by
  have h : bellwetherlaw01_known.f 20 = some true := by kernel_rfl
  induction k with
  | zero => exact h
  | succ k ih => rw [Nat.add_right_comm]; exact bellwetherlaw01_known.mono _ _ ih

theorem clamp_f (k : Nat) (x l h : Int) : num_Clamp.f (k + 1) x l h = some (if x < l ∨ h < l then l else if x > h then h else x) := by
  simp only [num_Clamp.f, num_Clamp.j0, decide_eq_true_eq]
  split <;> split <;> first | rfl | (split <;> (first | rfl | (simp_all; done) | (simp_all; omega))) | (simp_all; done)

theorem mod_f (x b : Int) : num_Mod.f x b = some (if b < 1 then 0 else if Int.tmod x b < 0 then wrap64 (Int.tmod x b + b) else Int.tmod x b) := by
  simp only [num_Mod.f]
  by_cases h : b < 1
  · simp [h]
  · rw [if_neg h, if_neg h, if_neg (by omega)]; split <;> rfl

theorem sat_f (k : Nat) (x m : Int) : num_Sat.f (k + 1) x m = some (if x < 0 ∨ m < 0 then 0 else if x ≥ m then m else wrap64 (x + 1)) := by
  simp only [num_Sat.f, num_Sat.j0, decide_eq_true_eq]
  by_cases h : x < 0
  · simp [h]
  · by_cases h' : m < 0
    · simp only [h, h', if_false, if_true, or_true, decide_true, decide_eq_true_eq]
    · simp only [h, h', if_false, false_or]; split <;> rfl

/-- What Put answers. -/
def pspec (v : Int) (n : Int) : ByteArray × Int :=
  if n < 1 ∨ 4 < n then (⟨#[]⟩, 2) else if v < 0 ∨ (2 : Int) ^ (8 * n).toNat ≤ v then (⟨#[]⟩, 6)
  else (strOfNums ((List.range n.toNat).map (fun (i : Nat) => v / (2 : Int) ^ (8 * i) % 256)), 0)
/-- What Get answers. -/
def gspec (s : ByteArray) (p n : Int) : Int × Int :=
  if n < 1 ∨ 4 < n ∨ p < 0 then (0, 2) else if (s.size : Int) < p + n then (0, 5)
  else (((List.range n.toNat).map (fun (i : Nat) => bt s (p + i) * (2 : Int) ^ (8 * i))).sum, 0)

theorem shr_pow (v m : Int) (h : m.toNat ≤ 64 := by decide +kernel) : shr .i64 v m = v / 2 ^ m.toNat := by
  have : min m.toNat IntKind.i64.bits = m.toNat := Nat.min_eq_left h
  simp only [shr, this]
theorem wl (n : Int) (h : 0 ≤ n ∧ n ≤ 64 := by decide) : wrap64 n = n := by unfold wrap64; omega
theorem four {n : Int} (h : ¬ (n < 1 ∨ 4 < n)) : n = 1 ∨ n = 2 ∨ n = 3 ∨ n = 4 := by omega
theorem sdiv (v : Int) (m : Int) (hm : 0 < m) : (v / m != 0) = decide (v < 0 ∨ m ≤ v) := by
  by_cases h : v < 0 ∨ m ≤ v
  · rw [decide_eq_true h, bne_iff_ne]
    intro e
    have h1 := Int.emod_add_mul_ediv v m
    have h2 := Int.emod_nonneg v (by omega : m ≠ 0)
    have h3 := Int.emod_lt_of_pos v hm
    rw [e] at h1
    omega
  · rw [decide_eq_false h, bne_eq_false_iff_eq]
    exact Int.ediv_eq_zero_of_lt (by omega) (by omega)

theorem put_f (k : Nat) (v n : Int) : num_Put.f (k + 6) v n = some (pspec v n) := by
  by_cases hn : n < 1 ∨ 4 < n
  · have h1 : num_fits.f n = some false := by
      simp only [num_fits.f]
      by_cases h : n ≥ 1
      · rw [if_pos h, decide_eq_false (by omega)]
      · rw [if_neg h]
    simp [num_Put.f, h1, pspec, hn]
  · have h1 : num_fits.f n = some true := by simp only [num_fits.f]; rw [if_pos (by omega), decide_eq_true (by omega)]
    simp only [pspec, hn, if_false, num_Put.f, h1, Option.bind_some, if_true]
    rcases four hn with rfl | rfl | rfl | rfl
    · by_cases hv : v < 0
      · simp [hv, num_Put.j0]
      · simp only [hv, if_false, false_or]
        rw [if_pos (by decide +kernel), shr_pow v _, sdiv v _ (by decide +kernel)]
        have e : (2 : Int) ^ (wrap64 (8 * 1)).toNat = 256 := by decide +kernel
        have e' : (2 : Int) ^ (8 * 1 : Int).toNat = 256 := by decide +kernel
        rw [e, e']
        by_cases hq : 256 ≤ v
        · rw [decide_eq_true (Or.inr hq)]; simp [num_Put.j0, hq]
        · rw [decide_eq_false (by omega)]
          simp [num_Put.j0, num_Put.l0, hq, shr_pow v 0, shr_pow v 8, shr_pow v 16, shr_pow v 24, Int.reduceToNat, wl 0, wl 1, wl 2, wl 3, wl 4, wl 8, wl 16, wl 24, List.replicate, List.range_succ]
    · by_cases hv : v < 0
      · simp [hv, num_Put.j0]
      · simp only [hv, if_false, false_or]
        rw [if_pos (by decide +kernel), shr_pow v _, sdiv v _ (by decide +kernel)]
        have e : (2 : Int) ^ (wrap64 (8 * 2)).toNat = 65536 := by decide +kernel
        have e' : (2 : Int) ^ (8 * 2 : Int).toNat = 65536 := by decide +kernel
        rw [e, e']
        by_cases hq : 65536 ≤ v
        · rw [decide_eq_true (Or.inr hq)]; simp [num_Put.j0, hq]
        · rw [decide_eq_false (by omega)]
          simp [num_Put.j0, num_Put.l0, hq, shr_pow v 0, shr_pow v 8, shr_pow v 16, shr_pow v 24, Int.reduceToNat, wl 0, wl 1, wl 2, wl 3, wl 4, wl 8, wl 16, wl 24, List.replicate, List.range_succ]
    · by_cases hv : v < 0
      · simp [hv, num_Put.j0]
      · simp only [hv, if_false, false_or]
        rw [if_pos (by decide +kernel), shr_pow v _, sdiv v _ (by decide +kernel)]
        have e : (2 : Int) ^ (wrap64 (8 * 3)).toNat = 16777216 := by decide +kernel
        have e' : (2 : Int) ^ (8 * 3 : Int).toNat = 16777216 := by decide +kernel
        rw [e, e']
        by_cases hq : 16777216 ≤ v
        · rw [decide_eq_true (Or.inr hq)]; simp [num_Put.j0, hq]
        · rw [decide_eq_false (by omega)]
          simp [num_Put.j0, num_Put.l0, hq, shr_pow v 0, shr_pow v 8, shr_pow v 16, shr_pow v 24, Int.reduceToNat, wl 0, wl 1, wl 2, wl 3, wl 4, wl 8, wl 16, wl 24, List.replicate, List.range_succ]
    · by_cases hv : v < 0
      · simp [hv, num_Put.j0]
      · simp only [hv, if_false, false_or]
        rw [if_pos (by decide +kernel), shr_pow v _, sdiv v _ (by decide +kernel)]
        have e : (2 : Int) ^ (wrap64 (8 * 4)).toNat = 4294967296 := by decide +kernel
        have e' : (2 : Int) ^ (8 * 4 : Int).toNat = 4294967296 := by decide +kernel
        rw [e, e']
        by_cases hq : 4294967296 ≤ v
        · rw [decide_eq_true (Or.inr hq)]; simp [num_Put.j0, hq]
        · rw [decide_eq_false (by omega)]
          simp [num_Put.j0, num_Put.l0, hq, shr_pow v 0, shr_pow v 8, shr_pow v 16, shr_pow v 24, Int.reduceToNat, wl 0, wl 1, wl 2, wl 3, wl 4, wl 8, wl 16, wl 24, List.replicate, List.range_succ]

theorem or_sum (x b : Int) (i : Nat) (hi : i ≤ 24) (hx : 0 ≤ x) (hx' : x < 2 ^ i) (hb : 0 ≤ b ∧ b ≤ 255) : Go.bits .or .i64 x (b * 2 ^ i) = x + b * 2 ^ i := by
  have hp : (2 : Int) ^ i ≤ 2 ^ 24 := by exact_mod_cast Nat.pow_le_pow_right (by decide +kernel : 2 > 0) hi
  have hp0 : (0 : Int) < 2 ^ i := Int.pow_pos (by decide +kernel)
  have e : Go.bits .or .i64 x (b * 2 ^ i) = Go.bits .or .i64 (b * 2 ^ i) x := by
    simp only [Go.bits]; rw [BitVec.or_comm]
  have hb2 : b * 2 ^ i ≤ 255 * 2 ^ 24 := Int.mul_le_mul hb.2 hp (by omega) (by decide +kernel)
  rw [e, Go.bits_join .i64 40 (by decide +kernel) (by intro n h0 h1; rw [Go.IntKind.wrap_i64]; omega) i (b * 2 ^ i) x (Int.mul_nonneg hb.1 (by omega)) (Int.mul_emod_left b _) (by omega) hx hx' (by omega)]
  omega

theorem shl_b (b : Int) (hb : 0 ≤ b ∧ b ≤ 255) (j : Int) (i : Nat) (hj : j.toNat = i) (hi : i ≤ 24) : shl .i64 (wrap64 b) j = b * 2 ^ i := by
  have hp : (2 : Int) ^ i ≤ 2 ^ 24 := by exact_mod_cast Nat.pow_le_pow_right (by decide +kernel : 2 > 0) hi
  have hp0 : (0 : Int) < 2 ^ i := Int.pow_pos (by decide +kernel)
  have hb2 : b * 2 ^ i ≤ 255 * 2 ^ 24 := Int.mul_le_mul hb.2 hp (by omega) (by decide +kernel)
  have hb3 : 0 ≤ b * 2 ^ i := Int.mul_nonneg hb.1 (by omega)
  have e : wrap64 b = b := by unfold wrap64; omega
  simp only [shl, hj, e]
  rw [show min i IntKind.i64.bits = i from Nat.min_eq_left (by simp [IntKind.bits]; omega), Go.IntKind.wrap_i64]
  omega

theorem get_f (k : Nat) (s : ByteArray) (p n : Int) (hs : s.size ≤ 281474976710656) (hp : p ≤ 9223372036854775807) : num_Get.f (k + 8) s p n = some (gspec s p n) := by
  by_cases hn : n < 1 ∨ 4 < n
  · have h1 : num_fits.f n = some false := by
      simp only [num_fits.f]
      by_cases h : n ≥ 1
      · rw [if_pos h, decide_eq_false (by omega)]
      · rw [if_neg h]
    have : n < 1 ∨ 4 < n ∨ p < 0 := by omega
    simp [num_Get.f, h1, gspec, this, num_Get.j0]
  · have h1 : num_fits.f n = some true := by simp only [num_fits.f]; rw [if_pos (by omega), decide_eq_true (by omega)]
    simp only [num_Get.f, h1, Option.bind_some, if_true]
    by_cases hp0 : p < 0
    · have : n < 1 ∨ 4 < n ∨ p < 0 := by omega
      simp [num_Get.j0, gspec, hp0]
    · have hg : ¬ (n < 1 ∨ 4 < n ∨ p < 0) := by omega
      simp only [gspec, hg, if_false, decide_eq_false hp0, num_Get.j0, Bool.false_eq_true]
      by_cases h2 : p > (s.size : Int)
      · rw [if_pos h2, if_pos (by omega)]; simp [num_Get.j1]
      · rw [if_neg h2]
        have hw : wrap64 ((s.size : Int) - p) = (s.size : Int) - p := by unfold wrap64; omega
        rw [hw]
        by_cases h3 : (s.size : Int) < p + n
        · rw [if_pos h3, decide_eq_true (by omega)]; simp [num_Get.j1]
        · rw [if_neg h3, decide_eq_false (by omega)]
          simp only [num_Get.j1, Bool.false_eq_true, if_false]
          have w0 : ∀ j : Int, 0 ≤ j → j ≤ 4 → wrap64 (p + j) = p + j := by intro j _ _; unfold wrap64; omega
          have b0 := bt_range s (p + 0)
          have b1 := bt_range s (p + 1)
          have b2 := bt_range s (p + 2)
          have b3 := bt_range s (p + 3)
          have s0 := shl_b _ b0 (wrap64 (8 * 0)) 0 (by decide +kernel) (by decide +kernel)
          have s1 := shl_b _ b1 (wrap64 (8 * 1)) 8 (by decide +kernel) (by decide +kernel)
          have s2 := shl_b _ b2 (wrap64 (8 * 2)) 16 (by decide +kernel) (by decide +kernel)
          have s3 := shl_b _ b3 (wrap64 (8 * 3)) 24 (by decide +kernel) (by decide +kernel)
          have o0 := or_sum 0 (bt s (p + 0)) 0 (by decide +kernel) (by omega) (by omega) b0
          have o1 := or_sum (bt s (p + 0)) (bt s (p + 1)) 8 (by decide +kernel) (by omega) (by omega) b1
          have o2 := or_sum (bt s (p + 0) + bt s (p + 1) * 2 ^ 8) (bt s (p + 2)) 16 (by decide +kernel) (by omega) (by omega) b2
          have o3 := or_sum (bt s (p + 0) + bt s (p + 1) * 2 ^ 8 + bt s (p + 2) * 2 ^ 16) (bt s (p + 3)) 24 (by decide +kernel) (by omega) (by omega) b3
          have o0' : Go.bits .or .i64 0 (bt s (p + 0) * 2 ^ 0) = bt s (p + 0) := by rw [o0]; omega
          have i1 : wrap64 (0 + 1) = 1 := by decide +kernel
          have i2 : wrap64 (1 + 1) = 2 := by decide +kernel
          have i3 : wrap64 (2 + 1) = 3 := by decide +kernel
          have i4 : wrap64 (3 + 1) = 4 := by decide +kernel
          rcases four hn with rfl | rfl | rfl | rfl
          · rw [num_Get.l0, if_pos (by decide +kernel), w0 0 (by omega) (by omega), if_pos (by omega), if_pos (by omega), if_pos (by decide +kernel), s0, o0', i1, num_Get.l0, if_neg (by decide +kernel)]
            simp [List.range_succ]
          · rw [num_Get.l0, if_pos (by decide +kernel), w0 0 (by omega) (by omega), if_pos (by omega), if_pos (by omega), if_pos (by decide +kernel), s0, o0', i1,
              num_Get.l0, if_pos (by decide +kernel), w0 1 (by omega) (by omega), if_pos (by omega), if_pos (by omega), if_pos (by decide +kernel), s1, o1, i2, num_Get.l0, if_neg (by decide +kernel)]
            simp [List.range_succ]
          · rw [num_Get.l0, if_pos (by decide +kernel), w0 0 (by omega) (by omega), if_pos (by omega), if_pos (by omega), if_pos (by decide +kernel), s0, o0', i1,
              num_Get.l0, if_pos (by decide +kernel), w0 1 (by omega) (by omega), if_pos (by omega), if_pos (by omega), if_pos (by decide +kernel), s1, o1, i2,
              num_Get.l0, if_pos (by decide +kernel), w0 2 (by omega) (by omega), if_pos (by omega), if_pos (by omega), if_pos (by decide +kernel), s2, o2, i3, num_Get.l0, if_neg (by decide +kernel)]
            simp [List.range_succ, Int.add_assoc]
          · rw [num_Get.l0, if_pos (by decide +kernel), w0 0 (by omega) (by omega), if_pos (by omega), if_pos (by omega), if_pos (by decide +kernel), s0, o0', i1,
              num_Get.l0, if_pos (by decide +kernel), w0 1 (by omega) (by omega), if_pos (by omega), if_pos (by omega), if_pos (by decide +kernel), s1, o1, i2,
              num_Get.l0, if_pos (by decide +kernel), w0 2 (by omega) (by omega), if_pos (by omega), if_pos (by omega), if_pos (by decide +kernel), s2, o2, i3,
              num_Get.l0, if_pos (by decide +kernel), w0 3 (by omega) (by omega), if_pos (by omega), if_pos (by omega), if_pos (by decide +kernel), s3, o3, i4, num_Get.l0, if_neg (by decide +kernel)]
            simp [List.range_succ, Int.add_assoc]

theorem dlen (s : ByteArray) : s.data.toList.length = s.size := rfl
theorem bt_list (s : ByteArray) (i : Int) : bt s i = ((s.data.toList.getD i.toNat 0).toNat : Int) := by
  unfold bt
  split
  · rename_i h
    have h' : i.toNat < s.data.toList.length := by rw [dlen]; exact h
    rw [List.getD_eq_getElem?_getD, List.getElem?_eq_getElem h', Option.getD_some]
    rfl
  · rename_i h
    have h' : s.data.toList.length ≤ i.toNat := by rw [dlen]; omega
    rw [List.getD_eq_getElem?_getD, List.getElem?_eq_none h']
    rfl

theorem bt_mid (a c : ByteArray) (xs : List Int) (j : Nat) (h : j < xs.length) (x : Int) (hx : xs[j]? = some x) (h0 : 0 ≤ x) (h1 : x < 256) :
    bt ((a ++ strOfNums xs) ++ c) ((a.size : Int) + j) = x := by
  have e : ((a.size : Int) + j).toNat = a.data.toList.length + j := by rw [dlen]; omega
  rw [bt_list, e]
  have : (a ++ strOfNums xs ++ c).data.toList = a.data.toList ++ ((xs.map fun n => UInt8.ofNat n.toNat) ++ c.data.toList) := by
    simp [strOfNums]
  rw [this, List.getD_eq_getElem?_getD, List.getElem?_append_right (by omega), Nat.add_sub_cancel_left, List.getElem?_append_left (by simpa using h), List.getElem?_map, hx]
  simp
  omega

theorem bt_ofNat (s : ByteArray) (j : Nat) (h : j < s.data.toList.length) : UInt8.ofNat (bt s (0 + j)).toNat = s.data.toList[j] := by
  have e : ((0 : Int) + j).toNat = j := by omega
  rw [bt_list, e, List.getD_eq_getElem?_getD, List.getElem?_eq_getElem h]
  simp

theorem pspec_ok {v n : Int} (h : (pspec v n).2 = 0) : ¬ (n < 1 ∨ 4 < n) ∧ ¬ (v < 0 ∨ (2 : Int) ^ (8 * n).toNat ≤ v) := by
  unfold pspec at h
  split at h
  · exact absurd h (by simp)
  · split at h
    · exact absurd h (by simp)
    · exact ⟨by assumption, by assumption⟩
theorem gspec_ok {s : ByteArray} {p n : Int} (h : (gspec s p n).2 = 0) : ¬ (n < 1 ∨ 4 < n ∨ p < 0) ∧ ¬ ((s.size : Int) < p + n) := by
  unfold gspec at h
  split at h
  · exact absurd h (by simp)
  · split at h
    · exact absurd h (by simp)
    · exact ⟨by assumption, by assumption⟩

theorem there (v n : Int) (a c : ByteArray) (h : (pspec v n).2 = 0) : gspec ((a ++ (pspec v n).1) ++ c) a.size n = (v, 0) ∧ ((pspec v n).1.size : Int) = n := by
  obtain ⟨hn, hv⟩ := pspec_ok h
  have hp : (pspec v n).1 = strOfNums ((List.range n.toNat).map (fun (i : Nat) => v / (2 : Int) ^ (8 * i) % 256)) := by
    unfold pspec; rw [if_neg hn, if_neg hv]
  have hsz : ((pspec v n).1.size : Int) = n := by rw [hp, strOfNums_size]; simp; omega
  refine ⟨?_, hsz⟩
  have hg : ¬ (n < 1 ∨ 4 < n ∨ (a.size : Int) < 0) := by omega
  have hl : ¬ (((a ++ (pspec v n).1) ++ c).size : Int) < a.size + n := by simp only [ByteArray.size_append]; omega
  unfold gspec
  rw [if_neg hg, if_neg hl, hp]
  rcases four hn with rfl | rfl | rfl | rfl
  · have e' : (2 : Int) ^ (8 * 1 : Int).toNat = 256 := by decide +kernel
    rw [e'] at hv
    have b0 := bt_mid a c ((List.range (1 : Int).toNat).map (fun (i : Nat) => v / (2 : Int) ^ (8 * i) % 256)) 0 (by simp) (v / 1 % 256) (by simp) (by omega) (by omega)
    simp only [Int.reduceToNat, List.range_succ, List.range_zero, List.nil_append, List.cons_append, List.map_cons, List.map_nil, List.sum_cons, List.sum_nil, Prod.mk.injEq, and_true] at b0 ⊢
    rw [b0]
    simp; omega
  · have e' : (2 : Int) ^ (8 * 2 : Int).toNat = 65536 := by decide +kernel
    rw [e'] at hv
    have b0 := bt_mid a c ((List.range (2 : Int).toNat).map (fun (i : Nat) => v / (2 : Int) ^ (8 * i) % 256)) 0 (by simp) (v / 1 % 256) (by simp) (by omega) (by omega)
    have b1 := bt_mid a c ((List.range (2 : Int).toNat).map (fun (i : Nat) => v / (2 : Int) ^ (8 * i) % 256)) 1 (by simp) (v / 256 % 256) (by simp) (by omega) (by omega)
    simp only [Int.reduceToNat, List.range_succ, List.range_zero, List.nil_append, List.cons_append, List.map_cons, List.map_nil, List.sum_cons, List.sum_nil, Prod.mk.injEq, and_true] at b0 b1 ⊢
    rw [b0, b1]
    simp; omega
  · have e' : (2 : Int) ^ (8 * 3 : Int).toNat = 16777216 := by decide +kernel
    rw [e'] at hv
    have b0 := bt_mid a c ((List.range (3 : Int).toNat).map (fun (i : Nat) => v / (2 : Int) ^ (8 * i) % 256)) 0 (by simp) (v / 1 % 256) (by simp) (by omega) (by omega)
    have b1 := bt_mid a c ((List.range (3 : Int).toNat).map (fun (i : Nat) => v / (2 : Int) ^ (8 * i) % 256)) 1 (by simp) (v / 256 % 256) (by simp) (by omega) (by omega)
    have b2 := bt_mid a c ((List.range (3 : Int).toNat).map (fun (i : Nat) => v / (2 : Int) ^ (8 * i) % 256)) 2 (by simp) (v / 65536 % 256) (by simp) (by omega) (by omega)
    simp only [Int.reduceToNat, List.range_succ, List.range_zero, List.nil_append, List.cons_append, List.map_cons, List.map_nil, List.sum_cons, List.sum_nil, Prod.mk.injEq, and_true] at b0 b1 b2 ⊢
    rw [b0, b1, b2]
    simp; omega
  · have e' : (2 : Int) ^ (8 * 4 : Int).toNat = 4294967296 := by decide +kernel
    rw [e'] at hv
    have b0 := bt_mid a c ((List.range (4 : Int).toNat).map (fun (i : Nat) => v / (2 : Int) ^ (8 * i) % 256)) 0 (by simp) (v / 1 % 256) (by simp) (by omega) (by omega)
    have b1 := bt_mid a c ((List.range (4 : Int).toNat).map (fun (i : Nat) => v / (2 : Int) ^ (8 * i) % 256)) 1 (by simp) (v / 256 % 256) (by simp) (by omega) (by omega)
    have b2 := bt_mid a c ((List.range (4 : Int).toNat).map (fun (i : Nat) => v / (2 : Int) ^ (8 * i) % 256)) 2 (by simp) (v / 65536 % 256) (by simp) (by omega) (by omega)
    have b3 := bt_mid a c ((List.range (4 : Int).toNat).map (fun (i : Nat) => v / (2 : Int) ^ (8 * i) % 256)) 3 (by simp) (v / 16777216 % 256) (by simp) (by omega) (by omega)
    simp only [Int.reduceToNat, List.range_succ, List.range_zero, List.nil_append, List.cons_append, List.map_cons, List.map_nil, List.sum_cons, List.sum_nil, Prod.mk.injEq, and_true] at b0 b1 b2 b3 ⊢
    rw [b0, b1, b2, b3]
    simp; omega

theorem back (s : ByteArray) (n : Int) (h : (gspec s 0 n).2 = 0) :
    (pspec (gspec s 0 n).1 n).2 = 0 ∧ ((pspec (gspec s 0 n).1 n).1.size : Int) = n ∧ n ≤ s.size ∧ (s.extract 0 n.toNat).toList = (pspec (gspec s 0 n).1 n).1.toList := by
  obtain ⟨hg, hl⟩ := gspec_ok h
  have hn : ¬ (n < 1 ∨ 4 < n) := by omega
  have hr : (gspec s 0 n).1 = ((List.range n.toNat).map (fun (i : Nat) => bt s (0 + i) * (2 : Int) ^ (8 * i))).sum := by
    unfold gspec; rw [if_neg hg, if_neg hl]
  have hlen : s.data.toList.length = s.size := dlen s
  rw [ByteArray.toList_eq, ByteArray.toList_eq]
  have b0 := bt_range s (0 + (0 : Nat))
  have b1 := bt_range s (0 + (1 : Nat))
  have b2 := bt_range s (0 + (2 : Nat))
  have b3 := bt_range s (0 + (3 : Nat))
  have key : ¬ ((gspec s 0 n).1 < 0 ∨ (2 : Int) ^ (8 * n).toNat ≤ (gspec s 0 n).1) ∧
      (List.range n.toNat).map (fun (i : Nat) => (gspec s 0 n).1 / (2 : Int) ^ (8 * i) % 256) = (List.range n.toNat).map (fun (i : Nat) => bt s (0 + i)) := by
    rw [hr]
    rcases four hn with rfl | rfl | rfl | rfl
    · have e' : (2 : Int) ^ (8 * 1 : Int).toNat = 256 := by decide +kernel
      rw [e']
      simp only [Int.reduceToNat, List.range_succ, List.range_zero, List.nil_append, List.cons_append, List.map_cons, List.map_nil, List.sum_cons, List.sum_nil, List.cons.injEq, and_true]
      simp only [Nat.reduceMul, Int.reducePow]
      refine ⟨by omega, by omega⟩
    · have e' : (2 : Int) ^ (8 * 2 : Int).toNat = 65536 := by decide +kernel
      rw [e']
      simp only [Int.reduceToNat, List.range_succ, List.range_zero, List.nil_append, List.cons_append, List.map_cons, List.map_nil, List.sum_cons, List.sum_nil, List.cons.injEq, and_true]
      simp only [Nat.reduceMul, Int.reducePow]
      refine ⟨by omega, by omega, by omega⟩
    · have e' : (2 : Int) ^ (8 * 3 : Int).toNat = 16777216 := by decide +kernel
      rw [e']
      simp only [Int.reduceToNat, List.range_succ, List.range_zero, List.nil_append, List.cons_append, List.map_cons, List.map_nil, List.sum_cons, List.sum_nil, List.cons.injEq, and_true]
      simp only [Nat.reduceMul, Int.reducePow]
      refine ⟨by omega, by omega, by omega, by omega⟩
    · have e' : (2 : Int) ^ (8 * 4 : Int).toNat = 4294967296 := by decide +kernel
      rw [e']
      simp only [Int.reduceToNat, List.range_succ, List.range_zero, List.nil_append, List.cons_append, List.map_cons, List.map_nil, List.sum_cons, List.sum_nil, List.cons.injEq, and_true]
      simp only [Nat.reduceMul, Int.reducePow]
      refine ⟨by omega, by omega, by omega, by omega, by omega⟩
  have hp : pspec (gspec s 0 n).1 n = (strOfNums ((List.range n.toNat).map (fun (i : Nat) => bt s (0 + i))), 0) := by
    unfold pspec; rw [if_neg hn, if_neg key.1, key.2]
  rw [hp]
  refine ⟨rfl, by rw [strOfNums_size]; simp; omega, by omega, ?_⟩
  show (s.extract 0 n.toNat).data.toList = ((List.range n.toNat).map (fun (i : Nat) => bt s (0 + i))).map fun n => UInt8.ofNat n.toNat
  apply List.ext_getElem
  · rw [dlen, ByteArray.size_extract, List.length_map, List.length_map, List.length_range]; omega
  · intro i h1 h2
    have hi : i < s.data.toList.length := by simp at h1 h2; omega
    have := bt_ofNat s i hi
    simp at this ⊢
    rw [this]

theorem j0_ok (k : Nat) (n : Int) (s : ByteArray) (hs : s.size ≤ 281474976710656) : bellwetherlaw01_NumBack.j0 (k + 21) n s = some true := by
  have hk := kn k
  simp only [bellwetherlaw01_NumBack.j0]
  rw [get_f (k + 12) s 0 n hs (by decide), Option.bind_some, put_f (k + 14), Option.bind_some]
  by_cases h : (gspec s 0 n).2 = 0
  · obtain ⟨h1, h2, h3, h4⟩ := back s n h
    rw [if_pos h, if_pos h1, h2, if_neg (by omega), if_pos (by omega), if_pos h3, if_pos h4, hk]; rfl
  · rw [if_neg h, hk]; rfl

theorem NumBack : bellwetherlaw01_NumBack.Pure := by
  intro v n a c hv hn ha hc
  refine ⟨21, ?_⟩
  simp only [bellwetherlaw01_NumBack.f]
  rw [put_f 15 v n, Option.bind_some, j0_ok 0 n a (by omega)]
  by_cases h : (pspec v n).2 = 0
  · obtain ⟨h1, h2⟩ := there v n a c h
    obtain ⟨hn', -⟩ := pspec_ok h
    have e1 : a.size + (pspec v n).1.size ≤ 9223372036854775807 := by omega
    have e2 : (a ++ (pspec v n).1).size + c.size ≤ 9223372036854775807 := by simp only [ByteArray.size_append]; omega
    rw [if_pos h, if_pos e1, if_pos e2, get_f 13 _ _ _ (by simp only [ByteArray.size_append]; omega) (by omega), Option.bind_some, h1]
    simp only [if_true]
    rw [if_pos h2]
  · rw [if_neg h]

end Go.Proofs.Ytmnnichijcfjaaa.Pure
