/- What the printed functions Get and GetCode come to over packed bits. -/
import Derived.Test.YtkgcjiaadgnlkaaBtL
import Derived.Test.YtkgcjiaadgnlkaaPAx6
import Derived.Test.YtkgcjiaadgnlkaaPAx14
set_option linter.unusedVariables false
namespace Go.Proofs.Ytkgcjiaadgnlkaa.BT
open Go.RowKit Go.Proofs.YtkgcjiaadgnlkaaW.PrintWords Go.Proofs.YtkgcjiaadgnlkaaW.PrintMore Go.Proofs.Ytkgcjiaadgnlkaa.PA

theorem get_yes {k : Nat} (hk : 70 ≤ k) (l : List Bool) (hl : l.length ≤ 65536) (at_ d : Int) :
    bits_Get.f k (pack l) (l.length : Int) at_ d = if 0 ≤ at_ ∧ 0 ≤ d ∧ d ≤ 64 then (if at_ + d ≤ l.length then some (((num ((l.drop at_.toNat).take d.toNat) : Nat) : Int), 0) else some (0, 20)) else some (0, 1) := by
  obtain ⟨k, rfl⟩ : ∃ m, k = m + 1 := ⟨k - 1, by omega⟩
  unfold bits_Get.f
  rw [check_ok k l hl]
  simp only [Option.bind_some, if_true]
  by_cases h1 : at_ < 0
  · rw [if_pos h1, if_neg (by omega), decide_eq_true h1]
    simp only [bits_Get.j0]
    rfl
  · rw [if_neg h1]
    by_cases h2 : d < 0
    · rw [if_pos h2, if_neg (by omega), decide_eq_true h2]
      simp only [bits_Get.j0]
      rfl
    · rw [if_neg h2]
      by_cases h3 : d > 64
      · rw [if_neg (by omega), decide_eq_true h3]
        simp only [bits_Get.j0]
        rfl
      · rw [if_pos (by omega), decide_eq_false h3]
        simp only [bits_Get.j0]
        rw [if_neg (by decide)]
        by_cases h4 : at_ > l.length
        · rw [if_pos h4, if_neg (by omega)]
        · rw [if_neg h4, w64 ((l.length : Int) - at_) (by omega) (by omega)]
          by_cases h5 : d > (l.length : Int) - at_
          · rw [if_pos h5, if_neg (by omega)]
          · rw [if_neg h5, if_pos (by omega)]
            obtain ⟨a, rfl⟩ := Int.eq_ofNat_of_zero_le (by omega : 0 ≤ at_)
            obtain ⟨n, rfl⟩ := Int.eq_ofNat_of_zero_le (by omega : 0 ≤ d)
            rw [take_yes l hl a n (by omega) (by omega) (by omega)]
            simp

theorem getcode_l0 (l : List Bool) (hl : l.length ≤ 65536) (at_ z : Nat) (hz : z ≤ 33) (hzl : at_ + z ≤ l.length) (h0 : ∀ i (h : i < l.length), at_ ≤ i → i < at_ + z → l[i] = false)
    (hend : z ≤ 32 → ∀ h : at_ + z < l.length, l[at_ + z] = true) (d : Nat) : ∀ (k j : Nat), j + d = z → d + 2 < k →
    bits_GetCode.l0 k (at_ : Int) (j : Int) (pack l) (l.length : Int) = bits_GetCode.j2 (k - 1 - d) (at_ : Int) (z : Int) (pack l) (l.length : Int) := by
  induction d with
  | zero =>
    intro k j hj hk
    obtain rfl : j = z := by omega
    obtain ⟨k, rfl⟩ : ∃ m, k = m + 1 := ⟨k - 1, by omega⟩
    simp only [bits_GetCode.l0]
    rw [w64 ((at_ : Int) + (j : Int)) (by omega) (by omega)]
    by_cases h1 : at_ + j < l.length
    · rw [if_pos (by omega)]
      by_cases h2 : j ≤ 32
      · rw [if_pos (by omega), show (at_ : Int) + (j : Int) = ((at_ + j : Nat) : Int) from by omega]
        have := take_yes (k := k) l hl (at_ + j) 1 (by omega) (by omega) (by omega)
        rw [show ((1 : Nat) : Int) = 1 from rfl] at this
        rw [this, take_one l _ h1, num_one, hend h2 h1]
        simp
      · rw [if_neg (by omega)]
        simp
    · rw [if_neg (by omega)]
      simp
  | succ d ih =>
    intro k j hj hk
    obtain ⟨k, rfl⟩ : ∃ m, k = m + 1 := ⟨k - 1, by omega⟩
    simp only [bits_GetCode.l0]
    rw [w64 ((at_ : Int) + (j : Int)) (by omega) (by omega), if_pos (by omega), if_pos (by omega), show (at_ : Int) + (j : Int) = ((at_ + j : Nat) : Int) from by omega]
    have := take_yes (k := k) l hl (at_ + j) 1 (by omega) (by omega) (by omega)
    rw [show ((1 : Nat) : Int) = 1 from rfl] at this
    rw [this, take_one l _ (by omega), num_one, h0 _ (by omega) (by omega) (by omega)]
    simp only [Option.bind_some, Bool.toNat_false]
    rw [show ((0 : Nat) : Int) = 0 from rfl, if_pos rfl, w64 ((j : Int) + 1) (by omega) (by omega), show (j : Int) + 1 = ((j + 1 : Nat) : Int) from by omega, ih k (j + 1) (by omega) (by omega)]
    congr 1
    omega

theorem getcode_yes {k : Nat} (hk : 150 ≤ k) (l : List Bool) (hl : l.length ≤ 65536) (at_ z : Nat) (hz : z ≤ 33) (hzl : at_ + z ≤ l.length) (h0 : ∀ i (h : i < l.length), at_ ≤ i → i < at_ + z → l[i] = false)
    (hend : z ≤ 32 → ∀ h : at_ + z < l.length, l[at_ + z] = true) :
    bits_GetCode.f k (pack l) (l.length : Int) (at_ : Int) =
      if 32 < z then some (0, 0, 21) else if l.length < at_ + 2 * z + 1 then some (0, 0, 20) else
      if 4294967296 < num ((l.drop (at_ + z)).take (z + 1)) then some (0, 0, 21) else some (((num ((l.drop (at_ + z)).take (z + 1)) : Nat) : Int) - 1, ((at_ + 2 * z + 1 : Nat) : Int), 0) := by
  obtain ⟨k, rfl⟩ : ∃ m, k = m + 2 := ⟨k - 2, by omega⟩
  unfold bits_GetCode.f
  rw [show k + 2 = (k + 1) + 1 from rfl, check_ok (k + 1) l hl]
  rw [Option.bind_some, if_pos rfl]
  rw [decide_eq_false (show ¬ ((at_ : Int) < 0) by omega)]
  rw [bits_GetCode.j0]
  rw [if_neg (by decide)]
  have hl0 := getcode_l0 l hl at_ z hz hzl h0 hend z (k + 1) 0 (by omega) (by omega)
  rw [show ((0 : Nat) : Int) = 0 from rfl] at hl0
  rw [hl0]
  obtain ⟨m, hm⟩ : ∃ m, k + 1 - 1 - z = m + 2 := ⟨k - z - 2, by omega⟩
  rw [hm]
  rw [bits_GetCode.j2]
  by_cases h1 : 32 < z
  · rw [if_pos (by omega), if_pos h1]
  · rw [if_neg (by omega), if_neg h1]
    by_cases h2 : l.length < at_ + 2 * z + 1
    · rw [if_pos h2]
      by_cases h3 : (at_ : Int) ≥ (l.length : Int)
      · rw [if_pos h3, bits_GetCode.j3, if_pos rfl]
      · rw [if_neg h3, w64 (2 * (z : Int)) (by omega) (by omega), w64 (2 * (z : Int) + 1) (by omega) (by omega), w64 ((l.length : Int) - (at_ : Int)) (by omega) (by omega), decide_eq_true (show 2 * (z : Int) + 1 > (l.length : Int) - (at_ : Int) by omega), bits_GetCode.j3, if_pos rfl]
    · rw [if_neg h2, if_neg (by omega), w64 (2 * (z : Int)) (by omega) (by omega), w64 (2 * (z : Int) + 1) (by omega) (by omega), w64 ((l.length : Int) - (at_ : Int)) (by omega) (by omega), decide_eq_false (show ¬ (2 * (z : Int) + 1 > (l.length : Int) - (at_ : Int)) by omega), bits_GetCode.j3]
      rw [if_neg (by decide), w64 ((at_ : Int) + (z : Int)) (by omega) (by omega), w64 ((z : Int) + 1) (by omega) (by omega), show (at_ : Int) + (z : Int) = ((at_ + z : Nat) : Int) from by omega, show (z : Int) + 1 = ((z + 1 : Nat) : Int) from by omega,
        take_yes l hl (at_ + z) (z + 1) (by omega) (by omega) (by omega)]
      rw [Option.bind_some]
      obtain ⟨u, hu⟩ : ∃ u, u = num ((l.drop (at_ + z)).take (z + 1)) := ⟨_, rfl⟩
      have hu1 : 1 ≤ u := by
        rw [hu, List.drop_eq_getElem_cons (by omega), hend (by omega) (by omega), List.take_succ_cons]
        simp only [num, Bool.toNat_true]
        have := Nat.two_pow_pos (List.take z (List.drop (at_ + z + 1) l)).length
        omega
      have hu2 : u < 2 ^ 33 := by
        have := num_lt ((l.drop (at_ + z)).take (z + 1))
        rw [← hu, List.length_take, List.length_drop, Nat.min_eq_left (by omega)] at this
        exact Nat.lt_of_lt_of_le this (Nat.pow_le_pow_right (by decide) (by omega))
      simp only [show (2 : Nat) ^ 33 = 8589934592 from rfl] at hu2
      rw [← hu]
      have e : IntKind.u64.wrap ((u : Int) - 1) = (u : Int) - 1 := by rw [IntKind.wrap_u64]; omega
      rw [e]
      by_cases h4 : 4294967296 < u
      · rw [if_pos (by omega), if_pos h4]
      · rw [if_neg (by omega), if_neg h4, w64 (2 * (z : Int)) (by omega) (by omega), w64 ((at_ : Int) + 2 * (z : Int)) (by omega) (by omega), w64 ((at_ : Int) + 2 * (z : Int) + 1) (by omega) (by omega), show (at_ : Int) + 2 * (z : Int) + 1 = ((at_ + 2 * z + 1 : Nat) : Int) from by omega]

end Go.Proofs.Ytkgcjiaadgnlkaa.BT
