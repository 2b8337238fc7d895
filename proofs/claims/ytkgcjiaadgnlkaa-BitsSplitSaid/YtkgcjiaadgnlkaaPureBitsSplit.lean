/- The pure statement of BitsSplit: a number put at once, or in two parts, is the same bits, and got in two parts it is the same number; for all arguments. -/
import Derived.Test.YtkgcjiaadgnlkaaBtJ
import Derived.Test.YtkgcjiaadgnlkaaBtG
import Derived.Test.YtkgcjiaadgnlkaaPAx16
set_option linter.unusedVariables false
namespace Go.Proofs.Ytkgcjiaadgnlkaa.BT
open Go.RowKit Go.Proofs.YtkgcjiaadgnlkaaW.PrintWords Go.Proofs.YtkgcjiaadgnlkaaW.PrintMore Go.Proofs.Ytkgcjiaadgnlkaa.PA

theorem wf_u8s {a : Int} (h : (Lit.int .u8 a).wf = true) : 0 ≤ a ∧ a ≤ 255 := by
  simp [Lit.wf] at h
  have h1 : IntKind.u8.min = 0 := rfl
  have h2 : IntKind.u8.max = 255 := rfl
  omega
theorem wf_u64s {a : Int} (h : (Lit.int .u64 a).wf = true) : 0 ≤ a ∧ a < 18446744073709551616 := by
  simp [Lit.wf] at h
  have h1 : IntKind.u64.min = 0 := rfl
  have h2 : IntKind.u64.max = 18446744073709551615 := rfl
  omega
theorem few_somes (xs : List S24) (d : Nat) (hlen : xs.length ≤ 4611686018427387904) : ∀ (k i : Nat) (s : Int), i + d = xs.length → d < k → ∃ b, squelchlaw01_few.l0 k s xs (xs.length : Int) (i : Int) = some b := by
  induction d with
  | zero =>
    intro k i s hi hk
    obtain ⟨k, rfl⟩ : ∃ m, k = m + 1 := ⟨k - 1, by omega⟩
    rw [squelchlaw01_few.l0, if_neg (show ¬ ((i : Int) < (xs.length : Int)) by omega)]
    exact ⟨_, rfl⟩
  | succ d ih =>
    intro k i s hi hk
    obtain ⟨k, rfl⟩ : ∃ m, k = m + 1 := ⟨k - 1, by omega⟩
    rw [squelchlaw01_few.l0, if_pos (show (i : Int) < (xs.length : Int) by omega), if_pos (Int.natCast_nonneg i), if_pos (show (i : Int) < (xs.length : Int) by omega)]
    rw [w64 ((i : Int) + 1) (by omega) (by omega), show (i : Int) + 1 = ((i + 1 : Nat) : Int) from by omega]
    exact ih k (i + 1) _ (by omega) (by omega)
theorem few_ones {k : Nat} (hk : 2 ≤ k) (x : S24) : ∃ b, squelchlaw01_few.f k [x] = some b := by
  unfold squelchlaw01_few.f
  exact few_somes [x] 1 (by rw [List.length_singleton]; omega) k 0 0 rfl (by omega)
theorem u64ws (n : Int) (h0 : 0 ≤ n) (h1 : n < 18446744073709551616) : IntKind.u64.wrap n = n := by rw [IntKind.wrap_u64]; omega
theorem shl_u64 (v : Nat) (d : Nat) (h : d ≤ 64) : shl .u64 (v : Int) (d : Int) = ((v * 2 ^ d % 18446744073709551616 : Nat) : Int) := by
  unfold shl
  rw [Int.toNat_natCast, show min d IntKind.u64.bits = d from Nat.min_eq_left h, IntKind.wrap_u64]
  have e : ((v * 2 ^ d : Nat) : Int) = (v : Int) * 2 ^ d := by simp
  rw [← e]
  generalize v * 2 ^ d = z
  omega
theorem cut_low (v c : Nat) (h : c ≤ 64) : v * 2 ^ (64 - c) % 18446744073709551616 / 2 ^ (64 - c) = v % 2 ^ c := by
  have e : 18446744073709551616 = 2 ^ c * 2 ^ (64 - c) := by
    rw [← Nat.pow_add, show c + (64 - c) = 64 by omega]
  rw [e, Nat.mul_mod_mul_right, Nat.mul_div_cancel _ (Nat.two_pow_pos _)]
theorem low_cut (v w c : Nat) (h : c ≤ w) : low v w = low (v / 2 ^ c) (w - c) ++ low v c := by
  rw [← low_add, show w - c + c = w by omega]
theorem mask_all (v w : Nat) (h : w < 64) (hv : v < 18446744073709551616) : Go.bits .and .u64 (v : Int) (IntKind.u64.wrap (shl .u64 1 (w : Int) - 1)) = ((v % 2 ^ w : Nat) : Int) := by
  have hk : (2 : Nat) ^ w ≤ 2 ^ 63 := Nat.pow_le_pow_right (by decide) (by omega)
  have h63 : (2 : Nat) ^ 63 = 9223372036854775808 := by decide
  rw [h63] at hk
  have hp : 0 < 2 ^ w := Nat.two_pow_pos w
  have e1 : shl .u64 1 (w : Int) = ((2 ^ w : Nat) : Int) := by
    have := shl_u64 1 w (by omega)
    rw [Nat.one_mul, Nat.mod_eq_of_lt (Nat.lt_of_le_of_lt hk (by decide))] at this
    exact this
  have e2 : IntKind.u64.wrap (((2 ^ w : Nat) : Int) - 1) = ((2 ^ w : Nat) : Int) - 1 := by
    generalize (2 : Nat) ^ w = z at hk hp
    exact u64ws _ (by omega) (by omega)
  have e3 : ((2 ^ w : Nat) : Int) = (2 : Int) ^ w := by simp
  rw [e1, e2, e3, bits_mask .u64 64 (by decide) (fun n h0 h1 => wraps_u64 n h0 h1) w (by omega) (v : Int) (Int.natCast_nonneg _) (Int.ofNat_lt.2 hv)]
  simp

theorem split_j2 (l : List Bool) (hl : l.length ≤ 65536) (v w c : Nat) (hw : w ≤ 64) (hc : c ≤ w) (hv : v < 2 ^ w) (hlw : l.length + w ≤ 65536) (k : Nat) (hk : 100 ≤ k) :
    squelchlaw01_BitsSplit.j2 (k + 1) (w : Int) (c : Int) true ((v % 2 ^ c : Nat) : Int) ((v / 2 ^ c : Nat) : Int) (pack l) (l.length : Int) (pack (l ++ low v w)) ((l.length + w : Nat) : Int) = some true := by
  have hv64 : v < 2 ^ 64 := Nat.lt_of_lt_of_le hv (Nat.pow_le_pow_right (by decide) hw)
  have hhi : v / 2 ^ c < 2 ^ (w - c) := by
    rw [Nat.div_lt_iff_lt_mul (Nat.two_pow_pos c), ← Nat.pow_add, show w - c + c = w by omega]
    exact hv
  have hlo : v % 2 ^ c < 2 ^ c := Nat.mod_lt _ (Nat.two_pow_pos c)
  have hb1 := (blen_le (v / 2 ^ c) (w - c)).2 hhi
  have hb2 := (blen_le (v % 2 ^ c) c).2 hlo
  have hhi64 : v / 2 ^ c < 2 ^ 64 := Nat.lt_of_le_of_lt (Nat.div_le_self _ _) hv64
  have hlo64 : v % 2 ^ c < 2 ^ 64 := Nat.lt_of_le_of_lt (Nat.mod_le _ _) hv64
  have eL : (l ++ low v w).length = l.length + w := by rw [List.length_append, low_length]
  have eM : (l ++ low (v / 2 ^ c) (w - c)).length = l.length + (w - c) := by rw [List.length_append, low_length]
  have p1 := put_yes (k := k) (by omega) (v / 2 ^ c) hhi64 ((w - c : Nat) : Int) l hl
  have p2 := put_yes (k := k) (by omega) (v % 2 ^ c) hlo64 (c : Int) (l ++ low (v / 2 ^ c) (w - c)) (by omega)
  have g1 := get_yes (k := k) (by omega) (l ++ low v w) (by omega) (l.length : Int) ((w - c : Nat) : Int)
  have g2 := get_yes (k := k) (by omega) (l ++ low v w) (by omega) ((l.length + (w - c) : Nat) : Int) (c : Int)
  have q1 : ((l ++ low v w).drop l.length).take (w - c) = low (v / 2 ^ c) (w - c) := by
    rw [List.drop_left, low_cut v w c hc, List.take_left' (low_length _ _)]
  have q2 : ((l ++ low v w).drop (l.length + (w - c))).take c = low v c := by
    rw [low_cut v w c hc, ← List.append_assoc, List.drop_left' eM, List.take_of_length_le (Nat.le_of_eq (low_length _ _))]
  have q3 : l ++ low (v / 2 ^ c) (w - c) ++ low (v % 2 ^ c) c = l ++ low v w := by
    rw [low_mod v c c (Nat.le_refl _), List.append_assoc, ← low_cut v w c hc]
  have n1 : num (low (v / 2 ^ c) (w - c)) = v / 2 ^ c := by rw [num_low, Nat.mod_eq_of_lt hhi]
  have n2 : num (low v c) = v % 2 ^ c := num_low v c
  rw [Int.toNat_natCast] at p1 p2
  rw [Int.toNat_natCast, Int.toNat_natCast, q1, n1, eL] at g1
  rw [Int.toNat_natCast, Int.toNat_natCast, q2, n2, eL] at g2
  rw [eM, q3] at p2
  clear hv hhi hlo hhi64 hlo64 hv64 n1 n2 q1 q2 q3
  rw [if_pos (by omega), if_pos (by omega)] at p1
  rw [if_pos (by omega), if_pos (by omega)] at p2
  rw [if_pos (by omega), if_pos (by omega)] at g1
  rw [if_pos (by omega), if_pos (by omega)] at g2
  rw [squelchlaw01_BitsSplit.j2, w64 ((w : Int) - (c : Int)) (by omega) (by omega), show (w : Int) - (c : Int) = ((w - c : Nat) : Int) by omega, w64 ((l.length : Int) + (w : Int)) (by omega) (by omega), w64 ((l.length : Int) + (w : Int) - (c : Int)) (by omega) (by omega), show (l.length : Int) + (w : Int) - (c : Int) = ((l.length + (w - c) : Nat) : Int) by omega]
  rw [p1, Option.bind_some]
  dsimp only
  rw [show (l.length : Int) + ((w - c : Nat) : Int) = ((l.length + (w - c) : Nat) : Int) by omega, p2, Option.bind_some, g1, Option.bind_some, g2, Option.bind_some, if_pos rfl]
  dsimp only
  rw [if_pos rfl, if_pos rfl, show ((l.length + (w - c) : Nat) : Int) + (c : Int) = ((l.length + w : Nat) : Int) by omega, same_refl, Option.bind_some, if_pos rfl, if_pos rfl, if_pos rfl, if_pos rfl, beq_self_eq_true]

theorem split_j0 (B : List Int) (N : Int) (hB : isB B) (hlen : B.length ≤ 140737488351232) (v w c : Nat) (hw : w ≤ 64) (hc : c ≤ w) (hv : v < 2 ^ w) (k : Nat) (hk : 200 ≤ k) :
    squelchlaw01_BitsSplit.j0 k (v : Int) (w : Int) (c : Int) true B N = some true := by
  have hv64 : v < 2 ^ 64 := Nat.lt_of_lt_of_le hv (Nat.pow_le_pow_right (by decide) hw)
  obtain ⟨k, rfl⟩ : ∃ m, k = m + 1 + 1 + 1 := ⟨k - 3, by omega⟩
  have hbad : ∀ e : Int, e ≠ 0 → (if (e = 0) then (if (c : Int) > 0 then (if 0 ≤ (IntKind.u64.wrap (wrap64 (64 - (c : Int)))) then (squelchlaw01_BitsSplit.j1 (k + 1 + 1) (v : Int) (w : Int) (c : Int) true (shr .u64 (shl .u64 (v : Int) (IntKind.u64.wrap (wrap64 (64 - (c : Int))))) (IntKind.u64.wrap (wrap64 (64 - (c : Int))))) B N [] 0) else (none)) else (squelchlaw01_BitsSplit.j1 (k + 1 + 1) (v : Int) (w : Int) (c : Int) true 0 B N [] 0)) else (if true = true then (some ((0 : Int) == 0)) else (some false))) = some true := by
    intro e he
    rw [if_neg he, if_pos rfl]
    rfl
  rw [squelchlaw01_BitsSplit.j0]
  by_cases hok : Ok B N
  · obtain ⟨l, rfl, rfl, hl⟩ := hok
    have hb := (blen_le v w).2 hv
    have p := put_yes (k := k + 1 + 1) (by omega) v hv64 (w : Int) l hl
    rw [Int.toNat_natCast] at p
    by_cases hlw : l.length + w ≤ 65536
    · have hj := split_j2 l hl v w c hw hc hv hlw k (by omega)
      have el : shr .u64 (shl .u64 (v : Int) ((64 - c : Nat) : Int)) ((64 - c : Nat) : Int) = ((v % 2 ^ c : Nat) : Int) := by
        rw [shl_u64 v (64 - c) (by omega), shr_u64 _ (64 - c) (by omega), cut_low v c (by omega)]
      have eh : shr .u64 (v : Int) (c : Int) = ((v / 2 ^ c : Nat) : Int) := shr_u64 v c (by omega)
      have e64 : c = 64 → v / 2 ^ c = 0 := by
        intro h
        rw [h]
        exact Nat.div_eq_of_lt hv64
      have e0 : c = 0 → v % 2 ^ c = 0 := by
        intro h
        rw [h, Nat.pow_zero, Nat.mod_one]
      clear hv hv64
      generalize v % 2 ^ c = lo at hj el e0
      generalize v / 2 ^ c = hi at hj eh e64
      rw [if_pos (by omega), if_pos (by omega)] at p
      have hj1 : squelchlaw01_BitsSplit.j1 (k + 1 + 1) (v : Int) (w : Int) (c : Int) true (lo : Int) (pack l) (l.length : Int) (pack (l ++ low v w)) ((l.length + w : Nat) : Int) = some true := by
        rw [squelchlaw01_BitsSplit.j1]
        by_cases h64 : (c : Int) < 64
        · rw [if_pos h64, u64ws (c : Int) (by omega) (by omega), if_pos (Int.natCast_nonneg c), eh]
          exact hj
        · rw [e64 (by omega)] at hj
          rw [if_neg h64]
          exact hj
      rw [p, Option.bind_some]
      dsimp only
      rw [if_pos rfl, show (l.length : Int) + (w : Int) = ((l.length + w : Nat) : Int) by omega]
      by_cases h0 : (c : Int) > 0
      · rw [if_pos h0, w64 (64 - (c : Int)) (by omega) (by omega), u64ws (64 - (c : Int)) (by omega) (by omega), if_pos (show 0 ≤ 64 - (c : Int) by omega), show 64 - (c : Int) = ((64 - c : Nat) : Int) by omega, el]
        exact hj1
      · rw [e0 (by omega)] at hj1
        rw [if_neg h0]
        exact hj1
    · clear hv hv64
      rw [if_pos (by omega), if_neg (by omega)] at p
      rw [p, Option.bind_some]
      exact hbad 2 (by decide)
  · rw [put_no (by omega) hB hlen hok, Option.bind_some]
    exact hbad 1 (by decide)

theorem split_w (a : Int) (h0 : -9223372036854775808 ≤ a) (h1 : a ≤ 9223372036854775807) : ∃ w : Nat, w ≤ 64 ∧ Int.tmod (wrap64 ((Int.tmod a 65) + 65)) 65 = (w : Int) := by
  have h2 : -65 < Int.tmod a 65 := Int.lt_tmod_of_pos a (by decide)
  have h3 : Int.tmod a 65 < 65 := Int.tmod_lt_of_pos a (by decide)
  rw [w64 (Int.tmod a 65 + 65) (by omega) (by omega)]
  have h4 : 0 ≤ Int.tmod a 65 + 65 := by omega
  generalize Int.tmod a 65 + 65 = z at h4
  have h5 : Int.tmod z 65 < 65 := Int.tmod_lt_of_pos z (by decide)
  have h6 : 0 ≤ Int.tmod z 65 := Int.tmod_nonneg _ h4
  exact ⟨(Int.tmod z 65).toNat, by omega, by omega⟩
theorem split_c (a : Int) (w : Nat) (hw : w ≤ 64) : ∃ c : Nat, c ≤ w ∧ Int.tmod (wrap64 ((wrap64 ((Int.tmod a (wrap64 ((w : Int) + 1))) + (w : Int))) + 1)) (wrap64 ((w : Int) + 1)) = (c : Int) := by
  rw [w64 ((w : Int) + 1) (by omega) (by omega)]
  have h1 : Int.tmod a ((w : Int) + 1) < (w : Int) + 1 := Int.tmod_lt_of_pos a (by omega)
  have h2 : -((w : Int) + 1) < Int.tmod a ((w : Int) + 1) := by
    have := Int.lt_tmod_of_pos a (show (0 : Int) < (w : Int) + 1 by omega)
    exact this
  rw [w64 (Int.tmod a ((w : Int) + 1) + (w : Int)) (by omega) (by omega), w64 (Int.tmod a ((w : Int) + 1) + (w : Int) + 1) (by omega) (by omega)]
  have h3 : 0 ≤ Int.tmod a ((w : Int) + 1) + (w : Int) + 1 := by omega
  generalize Int.tmod a ((w : Int) + 1) + (w : Int) + 1 = z at h3
  have h4 : Int.tmod z ((w : Int) + 1) < (w : Int) + 1 := Int.tmod_lt_of_pos z (by omega)
  have h5 : 0 ≤ Int.tmod z ((w : Int) + 1) := Int.tmod_nonneg _ h3
  exact ⟨(Int.tmod z ((w : Int) + 1)).toNat, by omega, by omega⟩

theorem split_pure : squelchlaw01_BitsSplit.Pure := by
  intro B N v a2 a3 ⟨hl1, hl2, hB0⟩ _ hv hw2 _
  have hB : isB B := fun x hx => wf_u8s (hB0 x hx)
  have hlen : B.length ≤ 140737488351232 := by omega
  obtain ⟨hv0, hv1⟩ := wf_u64s hv
  obtain ⟨v, rfl⟩ := Int.eq_ofNat_of_zero_le hv0
  have hv2 : v < 18446744073709551616 := by omega
  have ha2 : -9223372036854775808 ≤ a2 ∧ a2 ≤ 9223372036854775807 := by
    simp [Lit.wf] at hw2
    have h1 : IntKind.i64.min = -9223372036854775808 := rfl
    have h2 : IntKind.i64.max = 9223372036854775807 := rfl
    omega
  refine ⟨1000, ?_⟩
  obtain ⟨b, hb⟩ := few_ones (k := 1000) (by decide) ⟨B, N⟩
  obtain ⟨w, hw, ew⟩ := split_w a2 ha2.1 ha2.2
  obtain ⟨c, hc, ec⟩ := split_c a3 w hw
  unfold squelchlaw01_BitsSplit.f
  rw [live_ok (by decide), Option.bind_some, hb, Option.bind_some]
  cases b
  · rw [if_neg (by decide)]
  · rw [if_pos rfl, ew, ec, w64 ((w : Int) + 1) (by omega) (by omega), if_neg (show ¬ ((w : Int) + 1 = 0) by omega)]
    by_cases h64 : (w : Int) < 64
    · rw [if_pos h64, u64ws (w : Int) (by omega) (by omega), if_pos (Int.natCast_nonneg w), mask_all v w (by omega) hv2]
      exact split_j0 B N hB hlen _ w c hw hc (Nat.mod_lt _ (Nat.two_pow_pos w)) 1000 (by decide)
    · obtain rfl : w = 64 := by omega
      rw [if_neg h64]
      exact split_j0 B N hB hlen v 64 c hw hc (by simpa using hv2) 1000 (by decide)

end Go.Proofs.Ytkgcjiaadgnlkaa.BT
namespace Go.Proofs.Ytkgcjiaadgnlkaa.Pure
theorem BitsSplit : Go.Proofs.Ytkgcjiaadgnlkaa.PA.squelchlaw01_BitsSplit.Pure := Go.Proofs.Ytkgcjiaadgnlkaa.BT.split_pure
end Go.Proofs.Ytkgcjiaadgnlkaa.Pure
