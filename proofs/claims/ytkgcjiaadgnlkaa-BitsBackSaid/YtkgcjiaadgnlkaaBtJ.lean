/- What the document's own functions come to over packed bits; joining, by both. -/
import Derived.Test.YtkgcjiaadgnlkaaBtL
import Derived.Test.YtkgcjiaadgnlkaaPAx8
import Derived.Test.YtkgcjiaadgnlkaaPAx9
import Derived.Test.YtkgcjiaadgnlkaaPAx10
import Derived.Test.YtkgcjiaadgnlkaaPAx11
import Derived.Test.YtkgcjiaadgnlkaaPAx18
set_option linter.unusedVariables false
namespace Go.Proofs.Ytkgcjiaadgnlkaa.BT
open Go.RowKit Go.Proofs.YtkgcjiaadgnlkaaW.PrintWords Go.Proofs.YtkgcjiaadgnlkaaW.PrintMore Go.Proofs.Ytkgcjiaadgnlkaa.PA

/-! ### the document's own functions -/
theorem u64w (n : Int) (h0 : 0 ≤ n) (h1 : n < 18446744073709551616) : IntKind.u64.wrap n = n := by rw [IntKind.wrap_u64]; omega
theorem and1_u64 (x : Nat) (hx : x < 18446744073709551616) : Go.bits .and .u64 (x : Int) 1 = ((x % 2 : Nat) : Int) := by
  have := bits_mask .u64 64 (by decide) wraps_u64 1 (by decide) (x : Int) (Int.natCast_nonneg _) (Int.ofNat_lt.2 hx)
  rw [show ((2 : Int) ^ 1 - 1) = 1 from rfl, show ((2 : Int) ^ 1) = 2 from rfl] at this
  rw [this]
  omega
/-- A bit of a byte. -/
theorem refbit_at {n : Int} (B : List Int) (x : Nat) (hx : x < 256) (at_ : Nat) (ha : at_ ≤ 10000000) (hl : at_ / 8 < B.length) (hb : rd B ((at_ / 8 : Nat) : Int) = (x : Int)) (hlen : B.length ≤ 140737488351232) :
    squelchref01_bit.f B n (at_ : Int) = some ((x / 2 ^ (7 - at_ % 8) % 2 : Nat) : Int) := by
  unfold squelchref01_bit.f
  have t1 : wrap64 (Int.tdiv (at_ : Int) 8) = ((at_ / 8 : Nat) : Int) := by
    rw [Int.tdiv_eq_ediv_of_nonneg (Int.natCast_nonneg at_)]
    rw [w64 ((at_ : Int) / 8) (by omega) (by omega)]
    omega
  have t2 : IntKind.u64.wrap (wrap64 (7 - Int.tmod (at_ : Int) 8)) = ((7 - at_ % 8 : Nat) : Int) := by
    rw [tmod8]
    rw [w64 (7 - ((at_ % 8 : Nat) : Int)) (by omega) (by omega)]
    rw [u64w (7 - ((at_ % 8 : Nat) : Int)) (by omega) (by omega)]
    omega
  rw [t1, t2]
  have q1 : (0 : Int) ≤ ((at_ / 8 : Nat) : Int) := Int.natCast_nonneg _
  have q2 : ((at_ / 8 : Nat) : Int) < (B.length : Int) := by omega
  have q3 : (0 : Int) ≤ ((7 - at_ % 8 : Nat) : Int) := Int.natCast_nonneg _
  rw [if_pos q1, if_pos q2, if_pos q3, hb, shr_u8 x (7 - at_ % 8) (by omega)]
  have h3 : x / 2 ^ (7 - at_ % 8) < 256 := Nat.lt_of_le_of_lt (Nat.div_le_self _ _) hx
  rw [u64w _ (Int.natCast_nonneg _) (by omega), and1_u64 _ (by omega)]

theorem refcheck_l0 (C : List Nat) (x : Nat) (hx : x < 256) (hC : 0 < C.length) (hlen : C.length ≤ 10000) (hlast : C.getD (C.length - 1) 0 = x) (N : Int) (d : Nat) : ∀ (k at_ : Nat), d < k → d ≤ 8 → at_ + d = 8 * C.length →
    squelchref01_Check.l0 k (at_ : Int) (C.map (fun x : Nat => (x : Int))) N = some (if x % 2 ^ d = 0 then 0 else 1) := by
  induction d with
  | zero =>
    intro k at_ hk _ ha
    obtain ⟨k, rfl⟩ : ∃ m, k = m + 1 := ⟨k - 1, by omega⟩
    rw [squelchref01_Check.l0, List.length_map]
    rw [w64 (8 * (C.length : Int)) (by omega) (by omega)]
    rw [if_neg (show ¬ ((at_ : Int) < 8 * (C.length : Int)) by omega), Nat.pow_zero, Nat.mod_one, if_pos rfl]
  | succ d ih =>
    intro k at_ hk hd ha
    obtain ⟨k, rfl⟩ : ∃ m, k = m + 1 := ⟨k - 1, by omega⟩
    rw [squelchref01_Check.l0, List.length_map]
    rw [w64 (8 * (C.length : Int)) (by omega) (by omega)]
    rw [if_pos (show ((at_ : Int) < 8 * (C.length : Int)) by omega)]
    have hr := rd_last C hC
    rw [hlast] at hr
    rw [refbit_at (n := N) (C.map (fun x : Nat => (x : Int))) x hx at_ (by omega) (by rw [List.length_map]; omega) (by rw [show ((at_ / 8 : Nat) : Int) = (C.length : Int) - 1 from by omega]; exact hr) (by rw [List.length_map]; omega), Option.bind_some]
    have hm : 7 - at_ % 8 = d := by omega
    rw [hm]
    have h1 : x % 2 ^ (d + 1) = x % 2 ^ d + 2 ^ d * (x / 2 ^ d % 2) := Nat.mod_pow_succ
    by_cases hb : x / 2 ^ d % 2 = 0
    · rw [hb, show ((0 : Nat) : Int) = 0 from rfl, if_pos rfl]
      rw [w64 ((at_ : Int) + 1) (by omega) (by omega)]
      rw [show (at_ : Int) + 1 = ((at_ + 1 : Nat) : Int) from by omega, ih k (at_ + 1) (by omega) (by omega) (by omega)]
      rw [hb, Nat.mul_zero] at h1
      rw [h1, Nat.add_zero]
    · have hp := Nat.two_pow_pos d
      have hb1 : x / 2 ^ d % 2 = 1 := by omega
      rw [hb1, show ((1 : Nat) : Int) = 1 from rfl, if_neg (by decide)]
      rw [hb1, Nat.mul_one] at h1
      rw [if_neg (by omega)]

theorem refcheck_le (B : List Int) (N : Int) (k : Nat) (hk : 12 ≤ k) (hB : isB B) (hlen : B.length ≤ 140737488351232) :
    squelchref01_Check.f k B N = bits_Check.f k B N := by
  obtain ⟨C, rfl, hC⟩ := nat_of_isB B hB
  rw [List.length_map] at hlen
  obtain ⟨k, rfl⟩ : ∃ m, k = m + 1 := ⟨k - 1, by omega⟩
  unfold squelchref01_Check.f bits_Check.f
  by_cases h0 : N < 0
  · rw [if_pos h0, if_pos h0, squelchref01_Check.j0, bits_Check.j0, if_pos rfl, if_pos rfl]
  · rw [if_neg h0, if_neg h0]
    by_cases h1 : N > 65536
    · rw [if_pos h1, if_pos h1, squelchref01_Check.j0, bits_Check.j0, if_pos rfl, if_pos rfl]
    · rw [if_neg h1, if_neg h1]
      obtain ⟨n, rfl⟩ := Int.eq_ofNat_of_zero_le (by omega : 0 ≤ N)
      rw [need8 _ (by omega) (by omega), List.length_map]
      by_cases h2 : C.length = (n + 7) / 8
      · have e : ((C.length : Int) != ((n : Int) + 7) / 8) = false := by rw [bne_eq_false_iff_eq]; omega
        rw [e, check_j0 k C n hC (by omega) h2, squelchref01_Check.j0, if_neg (by decide)]
        by_cases h8 : n % 8 = 0
        · obtain ⟨k, rfl⟩ : ∃ m, k = m + 1 := ⟨k - 1, by omega⟩
          rw [squelchref01_Check.l0, List.length_map]
          rw [w64 (8 * (C.length : Int)) (by omega) (by omega)]
          rw [if_neg (show ¬ ((n : Int) < 8 * (C.length : Int)) by omega), if_pos (fun h => absurd h8 h)]
        · have hx : C.getD (C.length - 1) 0 < 256 := by
            rw [List.getD_eq_getElem?_getD, List.getElem?_eq_getElem (by omega)]
            exact hC _ (List.getElem_mem _)
          rw [refcheck_l0 C _ hx (by omega) (by omega) rfl (n : Int) (8 - n % 8) k n (by omega) (by omega) (by omega)]
          by_cases hz : (C.getD (C.length - 1) 0) % 2 ^ (8 - n % 8) = 0
          · rw [if_pos hz, if_pos (fun _ => hz)]
          · rw [if_neg hz, if_neg (fun h => hz (h h8))]
      · have e : ((C.length : Int) != ((n : Int) + 7) / 8) = true := by rw [bne_iff_ne]; omega
        rw [e, squelchref01_Check.j0, bits_Check.j0, if_pos rfl, if_pos rfl]

theorem refcheck_yes {k : Nat} (hk : 12 ≤ k) (l : List Bool) (hl : l.length ≤ 65536) : squelchref01_Check.f k (pack l) (l.length : Int) = some 0 := by
  rw [refcheck_le _ _ k hk (isB_pack l) (by have := pack_short l (by omega); omega)]
  exact check_yes (by omega) l hl
theorem refcheck_no {k : Nat} (hk : 12 ≤ k) {B : List Int} {N : Int} (hB : isB B) (hlen : B.length ≤ 140737488351232) (h : ¬ Ok B N) : squelchref01_Check.f k B N = some 1 := by
  rw [refcheck_le _ _ k hk hB hlen]
  exact check_no (by omega) hB hlen h

theorem same_ok (B C : List Int) (N M : Int) : squelchref01_Same.f B N C M = some (decide (N = M) && ((strOfNums B).toList == (strOfNums C).toList)) := by
  unfold squelchref01_Same.f
  by_cases h : N = M
  · rw [if_pos h, decide_eq_true h, Bool.true_and]
  · rw [if_neg h, decide_eq_false h, Bool.false_and]
theorem same_refl (B : List Int) (N : Int) : squelchref01_Same.f B N B N = some true := by
  rw [same_ok]
  simp

/-- A bit of packed bits. -/
theorem refbit_pack (l : List Bool) (hl : l.length ≤ 65536) (i : Nat) (hi : i < l.length) (N : Int) : squelchref01_bit.f (pack l) N (i : Int) = some ((l[i].toNat : Nat) : Int) := by
  have hcl := chunk_length l (i / 8)
  have hb := byte_nat (chunk l (i / 8)) (by omega)
  have hrd : rd (pack l) ((i / 8 : Nat) : Int) = ((num (chunk l (i / 8)) * 2 ^ (8 - (chunk l (i / 8)).length) : Nat) : Int) := rd_pack l _ (by omega)
  have h := refbit_at (n := N) (pack l) _ hb i (by omega) (by rw [pack_length]; omega) hrd (by rw [pack_length]; omega)
  rw [h]
  have e := byte_part (chunk l (i / 8)) (i % 8) 1 (by omega) (by omega)
  rw [chunk_cut _ _ _ _ (by omega), show 8 * (i / 8) + i % 8 = i from by omega, take_one l i hi, num_one, Nat.pow_one, show 8 - i % 8 - 1 = 7 - i % 8 from by omega] at e
  rw [e]

theorem push_ok (l : List Bool) (hl : l.length ≤ 65536) (b : Bool) : squelchref01_push.f (pack l) (l.length : Int) ((b.toNat : Nat) : Int) = some (pack (l ++ [b]), ((l.length + 1 : Nat) : Int)) := by
  unfold squelchref01_push.f
  have hpl := pack_length l
  have t1 : wrap64 (Int.tdiv (l.length : Int) 8) = ((l.length / 8 : Nat) : Int) := by
    rw [Int.tdiv_eq_ediv_of_nonneg (Int.natCast_nonneg l.length)]
    rw [w64 ((l.length : Int) / 8) (by omega) (by omega)]
    omega
  have t2 : IntKind.u64.wrap (wrap64 (7 - Int.tmod (l.length : Int) 8)) = ((7 - l.length % 8 : Nat) : Int) := by
    rw [tmod8]
    rw [w64 (7 - ((l.length % 8 : Nat) : Int)) (by omega) (by omega)]
    rw [u64w (7 - ((l.length % 8 : Nat) : Int)) (by omega) (by omega)]
    omega
  have hbt : b.toNat < 2 := by cases b <;> decide
  have hpw : b.toNat * 2 ^ (7 - l.length % 8) < 256 := by
    have h9 : (2 : Nat) ^ (7 - l.length % 8) ≤ 2 ^ 7 := Nat.pow_le_pow_right (by decide) (by omega)
    have h7 : (2 : Nat) ^ 7 = 128 := rfl
    rw [h7] at h9
    generalize (2 : Nat) ^ (7 - l.length % 8) = y at h9 ⊢
    cases b
    · simp
    · simp
      omega
  have t3 : (shl .u64 ((b.toNat : Nat) : Int) ((7 - l.length % 8 : Nat) : Int)) % 256 = ((b.toNat * 2 ^ (7 - l.length % 8) : Nat) : Int) := by
    unfold shl
    rw [Int.toNat_natCast, show min (7 - l.length % 8) IntKind.u64.bits = 7 - l.length % 8 from Nat.min_eq_left (by have : IntKind.u64.bits = 64 := rfl; omega)]
    have e : ((b.toNat : Nat) : Int) * 2 ^ (7 - l.length % 8) = ((b.toNat * 2 ^ (7 - l.length % 8) : Nat) : Int) := by simp
    rw [e]
    generalize b.toNat * 2 ^ (7 - l.length % 8) = z at hpw ⊢
    rw [u64w (z : Int) (by omega) (by omega)]
    omega
  clear hpw
  have hw : wrap64 ((l.length : Int) + 1) = ((l.length + 1 : Nat) : Int) := by rw [w64 ((l.length : Int) + 1) (by omega) (by omega)]; omega
  rw [t1, t2, tmod8, t3, hw]
  clear t1 t2 t3 hw
  have q1 : (0 : Int) ≤ ((l.length / 8 : Nat) : Int) := Int.natCast_nonneg _
  have q3 : (0 : Int) ≤ ((7 - l.length % 8 : Nat) : Int) := Int.natCast_nonneg _
  by_cases hr : l.length % 8 = 0
  · have hlen : ((pack l ++ [0] : List Int).length : Int) = ((l.length / 8 + 1 : Nat) : Int) := by
      rw [List.length_append, hpl]
      simp only [List.length_cons, List.length_nil]
      omega
    rw [if_pos (show ((l.length % 8 : Nat) : Int) = 0 by omega), if_pos (show (pack l).length < 140737488355328 by omega), Option.bind_some, if_pos q1, hlen, if_pos (show ((l.length / 8 : Nat) : Int) < ((l.length / 8 + 1 : Nat) : Int) by omega), if_pos q3]
    have hrd : rd (pack l ++ [0]) ((l.length / 8 : Nat) : Int) = byte [] := by
      unfold rd
      rw [Int.toNat_natCast, List.getD_eq_getElem?_getD, List.getElem?_append_right (by rw [hpl]; omega), hpl, show l.length / 8 - (l.length + 7) / 8 = 0 from by omega]
      rfl
    have ho := byte_or [] [b] (by simp)
    simp only [List.length_nil, List.length_cons, num_one, List.nil_append] at ho
    rw [hrd, Int.toNat_natCast, show 7 - l.length % 8 = 8 - 0 - (0 + 1) from by omega, ho, pack_new l [b] hr (by simp) (by simp)]
  · have hlen : ((pack l).length : Int) = ((l.length / 8 + 1 : Nat) : Int) := by rw [hpl]; omega
    obtain ⟨c, hc⟩ : ∃ c, c = l.drop (8 * (l.length / 8)) := ⟨_, rfl⟩
    have hcl : c.length = l.length % 8 := by rw [hc, List.length_drop]; omega
    have hrd : rd (pack l) ((l.length / 8 : Nat) : Int) = byte c := by
      rw [rd_pack l (l.length / 8) (by omega), hc]
      unfold chunk
      rw [List.take_of_length_le (by rw [List.length_drop]; omega)]
    have ho := byte_or c [b] (by simp; omega)
    simp only [List.length_cons, List.length_nil, num_one] at ho
    rw [if_neg (show ¬ ((l.length % 8 : Nat) : Int) = 0 by omega), if_pos q1, hlen, if_pos (show ((l.length / 8 : Nat) : Int) < ((l.length / 8 + 1 : Nat) : Int) by omega), if_pos q3, hrd, Int.toNat_natCast,
      show 7 - l.length % 8 = 8 - c.length - (0 + 1) from by omega, ho, hc, pack_set l [b] hr (by simp; omega)]

/-! ### joining -/
def mkb (l : List Bool) : S24 := ⟨pack l, (l.length : Int)⟩
def goodS (x : S24) : Prop := isB x.f0 ∧ x.f0.length ≤ 140737488351232
def okS (x : S24) : Prop := Ok x.f0 x.f1
theorem okS_mk {x : S24} (h : okS x) : ∃ l, x = mkb l ∧ l.length ≤ 65536 := by
  obtain ⟨l, h1, h2, h3⟩ := h
  exact ⟨l, by cases x; simp only at h1 h2; subst h1; subst h2; rfl, h3⟩
theorem first_bad (xs : List S24) (n : Nat) : (∀ j, j < n → okS (xs.getD j z24)) ∨ ∃ p, p < n ∧ (∀ j, j < p → okS (xs.getD j z24)) ∧ ¬ okS (xs.getD p z24) := by
  induction n with
  | zero => exact .inl fun j hj => by omega
  | succ n ih =>
    rcases ih with h | ⟨p, h1, h2, h3⟩
    · by_cases hn : okS (xs.getD n z24)
      · refine .inl fun j hj => ?_
        by_cases e : j = n
        · subst e; exact hn
        · exact h j (by omega)
      · exact .inr ⟨n, by omega, h, hn⟩
    · exact .inr ⟨p, by omega, h2, h3⟩
theorem rd_T24_nat (xs : List S24) (i : Nat) : rd_T24 xs (i : Int) = xs.getD i z24 := by unfold rd_T24; rw [Int.toNat_natCast]
theorem good_at {xs : List S24} (h : ∀ x ∈ xs, goodS x) (i : Nat) (hi : i < xs.length) : goodS (xs.getD i z24) := by
  rw [List.getD_eq_getElem?_getD, List.getElem?_eq_getElem hi]
  exact h _ (List.getElem_mem hi)

theorem join_bad (x0 xs : List S24) (hg : ∀ x ∈ xs, goodS x) (hlen : xs.length ≤ 1000) (p : Nat) (hp : p < xs.length) (h1 : ∀ j, j < p → okS (xs.getD j z24)) (h2 : ¬ okS (xs.getD p z24)) (d : Nat) : ∀ (k i s : Nat), i + d = p → d + 20 < k → s ≤ i * 65536 →
    bits_Join.l0 k x0 (s : Int) xs (xs.length : Int) (i : Int) = some ([], 0, 1) ∧ squelchref01_Join.l0 k x0 (s : Int) xs (xs.length : Int) (i : Int) = some ([], 0, 1) := by
  induction d with
  | zero =>
    intro k i s hi hk hs
    obtain rfl : i = p := by omega
    obtain ⟨k, rfl⟩ : ∃ m, k = m + 1 := ⟨k - 1, by omega⟩
    obtain ⟨g1, g2⟩ := good_at hg i hp
    rw [bits_Join.l0, squelchref01_Join.l0, rd_T24_nat, if_pos (show (i : Int) < (xs.length : Int) by omega), if_pos (Int.natCast_nonneg i), if_pos (show (i : Int) < (xs.length : Int) by omega), if_pos (show (i : Int) < (xs.length : Int) by omega), if_pos (Int.natCast_nonneg i), if_pos (show (i : Int) < (xs.length : Int) by omega),
      check_no (by omega) g1 g2 h2, refcheck_no (by omega) g1 g2 h2, Option.bind_some, Option.bind_some, if_neg (by decide), if_neg (by decide)]
    exact ⟨rfl, rfl⟩
  | succ d ih =>
    intro k i s hi hk hs
    obtain ⟨k, rfl⟩ : ∃ m, k = m + 1 := ⟨k - 1, by omega⟩
    obtain ⟨l, hl, hll⟩ := okS_mk (h1 i (by omega))
    rw [bits_Join.l0, squelchref01_Join.l0, rd_T24_nat, hl, if_pos (show (i : Int) < (xs.length : Int) by omega), if_pos (Int.natCast_nonneg i), if_pos (show (i : Int) < (xs.length : Int) by omega), if_pos (show (i : Int) < (xs.length : Int) by omega), if_pos (Int.natCast_nonneg i), if_pos (show (i : Int) < (xs.length : Int) by omega)]
    simp only [mkb]
    rw [check_yes (by omega) l hll, refcheck_yes (by omega) l hll, Option.bind_some, Option.bind_some, if_pos rfl, if_pos rfl]
    rw [w64 ((s : Int) + (l.length : Int)) (by omega) (by omega), w64 ((i : Int) + 1) (by omega) (by omega), show (s : Int) + (l.length : Int) = ((s + l.length : Nat) : Int) from by omega, show (i : Int) + 1 = ((i + 1 : Nat) : Int) from by omega]
    exact ih k (i + 1) (s + l.length) (by omega) (by omega) (by omega)

/-- How long bits are together. -/
def total (ls : List (List Bool)) : Nat := ls.flatten.length
theorem total_snoc (ls : List (List Bool)) (l : List Bool) : total (ls ++ [l]) = total ls + l.length := by simp [total]
theorem mk_at (ls : List (List Bool)) (i : Nat) (hi : i < ls.length) : (ls.map mkb).getD i z24 = mkb ls[i] := by
  rw [List.getD_eq_getElem?_getD, List.getElem?_map, List.getElem?_eq_getElem hi]
  rfl
theorem total_take (ls : List (List Bool)) (i : Nat) (hi : i < ls.length) : total (ls.take (i + 1)) = total (ls.take i) + ls[i].length := by
  rw [List.take_succ_eq_append_getElem hi, total_snoc]

theorem join_sum (x0 : List S24) (ls : List (List Bool)) (hlen : ls.length ≤ 1000) (hll : ∀ l ∈ ls, l.length ≤ 65536) (d : Nat) : ∀ (k i : Nat), i + d = ls.length → d + 20 < k → total (ls.take i) ≤ i * 65536 →
    bits_Join.l0 k x0 (total (ls.take i) : Int) (ls.map mkb) (ls.length : Int) (i : Int) = (if total ls > 65536 then some ([], 0, 2) else bits_Join.l1 (k - 1 - d) x0 (x0.length : Int) 0 [] 0) ∧
    squelchref01_Join.l0 k x0 (total (ls.take i) : Int) (ls.map mkb) (ls.length : Int) (i : Int) = (if total ls > 65536 then some ([], 0, 2) else squelchref01_Join.l1 (k - 1 - d) x0 (x0.length : Int) 0 [] 0) := by
  induction d with
  | zero =>
    intro k i hi hk hs
    obtain rfl : i = ls.length := by omega
    obtain ⟨k, rfl⟩ : ∃ m, k = m + 1 := ⟨k - 1, by omega⟩
    rw [bits_Join.l0, squelchref01_Join.l0, if_neg (Int.lt_irrefl _), if_neg (Int.lt_irrefl _), List.take_length]
    by_cases h : total ls > 65536
    · rw [if_pos (by omega), if_pos h, if_pos (by omega), if_pos h]
      exact ⟨rfl, rfl⟩
    · rw [if_neg (by omega), if_neg h, if_neg (by omega), if_neg h]
      exact ⟨rfl, rfl⟩
  | succ d ih =>
    intro k i hi hk hs
    obtain ⟨k, rfl⟩ : ∃ m, k = m + 1 := ⟨k - 1, by omega⟩
    have hil : i < ls.length := by omega
    have hli := hll ls[i] (List.getElem_mem hil)
    have ht := total_take ls i hil
    rw [bits_Join.l0, squelchref01_Join.l0, rd_T24_nat, mk_at ls i hil, List.length_map, if_pos (show (i : Int) < (ls.length : Int) by omega), if_pos (Int.natCast_nonneg i), if_pos (show (i : Int) < (ls.length : Int) by omega), if_pos (show (i : Int) < (ls.length : Int) by omega), if_pos (Int.natCast_nonneg i), if_pos (show (i : Int) < (ls.length : Int) by omega)]
    simp only [mkb]
    rw [check_yes (by omega) ls[i] hli, refcheck_yes (by omega) ls[i] hli, Option.bind_some, Option.bind_some, if_pos rfl, if_pos rfl]
    rw [w64 ((total (ls.take i) : Int) + (ls[i].length : Int)) (by omega) (by omega), w64 ((i : Int) + 1) (by omega) (by omega), show (total (ls.take i) : Int) + (ls[i].length : Int) = ((total (ls.take (i + 1)) : Nat) : Int) from by omega, show (i : Int) + 1 = ((i + 1 : Nat) : Int) from by omega]
    have := ih k (i + 1) (by omega) (by omega) (by omega)
    rw [show k + 1 - 1 - (d + 1) = k - 1 - d from by omega]
    exact this

theorem take_more (l : List Bool) (a m : Nat) (h : a + m ≤ l.length) : l.take (a + m) = l.take a ++ (l.drop a).take m := by
  rw [List.take_add]
/-- The program's inner loop: eight bits a round. -/
theorem join_l2 (xs : List S24) (n i : Int) (l o : List Bool) (hl : l.length ≤ 65536) (ho : o.length + l.length ≤ 65536) (d : Nat) : ∀ (k a : Nat), (d = 0 → l.length ≤ a) → (0 < d → a + 8 * (d - 1) < l.length ∧ l.length ≤ a + 8 * d) → d + 80 < k →
    bits_Join.l2 k (a : Int) xs n i (pack (o ++ l.take a)) (((o ++ l.take a).length : Nat) : Int) (pack l) (l.length : Int) = bits_Join.l1 (k - 1 - d) xs n (wrap64 (i + 1)) (pack (o ++ l)) (((o ++ l).length : Nat) : Int) := by
  induction d with
  | zero =>
    intro k a h0 _ hk
    have ha := h0 rfl
    obtain ⟨k, rfl⟩ : ∃ m, k = m + 1 := ⟨k - 1, by omega⟩
    rw [bits_Join.l2, if_neg (show ¬ ((a : Int) < (l.length : Int)) by omega), List.take_of_length_le ha]
    rfl
  | succ d ih =>
    intro k a _ h1 hk
    obtain ⟨h2, h3⟩ := h1 (by omega)
    obtain ⟨k, rfl⟩ : ∃ m, k = m + 1 := ⟨k - 1, by omega⟩
    obtain ⟨m, hm⟩ : ∃ m, m = min 8 (l.length - a) := ⟨_, rfl⟩
    have hal : a < l.length := by omega
    have hmn : mn 8 (wrap64 ((l.length : Int) - (a : Int))) = (m : Int) := by
      rw [w64 ((l.length : Int) - (a : Int)) (by omega) (by omega), mn_eq]
      omega
    have hlen : (o ++ l.take a).length = o.length + a := by rw [List.length_append, List.length_take]; omega
    have hsl : ((l.drop a).take m).length = m := by rw [List.length_take, List.length_drop]; omega
    have hnum := num_lt ((l.drop a).take m)
    rw [hsl] at hnum
    have hn64 : num ((l.drop a).take m) < 2 ^ 64 := Nat.lt_of_lt_of_le hnum (Nat.pow_le_pow_right (by decide) (by omega))
    clear hnum
    have hadd := add_ok (num ((l.drop a).take m)) hn64 m k (o ++ l.take a) (by omega) (by omega) (by omega)
    clear hn64
    have hlow := low_num ((l.drop a).take m)
    rw [hsl] at hlow
    rw [hlow, List.append_assoc, ← take_more l a m (by omega)] at hadd
    rw [bits_Join.l2, if_pos (show ((a : Int) < (l.length : Int)) by omega), hmn, take_yes l hl a m (by omega) (by omega) (by omega), Option.bind_some]
    unfold bits_add.f
    rw [hadd, Option.bind_some]
    rw [w64 ((a : Int) + 8) (by omega) (by omega), show (a : Int) + 8 = ((a + 8 : Nat) : Int) from by omega]
    have hih := ih k (a + 8) (by omega) (by omega) (by omega)
    have e1 : l.take (a + m) = l.take (a + 8) := by
      by_cases h8 : a + 8 ≤ l.length
      · rw [show m = 8 from by omega]
      · rw [List.take_of_length_le (show l.length ≤ a + m by omega), List.take_of_length_le (show l.length ≤ a + 8 by omega)]
    have e2 : (o ++ l.take a).length + m = (o ++ l.take (a + 8)).length := by
      rw [hlen, List.length_append, List.length_take]
      omega
    rw [e1, e2, show k + 1 - 1 - (d + 1) = k - 1 - d from by omega]
    exact hih
/-- The document's inner loop: a bit a round. -/
theorem refjoin_l2 (xs : List S24) (n i : Int) (l o : List Bool) (hl : l.length ≤ 65536) (ho : o.length + l.length ≤ 65536) (d : Nat) : ∀ (k a : Nat), a + d = l.length → d + 80 < k →
    squelchref01_Join.l2 k xs n i (l.length : Int) (a : Int) (pack (o ++ l.take a)) (((o ++ l.take a).length : Nat) : Int) (pack l) (l.length : Int) = squelchref01_Join.l1 (k - 1 - d) xs n (wrap64 (i + 1)) (pack (o ++ l)) (((o ++ l).length : Nat) : Int) := by
  induction d with
  | zero =>
    intro k a ha hk
    obtain ⟨k, rfl⟩ : ∃ m, k = m + 1 := ⟨k - 1, by omega⟩
    rw [squelchref01_Join.l2, if_neg (show ¬ ((a : Int) < (l.length : Int)) by omega), List.take_of_length_le (show l.length ≤ a by omega)]
    rfl
  | succ d ih =>
    intro k a ha hk
    obtain ⟨k, rfl⟩ : ∃ m, k = m + 1 := ⟨k - 1, by omega⟩
    have hal : a < l.length := by omega
    have hlen : (o ++ l.take a).length = o.length + a := by rw [List.length_append, List.length_take]; omega
    have e1 : o ++ l.take a ++ [l[a]] = o ++ l.take (a + 1) := by rw [List.append_assoc, List.take_succ_eq_append_getElem hal]
    have e2 : (o ++ l.take a).length + 1 = (o ++ l.take (a + 1)).length := by
      rw [hlen, List.length_append, List.length_take]
      omega
    rw [squelchref01_Join.l2, if_pos (show ((a : Int) < (l.length : Int)) by omega), refbit_pack l hl a hal, Option.bind_some, push_ok _ (by omega), Option.bind_some]
    rw [w64 ((a : Int) + 1) (by omega) (by omega), show (a : Int) + 1 = ((a + 1 : Nat) : Int) from by omega, e1, e2, show k + 1 - 1 - (d + 1) = k - 1 - d from by omega]
    exact ih k (a + 1) (by omega) (by omega)

theorem mkb_f0 (l : List Bool) : (mkb l).f0 = pack l := rfl
theorem mkb_f1 (l : List Bool) : (mkb l).f1 = (l.length : Int) := rfl
set_option maxRecDepth 20000 in
theorem join_l1 (ls : List (List Bool)) (hlen : ls.length ≤ 1000) (hll : ∀ l ∈ ls, l.length ≤ 65536) (ht : total ls ≤ 65536) (d : Nat) : ∀ (k i : Nat), i + d = ls.length → d * 66000 + 100 < k → total (ls.take i) + total (ls.drop i) = total ls →
    bits_Join.l1 k (ls.map mkb) (ls.length : Int) (i : Int) (pack (ls.take i).flatten) ((total (ls.take i) : Nat) : Int) = some (pack ls.flatten, ((total ls : Nat) : Int), 0) ∧
    squelchref01_Join.l1 k (ls.map mkb) (ls.length : Int) (i : Int) (pack (ls.take i).flatten) ((total (ls.take i) : Nat) : Int) = some (pack ls.flatten, ((total ls : Nat) : Int), 0) := by
  induction d with
  | zero =>
    intro k i hi hk hs
    obtain rfl : i = ls.length := by omega
    obtain ⟨k, rfl⟩ : ∃ m, k = m + 1 := ⟨k - 1, by omega⟩
    rw [bits_Join.l1, squelchref01_Join.l1, if_neg (Int.lt_irrefl _), if_neg (Int.lt_irrefl _), List.take_length]
    exact ⟨rfl, rfl⟩
  | succ d ih =>
    intro k i hi hk hs
    obtain ⟨k, rfl⟩ : ∃ m, k = m + 1 := ⟨k - 1, by omega⟩
    have hil : i < ls.length := by omega
    have hli := hll ls[i] (List.getElem_mem hil)
    have htt := total_take ls i hil
    have hdrop : total (ls.drop i) = ls[i].length + total (ls.drop (i + 1)) := by
      unfold total
      rw [List.drop_eq_getElem_cons hil, List.flatten_cons, List.length_append]
    have e1 : (ls.take i).flatten ++ ls[i] = (ls.take (i + 1)).flatten := by
      rw [List.take_succ_eq_append_getElem hil, List.flatten_append, List.flatten_cons, List.flatten_nil, List.append_nil]
    have e2 : (((ls.take i).flatten ++ ls[i]).length : Int) = ((total (ls.take (i + 1)) : Nat) : Int) := by rw [e1]; rfl
    rw [bits_Join.l1, squelchref01_Join.l1, rd_T24_nat, mk_at ls i hil, List.length_map, if_pos (show (i : Int) < (ls.length : Int) by omega), if_pos (Int.natCast_nonneg i), if_pos (show (i : Int) < (ls.length : Int) by omega), if_pos (show (i : Int) < (ls.length : Int) by omega), if_pos (Int.natCast_nonneg i), if_pos (show (i : Int) < (ls.length : Int) by omega)]
    rw [mkb_f0, mkb_f1]
    have hfl : (ls.take i).flatten.length = total (ls.take i) := rfl
    have j1 := join_l2 (ls.map mkb) (ls.length : Int) (i : Int) ls[i] (ls.take i).flatten hli (by omega) ((ls[i].length + 7) / 8) k 0 (by omega) (by omega) (by omega)
    have j2 := refjoin_l2 (ls.map mkb) (ls.length : Int) (i : Int) ls[i] (ls.take i).flatten hli (by omega) ls[i].length k 0 (by omega) (by omega)
    rw [List.take_zero, List.append_nil, hfl, show ((0 : Nat) : Int) = 0 from rfl, e2, e1] at j1 j2
    rw [j1, j2]
    rw [w64 ((i : Int) + 1) (by omega) (by omega), show (i : Int) + 1 = ((i + 1 : Nat) : Int) from by omega]
    rw [Nat.succ_mul] at hk
    generalize hz : d * 66000 = z at hk ih
    clear hz
    have h1 := ih (k - 1 - (ls[i].length + 7) / 8) (i + 1) (by omega) (by omega) (by omega)
    have h2 := ih (k - 1 - ls[i].length) (i + 1) (by omega) (by omega) (by omega)
    exact ⟨h1.1, h2.2⟩

end Go.Proofs.Ytkgcjiaadgnlkaa.BT
