/- What the document puts over packed bits: numbers and codes; and that the program does the same. -/
import Derived.Test.YtkgcjiaadgnlkaaBtJ
import Derived.Test.YtkgcjiaadgnlkaaPAx11
import Derived.Test.YtkgcjiaadgnlkaaPAx12
set_option linter.unusedVariables false
namespace Go.Proofs.Ytkgcjiaadgnlkaa.BT
open Go.RowKit Go.Proofs.YtkgcjiaadgnlkaaW.PrintWords Go.Proofs.YtkgcjiaadgnlkaaW.PrintMore Go.Proofs.Ytkgcjiaadgnlkaa.PA

/-! ### what the document puts -/
theorem low_succ (v w : Nat) : low v (w + 1) = (v / 2 ^ w % 2 == 1) :: low v w := rfl
theorem toNat_eq_one (x : Nat) (h : x < 2) : (x == 1).toNat = x := by
  rcases Nat.lt_or_ge x 1 with h1 | h1
  · obtain rfl : x = 0 := by omega
    rfl
  · obtain rfl : x = 1 := by omega
    rfl
theorem refput_l0 (v : Nat) (hv : v < 18446744073709551616) (w : Nat) : ∀ (k : Nat) (l : List Bool), w < k → w ≤ 64 → l.length + w ≤ 65536 →
    squelchref01_Put.l0 k (v : Int) ((w : Int) - 1) (pack l) (l.length : Int) = some (pack (l ++ low v w), ((l.length + w : Nat) : Int), 0) := by
  induction w with
  | zero =>
    intro k l hk _ _
    obtain ⟨k, rfl⟩ : ∃ m, k = m + 1 := ⟨k - 1, by omega⟩
    rw [squelchref01_Put.l0, if_neg (by decide)]
    show some (pack l, (l.length : Int), (0 : Int)) = some (pack (l ++ []), ((l.length + 0 : Nat) : Int), 0)
    rw [List.append_nil, Nat.add_zero]
  | succ w ih =>
    intro k l hk hw hl
    obtain ⟨k, rfl⟩ : ∃ m, k = m + 1 := ⟨k - 1, by omega⟩
    have e0 : ((w + 1 : Nat) : Int) - 1 = (w : Int) := by omega
    have e1 : IntKind.u64.wrap (w : Int) = (w : Int) := u64w _ (Int.natCast_nonneg w) (by omega)
    have h2 : v / 2 ^ w < 18446744073709551616 := Nat.lt_of_le_of_lt (Nat.div_le_self _ _) hv
    have e2 := push_ok l (by omega) (v / 2 ^ w % 2 == 1)
    rw [toNat_eq_one _ (Nat.mod_lt _ (by decide))] at e2
    have e3 := ih k (l ++ [v / 2 ^ w % 2 == 1]) (by omega) (by omega) (by rw [List.length_append, List.length_singleton]; omega)
    rw [List.length_append, List.length_singleton, List.append_assoc, List.singleton_append, ← low_succ, show l.length + 1 + w = l.length + (w + 1) from by omega] at e3
    have e4 := shr_u64 v w (by omega)
    have e5 := and1_u64 _ h2
    rw [squelchref01_Put.l0, e0, if_pos (Int.natCast_nonneg w), e1, if_pos (Int.natCast_nonneg w), e4, e5, e2, Option.bind_some]
    rw [w64 ((w : Int) - 1) (by omega) (by omega)]
    exact e3

theorem refput_j0 (k : Nat) (v : Nat) (hv : v < 18446744073709551616) (w : Nat) (hw : w ≤ 64) (l : List Bool) (hl : l.length ≤ 65536) (hk : 70 ≤ k) :
    squelchref01_Put.j0 (k + 1) (v : Int) (w : Int) false (pack l) (l.length : Int) = if (l.length : Int) + (w : Int) ≤ 65536 then some (pack (l ++ low v w), (l.length : Int) + (w : Int), 0) else some ([], 0, 2) := by
  have hp := pack_short l (by omega)
  rw [squelchref01_Put.j0, if_neg (by decide), w64 ((l.length : Int) + (w : Int)) (by omega) (by omega)]
  by_cases h : (l.length : Int) + (w : Int) ≤ 65536
  · rw [if_neg (by omega), if_pos h]
    unfold squelchref01_Copy.f
    rw [if_pos (by simp only [List.length_nil]; omega), Option.bind_some]
    dsimp only
    rw [List.nil_append, w64 ((w : Int) - 1) (by omega) (by omega), refput_l0 v hv w k l (by omega) hw (by omega)]
    rfl
  · rw [if_pos (by omega), if_neg h]

theorem refput_yes {k : Nat} (hk : 90 ≤ k) (v : Nat) (hv : v < 2 ^ 64) (w : Int) (l : List Bool) (hl : l.length ≤ 65536) :
    squelchref01_Put.f k (pack l) (l.length : Int) (v : Int) w = if 0 ≤ w ∧ w ≤ 64 ∧ (blen v : Int) ≤ w then (if (l.length : Int) + w ≤ 65536 then some (pack (l ++ low v w.toNat), (l.length : Int) + w, 0) else some ([], 0, 2)) else some ([], 0, 1) := by
  have hv' : v < 18446744073709551616 := by simpa using hv
  obtain ⟨k, rfl⟩ : ∃ m, k = m + 1 := ⟨k - 1, by omega⟩
  unfold squelchref01_Put.f
  rw [refcheck_yes (by omega) l hl, Option.bind_some, if_pos rfl]
  have bad : squelchref01_Put.j0 (k + 1) (v : Int) w true (pack l) (l.length : Int) = some ([], 0, 1) := by rw [squelchref01_Put.j0, if_pos rfl]
  by_cases h0 : w < 0
  · rw [if_pos h0, bad, if_neg (by omega)]
  rw [if_neg h0]
  by_cases h1 : w > 64
  · rw [if_pos h1, bad, if_neg (by omega)]
  rw [if_neg h1]
  obtain ⟨n, rfl⟩ := Int.eq_ofNat_of_zero_le (show 0 ≤ w by omega)
  have hb64 := blen_le64 v hv'
  by_cases h2 : (n : Int) < 64
  · rw [if_pos h2, u64w (n : Int) (Int.natCast_nonneg n) (by omega), if_pos (Int.natCast_nonneg n), shr_u64 v n (by omega)]
    have hb := blen_le v n
    by_cases h3 : blen v ≤ n
    · have e : v / 2 ^ n = 0 := Nat.div_eq_of_lt (hb.1 h3)
      rw [e, show (((0 : Nat) : Int) != 0) = false from rfl, refput_j0 k v hv' n (by omega) l hl (by omega), if_pos (show 0 ≤ (n : Int) ∧ (n : Int) ≤ 64 ∧ (blen v : Int) ≤ (n : Int) from ⟨Int.natCast_nonneg n, by omega, by omega⟩), Int.toNat_natCast]
    · have e : ((((v / 2 ^ n : Nat) : Int)) != 0) = true := by
        have h4 : 0 < v / 2 ^ n := Nat.div_pos (Nat.le_of_not_lt fun h => h3 (hb.2 h)) (Nat.two_pow_pos n)
        revert h4
        generalize v / 2 ^ n = z
        intro h4
        rw [bne_iff_ne]
        omega
      rw [e, bad, if_neg (by omega)]
  · obtain rfl : n = 64 := by omega
    have hc : 0 ≤ ((64 : Nat) : Int) ∧ ((64 : Nat) : Int) ≤ 64 ∧ (blen v : Int) ≤ ((64 : Nat) : Int) := ⟨by decide, by decide, by omega⟩
    rw [if_neg h2, refput_j0 k v hv' 64 (by omega) l hl (by omega), if_pos hc, Int.toNat_natCast]
theorem refput_no {k : Nat} (hk : 13 ≤ k) {B : List Int} {N : Int} (hB : isB B) (hlen : B.length ≤ 140737488351232) (h : ¬ Ok B N) (v w : Int) : squelchref01_Put.f k B N v w = some ([], 0, 1) := by
  obtain ⟨k, rfl⟩ : ∃ m, k = m + 1 := ⟨k - 1, by omega⟩
  unfold squelchref01_Put.f
  rw [refcheck_no (by omega) hB hlen h, Option.bind_some, if_neg (by decide), squelchref01_Put.j0, if_pos rfl]

theorem long_l0 (d : Nat) : ∀ (k x n : Nat), blen x ≤ d → x < 18446744073709551616 → d < k → n + d ≤ 1000 → squelchref01_long.l0 k (x : Int) (n : Int) = some ((n + blen x : Nat) : Int) := by
  induction d with
  | zero =>
    intro k x n hx _ hk _
    obtain ⟨k, rfl⟩ : ∃ m, k = m + 1 := ⟨k - 1, by omega⟩
    obtain rfl : x = 0 := by
      rcases Nat.eq_zero_or_pos x with h | h
      · exact h
      · have := blen_pos x h
        omega
    rw [squelchref01_long.l0, if_neg (by decide), blen_zero, Nat.add_zero]
  | succ d ih =>
    intro k x n hx hx64 hk hn
    obtain ⟨k, rfl⟩ : ∃ m, k = m + 1 := ⟨k - 1, by omega⟩
    rcases Nat.eq_zero_or_pos x with rfl | h
    · rw [squelchref01_long.l0, if_neg (by decide), blen_zero, Nat.add_zero]
    · have hb := blen_half x h
      rw [squelchref01_long.l0, if_pos (show ((x : Int) > 0) by omega), w64 ((n : Int) + 1) (by omega) (by omega), show (n : Int) + 1 = ((n + 1 : Nat) : Int) from by omega, show (x : Int) / 2 = ((x / 2 : Nat) : Int) from by omega, ih k (x / 2) (n + 1) (by omega) (by omega) (by omega) (by omega), hb, show n + 1 + blen (x / 2) = n + (blen (x / 2) + 1) from by omega]
theorem long_ok {k : Nat} (hk : 65 ≤ k) (x : Nat) (hx : x < 18446744073709551616) : squelchref01_long.f k (x : Int) = some (blen x : Int) := by
  unfold squelchref01_long.f
  have := long_l0 64 k x 0 (blen_le64 x hx) hx (by omega) (by omega)
  rw [Nat.zero_add] at this
  exact this

theorem refputcode_yes {k : Nat} (hk : 100 ≤ k) (v : Nat) (l : List Bool) (hl : l.length ≤ 65536) :
    squelchref01_PutCode.f k (pack l) (l.length : Int) (v : Int) = if v < 4294967296 then (if l.length + (code v).length ≤ 65536 then some (pack (l ++ code v), ((l.length + (code v).length : Nat) : Int), 0) else some ([], 0, 2)) else some ([], 0, 1) := by
  obtain ⟨k, rfl⟩ : ∃ m, k = m + 1 := ⟨k - 1, by omega⟩
  unfold squelchref01_PutCode.f
  rw [refcheck_yes (by omega) l hl, Option.bind_some, if_pos rfl]
  by_cases h : v < 4294967296
  · have hc := code_length v
    have hbp := blen_pos (v + 1) (by omega)
    have hb33 : blen (v + 1) ≤ 33 := (blen_le (v + 1) 33).2 (by omega)
    rw [if_pos h, decide_eq_false (show ¬ ((v : Int) ≥ 4294967296) by omega), squelchref01_PutCode.j0, if_neg (by decide), wrap_succ v (by omega), long_ok (by omega) (v + 1) (by omega), Option.bind_some]
    obtain ⟨n, hn⟩ : ∃ n, blen (v + 1) = n + 1 := ⟨blen (v + 1) - 1, by omega⟩
    have e1 : wrap64 ((blen (v + 1) : Int) - 1) = (n : Int) := by rw [w64 ((blen (v + 1) : Int) - 1) (by omega) (by omega)]; omega
    have hp : squelchref01_Put.f k (pack l) (l.length : Int) 0 (n : Int) = _ := refput_yes (k := k) (by omega) 0 (by decide) (n : Int) l hl
    rw [if_pos (show 0 ≤ (n : Int) ∧ (n : Int) ≤ 64 ∧ (blen 0 : Int) ≤ (n : Int) from ⟨Int.natCast_nonneg n, by omega, by rw [blen_zero]; omega⟩)] at hp
    rw [e1, hp]
    by_cases h1 : (l.length : Int) + (n : Int) ≤ 65536
    · rw [if_pos h1, Option.bind_some]
      dsimp only
      rw [if_pos rfl, Int.toNat_natCast]
      have hlen : (l ++ low 0 n).length = l.length + n := by rw [List.length_append, low_length]
      have hp2 := refput_yes (k := k) (by omega) (v + 1) (by omega) (blen (v + 1) : Int) (l ++ low 0 n) (by omega)
      rw [if_pos (show 0 ≤ (blen (v + 1) : Int) ∧ (blen (v + 1) : Int) ≤ 64 ∧ (blen (v + 1) : Int) ≤ (blen (v + 1) : Int) from ⟨Int.natCast_nonneg _, by omega, Int.le_refl _⟩), hlen] at hp2
      rw [show (l.length : Int) + (n : Int) = ((l.length + n : Nat) : Int) from by omega, hp2]
      have hcode : l ++ low 0 n ++ low (v + 1) (blen (v + 1)) = l ++ code v := by
        unfold code
        rw [List.append_assoc, show blen (v + 1) - 1 = n from by omega]
      by_cases h2 : l.length + (code v).length ≤ 65536
      · rw [if_pos (by omega), if_pos h2, Option.bind_some]
        dsimp only
        rw [Int.toNat_natCast, hcode, hc, show ((l.length + n : Nat) : Int) + (blen (v + 1) : Int) = ((l.length + (2 * blen (v + 1) - 1) : Nat) : Int) from by omega]
      · rw [if_neg (by omega), if_neg h2, Option.bind_some]
    · have h2 : ¬ (l.length + (code v).length ≤ 65536) := by omega
      rw [if_neg h1, Option.bind_some, if_neg h2]
      dsimp only
      rw [if_neg (show ¬ ((2 : Int) = 0) by decide)]
  · rw [if_neg h, decide_eq_true (show ((v : Int) ≥ 4294967296) by omega), squelchref01_PutCode.j0, if_pos rfl]
theorem refputcode_no {k : Nat} (hk : 13 ≤ k) {B : List Int} {N : Int} (hB : isB B) (hlen : B.length ≤ 140737488351232) (h : ¬ Ok B N) (v : Int) : squelchref01_PutCode.f k B N v = some ([], 0, 1) := by
  obtain ⟨k, rfl⟩ : ∃ m, k = m + 1 := ⟨k - 1, by omega⟩
  unfold squelchref01_PutCode.f
  rw [refcheck_no (by omega) hB hlen h, Option.bind_some, if_neg (by decide), squelchref01_PutCode.j0, if_pos rfl]

/-- Both put a code alike. -/
theorem putcode_both {k : Nat} (hk : 100 ≤ k) {B : List Int} (N : Int) (hB : isB B) (hlen : B.length ≤ 140737488351232) (v : Nat) (hv : v < 18446744073709551616) : ∃ C M e, bits_PutCode.f k B N (v : Int) = some (C, M, e) ∧ squelchref01_PutCode.f k B N (v : Int) = some (C, M, e) := by
  by_cases h : Ok B N
  · obtain ⟨l, rfl, rfl, hl⟩ := h
    rw [putcode_yes (by omega) v l hl, refputcode_yes (by omega) v l hl]
    by_cases h1 : v < 4294967296
    · rw [if_pos h1]
      by_cases h2 : l.length + (code v).length ≤ 65536
      · rw [if_pos h2]
        exact ⟨_, _, _, rfl, rfl⟩
      · rw [if_neg h2]
        exact ⟨_, _, _, rfl, rfl⟩
    · rw [if_neg h1]
      exact ⟨_, _, _, rfl, rfl⟩
  · exact ⟨_, _, _, putcode_no (by omega) hB hlen h v hv, refputcode_no (by omega) hB hlen h _⟩
theorem put_both {k : Nat} (hk : 100 ≤ k) {B : List Int} (N : Int) (hB : isB B) (hlen : B.length ≤ 140737488351232) (v : Nat) (hv : v < 18446744073709551616) (w : Int) : ∃ C M e, bits_Put.f k B N (v : Int) w = some (C, M, e) ∧ squelchref01_Put.f k B N (v : Int) w = some (C, M, e) := by
  by_cases h : Ok B N
  · obtain ⟨l, rfl, rfl, hl⟩ := h
    rw [put_yes (by omega) v (by simpa using hv) w l hl, refput_yes (by omega) v (by simpa using hv) w l hl]
    by_cases h1 : 0 ≤ w ∧ w ≤ 64 ∧ (blen v : Int) ≤ w
    · rw [if_pos h1]
      by_cases h2 : (l.length : Int) + w ≤ 65536
      · rw [if_pos h2]
        exact ⟨_, _, _, rfl, rfl⟩
      · rw [if_neg h2]
        exact ⟨_, _, _, rfl, rfl⟩
    · rw [if_neg h1]
      exact ⟨_, _, _, rfl, rfl⟩
  · exact ⟨_, _, _, put_no (by omega) hB hlen h _ w, refput_no (by omega) hB hlen h _ w⟩

end Go.Proofs.Ytkgcjiaadgnlkaa.BT
