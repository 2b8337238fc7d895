/- The pure statement of BitsWrites: a number, a code and a signed number put behind any bits, and Check, are as the document tells; for all arguments. -/
import Derived.Test.YtkgcjiaadgnlkaaBtW
import Derived.Test.YtkgcjiaadgnlkaaPAx13
set_option linter.unusedVariables false
namespace Go.Proofs.Ytkgcjiaadgnlkaa.BT
open Go.RowKit Go.Proofs.YtkgcjiaadgnlkaaW.PrintWords Go.Proofs.YtkgcjiaadgnlkaaW.PrintMore Go.Proofs.Ytkgcjiaadgnlkaa.PA

theorem wf_u8w {a : Int} (h : (Lit.int .u8 a).wf = true) : 0 ≤ a ∧ a ≤ 255 := by
  simp [Lit.wf] at h
  have h1 : IntKind.u8.min = 0 := rfl
  have h2 : IntKind.u8.max = 255 := rfl
  omega
theorem wf_u64w {a : Int} (h : (Lit.int .u64 a).wf = true) : 0 ≤ a ∧ a < 18446744073709551616 := by
  simp [Lit.wf] at h
  have h1 : IntKind.u64.min = 0 := rfl
  have h2 : IntKind.u64.max = 18446744073709551615 := rfl
  omega
theorem xor_ones64 (b : Nat) (hb : b < 2 ^ 64) : (2 ^ 64 - 1) ^^^ b = 2 ^ 64 - 1 - b := by
  apply Nat.eq_of_testBit_eq
  intro i
  rw [Nat.testBit_xor, Nat.testBit_two_pow_sub_one, show 2 ^ 64 - 1 - b = 2 ^ 64 - (b + 1) by omega, Nat.testBit_two_pow_sub_succ hb]
  by_cases hi : i < 64
  · simp [hi]
  · have : b.testBit i = false := Nat.testBit_lt_two_pow (Nat.lt_of_lt_of_le hb (Nat.pow_le_pow_right (by decide) (by omega)))
    simp [hi, this]
theorem xor_m1 (x : Int) (h0 : -9223372036854775808 ≤ x) (h1 : x < 0) : Go.bits .xor .i64 x (-1) = -x - 1 := by
  show IntKind.i64.wrap ((BitVec.ofInt 64 x ^^^ BitVec.ofInt 64 (-1)).toNat : Int) = _
  have h2 : (BitVec.ofInt 64 (-1)).toNat = 2 ^ 64 - 1 := by decide
  have h3 : (BitVec.ofInt 64 x).toNat = (x + 18446744073709551616).toNat := by
    rw [BitVec.toNat_ofInt]
    omega
  rw [BitVec.toNat_xor, h2, h3, Nat.xor_comm, xor_ones64 _ (by omega), IntKind.wrap_i64]
  omega
theorem xor_0 (x : Int) (h0 : 0 ≤ x) (h1 : x < 9223372036854775808) : Go.bits .xor .i64 x 0 = x := by
  show IntKind.i64.wrap ((BitVec.ofInt 64 x ^^^ BitVec.ofInt 64 0).toNat : Int) = _
  have h2 : (BitVec.ofInt 64 0).toNat = 0 := by decide
  have h3 : (BitVec.ofInt 64 x).toNat = x.toNat := by
    rw [BitVec.toNat_ofInt]
    omega
  rw [BitVec.toNat_xor, h2, h3, Nat.xor_zero, IntKind.wrap_i64]
  omega
theorem putsigned_both {k : Nat} (hk : 102 ≤ k) {B : List Int} (N : Int) (hB : isB B) (hlen : B.length ≤ 140737488351232) (s : Int) : ∃ C M e, bits_PutSigned.f k B N s = some (C, M, e) ∧ squelchref01_PutSigned.f k B N s = some (C, M, e) := by
  obtain ⟨k, rfl⟩ : ∃ m, k = m + 1 := ⟨k - 1, by omega⟩
  unfold bits_PutSigned.f squelchref01_PutSigned.f
  by_cases h1 : s < -1073741824
  · rw [if_pos h1, if_pos h1, squelchref01_PutSigned.j0, if_pos rfl]
    exact ⟨_, _, _, rfl, rfl⟩
  rw [if_neg h1, if_neg h1]
  by_cases h2 : s > 1073741824
  · rw [if_pos h2, decide_eq_true h2, squelchref01_PutSigned.j0, if_pos rfl]
    exact ⟨_, _, _, rfl, rfl⟩
  rw [if_neg h2, decide_eq_false h2, squelchref01_PutSigned.j0, if_neg (by decide)]
  rw [w64 (2 * s) (by omega) (by omega)]
  by_cases h3 : s ≥ 0
  · rw [if_pos h3, show s / 9223372036854775808 = 0 by omega, xor_0 (2 * s) (by omega) (by omega), u64w (2 * s) (by omega) (by omega)]
    obtain ⟨n, hn⟩ := Int.eq_ofNat_of_zero_le (show 0 ≤ 2 * s by omega)
    obtain ⟨C, M, e, p1, p2⟩ := putcode_both (k := k + 1) (by omega) N hB hlen n (by omega)
    obtain ⟨C', M', e', q1, q2⟩ := putcode_both (k := k) (by omega) N hB hlen n (by omega)
    have hm : LeO _ _ := squelchref01_PutCode.mono B N (n : Int) k
    have := hm _ q2
    rw [p2] at this
    obtain ⟨rfl, rfl, rfl⟩ : C = C' ∧ M = M' ∧ e = e' := by simpa using this
    rw [hn, p1, q2]
    exact ⟨_, _, _, rfl, rfl⟩
  · rw [if_neg h3, show s / 9223372036854775808 = -1 by omega, xor_m1 (2 * s) (by omega) (by omega), w64 (-2 * s) (by omega) (by omega), w64 (-2 * s - 1) (by omega) (by omega), show -(2 * s) - 1 = -2 * s - 1 by omega, u64w (-2 * s - 1) (by omega) (by omega)]
    obtain ⟨n, hn⟩ := Int.eq_ofNat_of_zero_le (show 0 ≤ -2 * s - 1 by omega)
    obtain ⟨C, M, e, p1, p2⟩ := putcode_both (k := k + 1) (by omega) N hB hlen n (by omega)
    obtain ⟨C', M', e', q1, q2⟩ := putcode_both (k := k) (by omega) N hB hlen n (by omega)
    have hm : LeO _ _ := squelchref01_PutCode.mono B N (n : Int) k
    have := hm _ q2
    rw [p2] at this
    obtain ⟨rfl, rfl, rfl⟩ : C = C' ∧ M = M' ∧ e = e' := by simpa using this
    rw [hn, p1, q2]
    exact ⟨_, _, _, rfl, rfl⟩

theorem check_both {k : Nat} (hk : 12 ≤ k) {B : List Int} (N : Int) (hB : isB B) (hlen : B.length ≤ 140737488351232) : ∃ e, bits_Check.f k B N = some e ∧ squelchref01_Check.f k B N = some e := by
  by_cases h : Ok B N
  · obtain ⟨l, rfl, rfl, hl⟩ := h
    exact ⟨0, check_yes (by omega) l hl, refcheck_yes hk l hl⟩
  · exact ⟨1, check_no (by omega) hB hlen h, refcheck_no hk hB hlen h⟩

theorem writes_l0 (B : List Int) (N : Int) (M : Int) (n : Nat) (hn : n ≤ 9223372036854775806) (d : Nat) : ∀ (k i : Nat) (C : List Int), C.length = n → i + d = n → d < k →
    squelchlaw01_BitsWrites.l0 k true (n : Int) (i : Int) B N B N C M = some true := by
  induction d with
  | zero =>
    intro k i C hC hi hk
    obtain ⟨k, rfl⟩ : ∃ m, k = m + 1 := ⟨k - 1, by omega⟩
    rw [squelchlaw01_BitsWrites.l0, if_neg (show ¬ ((i : Int) < (n : Int)) by omega), if_pos rfl, same_refl, Option.bind_some]
  | succ d ih =>
    intro k i C hC hi hk
    obtain ⟨k, rfl⟩ : ∃ m, k = m + 1 := ⟨k - 1, by omega⟩
    rw [squelchlaw01_BitsWrites.l0, if_pos (show ((i : Int) < (n : Int)) by omega), if_pos (Int.natCast_nonneg i), if_pos (show ((i : Int) < (C.length : Int)) by omega), w64 ((i : Int) + 1) (by omega) (by omega), show (i : Int) + 1 = ((i + 1 : Nat) : Int) from by omega]
    exact ih k (i + 1) _ (by rw [List.length_set]; exact hC) (by omega) (by omega)
theorem few_somew (xs : List S24) (d : Nat) (hlen : xs.length ≤ 4611686018427387904) : ∀ (k i : Nat) (s : Int), i + d = xs.length → d < k → ∃ b, squelchlaw01_few.l0 k s xs (xs.length : Int) (i : Int) = some b := by
  induction d with
  | zero =>
    intro k i s hi hk
    obtain ⟨k, rfl⟩ : ∃ m, k = m + 1 := ⟨k - 1, by omega⟩
    rw [squelchlaw01_few.l0, if_neg (show ¬ ((i : Int) < (xs.length : Int)) by omega)]
    exact ⟨_, rfl⟩
  | succ d ih =>
    intro k i s hi hk
    obtain ⟨k, rfl⟩ : ∃ m, k = m + 1 := ⟨k - 1, by omega⟩
    rw [squelchlaw01_few.l0, if_pos (show (i : Int) < (xs.length : Int) by omega), if_pos (Int.natCast_nonneg i), if_pos (show (i : Int) < (xs.length : Int) by omega)]
    rw [w64 ((i : Int) + 1) (by omega) (by omega), show (i : Int) + 1 = ((i + 1 : Nat) : Int) from by omega]
    exact ih k (i + 1) _ (by omega) (by omega)
theorem few_one {k : Nat} (hk : 2 ≤ k) (x : S24) : ∃ b, squelchlaw01_few.f k [x] = some b := by
  unfold squelchlaw01_few.f
  exact few_somew [x] 1 (by rw [List.length_singleton]; omega) k 0 0 rfl (by omega)
theorem writes_j2 (B : List Int) (N : Int) (C : List Int) (M : Int) (k : Nat) (hC : C.length ≤ 9223372036854775806) (hk : C.length + 1 ≤ k) : squelchlaw01_BitsWrites.j2 (k + 1) true false B N B N C M = some true := by
  rw [squelchlaw01_BitsWrites.j2, if_neg (by decide)]
  exact writes_l0 B N M C.length hC C.length k 0 C rfl (by omega) (by omega)
theorem putcode_short {k : Nat} (hk : 100 ≤ k) {B : List Int} (N : Int) (hB : isB B) (hlen : B.length ≤ 140737488351232) (v : Nat) (hv : v < 18446744073709551616) : ∃ C M e, bits_PutCode.f k B N (v : Int) = some (C, M, e) ∧ C.length ≤ 100000 := by
  by_cases h : Ok B N
  · obtain ⟨l, rfl, rfl, hl⟩ := h
    rw [putcode_yes (by omega) v l hl]
    by_cases h1 : v < 4294967296
    · rw [if_pos h1]
      by_cases h2 : l.length + (code v).length ≤ 65536
      · rw [if_pos h2]
        refine ⟨_, _, _, rfl, ?_⟩
        rw [pack_length, List.length_append]
        omega
      · rw [if_neg h2]
        exact ⟨_, _, _, rfl, by decide⟩
    · rw [if_neg h1]
      exact ⟨_, _, _, rfl, by decide⟩
  · exact ⟨_, _, _, putcode_no (by omega) hB hlen h v hv, by decide⟩
theorem putsigned_short {k : Nat} (hk : 102 ≤ k) {B : List Int} (N : Int) (hB : isB B) (hlen : B.length ≤ 140737488351232) (s : Int) {C : List Int} {M e : Int} (h : bits_PutSigned.f k B N s = some (C, M, e)) : C.length ≤ 100000 := by
  unfold bits_PutSigned.f at h
  by_cases h1 : s < -1073741824
  · rw [if_pos h1] at h
    obtain ⟨rfl, _, _⟩ : ([] : List Int) = C ∧ 0 = M ∧ 1 = e := by simpa using h
    decide
  rw [if_neg h1] at h
  by_cases h2 : s > 1073741824
  · rw [if_pos h2] at h
    obtain ⟨rfl, _, _⟩ : ([] : List Int) = C ∧ 0 = M ∧ 1 = e := by simpa using h
    decide
  rw [if_neg h2] at h
  have hw : ∀ x : Int, ∃ n : Nat, IntKind.u64.wrap x = (n : Int) ∧ n < 18446744073709551616 := by
    intro x
    rw [IntKind.wrap_u64]
    exact ⟨(x % 18446744073709551616).toNat, by omega, by omega⟩
  obtain ⟨n, hn, hn64⟩ := hw (Go.bits .xor .i64 (wrap64 (2 * s)) (s / 9223372036854775808))
  obtain ⟨C', M', e', p1, p2⟩ := putcode_short (k := k) (by omega) N hB hlen n hn64
  rw [hn, p1, Option.bind_some] at h
  obtain ⟨rfl, _, _⟩ : C' = C ∧ M' = M ∧ e' = e := by simpa using h
  exact p2
theorem bne_refl_int (x : Int) : (x != x) = false := by rw [bne_self_eq_false]
theorem writes_j1 (B : List Int) (N : Int) (s : Int) (k : Nat) (hk : 200000 ≤ k) (hB : isB B) (hlen : B.length ≤ 140737488351232) : squelchlaw01_BitsWrites.j1 (k + 1) s true false B N B N = some true := by
  obtain ⟨C, M, e, p1, p2⟩ := putsigned_both (k := k) (by omega) N hB hlen s
  have hs := putsigned_short (k := k) (by omega) N hB hlen s p1
  obtain ⟨e', c1, c2⟩ := check_both (k := k) (by omega) N hB hlen
  obtain ⟨k, rfl⟩ : ∃ m, k = m + 1 := ⟨k - 1, by omega⟩
  rw [squelchlaw01_BitsWrites.j1, if_neg (by decide), p1, Option.bind_some, p2, Option.bind_some]
  dsimp only
  rw [same_refl, Option.bind_some, if_pos rfl, if_pos rfl, c1, Option.bind_some, c2, Option.bind_some, bne_refl_int]
  exact writes_j2 B N C M k (by omega) (by omega)
theorem writes_j0 (B : List Int) (N : Int) (v : Nat) (hv : v < 18446744073709551616) (s : Int) (k : Nat) (hk : 200001 ≤ k) (hB : isB B) (hlen : B.length ≤ 140737488351232) : squelchlaw01_BitsWrites.j0 (k + 1) (v : Int) s true false B N B N = some true := by
  obtain ⟨C, M, e, p1, p2⟩ := putcode_both (k := k) (by omega) N hB hlen v hv
  obtain ⟨k, rfl⟩ : ∃ m, k = m + 1 := ⟨k - 1, by omega⟩
  rw [squelchlaw01_BitsWrites.j0, if_neg (by decide), p1, Option.bind_some, p2, Option.bind_some]
  dsimp only
  rw [same_refl, Option.bind_some, if_pos rfl, bne_refl_int]
  exact writes_j1 B N s k (by omega) hB hlen
theorem writes_pure : squelchlaw01_BitsWrites.Pure := by
  intro B N v w s ⟨hl1, hl2, hB0⟩ _ hv _ _
  have hB : isB B := fun x hx => wf_u8w (hB0 x hx)
  have hlen : B.length ≤ 140737488351232 := by omega
  obtain ⟨hv0, hv1⟩ := wf_u64w hv
  obtain ⟨v, rfl⟩ := Int.eq_ofNat_of_zero_le hv0
  have hv2 : v < 18446744073709551616 := by omega
  refine ⟨200002 + 1, ?_⟩
  obtain ⟨b, hb⟩ := few_one (k := 200002 + 1) (by decide) ⟨B, N⟩
  obtain ⟨C, M, e, p1, p2⟩ := put_both (k := 200002 + 1) (by decide) N hB hlen v hv2 w
  have hcopy : squelchref01_Copy.f B N = some (B, N) := by
    unfold squelchref01_Copy.f
    rw [if_pos (by rw [List.length_nil]; omega), List.nil_append]
  unfold squelchlaw01_BitsWrites.f
  rw [live_ok (by decide), Option.bind_some, hb, Option.bind_some]
  cases b
  · rw [if_neg (by decide)]
  · rw [if_pos rfl, hcopy, Option.bind_some, p1, Option.bind_some, p2, Option.bind_some]
    dsimp only
    rw [same_refl, Option.bind_some, if_pos rfl, bne_refl_int]
    exact writes_j0 B N v hv2 s 200002 (by decide) hB hlen

end Go.Proofs.Ytkgcjiaadgnlkaa.BT
namespace Go.Proofs.Ytkgcjiaadgnlkaa.Pure
theorem BitsWrites : Go.Proofs.Ytkgcjiaadgnlkaa.PA.squelchlaw01_BitsWrites.Pure := Go.Proofs.Ytkgcjiaadgnlkaa.BT.writes_pure
end Go.Proofs.Ytkgcjiaadgnlkaa.Pure
