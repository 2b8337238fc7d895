/- The pure statement of BitsCodes: codes of greater numbers are no shorter, none is another one's beginning, cut off a code is ErrShort; for all arguments. -/
import Derived.Test.YtkgcjiaadgnlkaaBtG
import Derived.Test.YtkgcjiaadgnlkaaPAx15
set_option linter.unusedVariables false
namespace Go.Proofs.Ytkgcjiaadgnlkaa.BT
open Go.RowKit Go.Proofs.YtkgcjiaadgnlkaaW.PrintWords Go.Proofs.YtkgcjiaadgnlkaaW.PrintMore Go.Proofs.Ytkgcjiaadgnlkaa.PA

theorem num_code (v : Nat) : num (code v) = v + 1 := by
  unfold code
  rw [num_append, num_low, num_low, Nat.zero_mod, Nat.zero_mul, Nat.zero_add]
  exact Nat.mod_eq_of_lt (lt_blen _)
theorem code_zero (v i : Nat) (h : i < blen (v + 1) - 1) (h2 : i < (code v).length) : (code v)[i] = false := by
  unfold code at h2 ⊢
  rw [List.getElem_append_left (by rw [low_length]; exact h)]
  have : ∀ n j (h : j < (low 0 n).length), (low 0 n)[j] = false := by
    intro n
    induction n with
    | zero => intro j h; simp [low] at h
    | succ n ih =>
      intro j h
      cases j with
      | zero => simp [low]
      | succ j => simp only [low, List.getElem_cons_succ]; exact ih j _
  exact this _ _ _
theorem code_one (v : Nat) (h2 : blen (v + 1) - 1 < (code v).length) : (code v)[blen (v + 1) - 1] = true := by
  have hb := blen_pos (v + 1) (by omega)
  have hg := blen_ge (v + 1) (by omega)
  have hl := lt_blen (v + 1)
  unfold code at h2 ⊢
  rw [List.getElem_append_right (by rw [low_length]; omega)]
  simp only [low_length, Nat.sub_self]
  obtain ⟨s, hs⟩ : ∃ s, blen (v + 1) = s + 1 := ⟨blen (v + 1) - 1, by omega⟩
  simp only [hs] at hg hl ⊢
  simp only [low, List.getElem_cons_zero, Nat.add_sub_cancel] at hg ⊢
  have : (v + 1) / 2 ^ s = 1 := by
    exact Nat.div_eq_of_lt_le (by rw [Nat.one_mul]; exact hg) (by rw [Nat.pow_succ] at hl; omega)
  rw [this]
  rfl
theorem blen_mono (a b : Nat) (h : a ≤ b) : blen a ≤ blen b := by
  rw [blen_le]
  exact Nat.lt_of_le_of_lt h (lt_blen b)
theorem code_long (p q : Nat) (h : p ≤ q) : (code p).length ≤ (code q).length := by
  have := blen_mono (p + 1) (q + 1) (by omega)
  rw [code_length, code_length]
  omega
theorem num_zeros (m : Nat) (n : Nat) (r : List Bool) : num ((low 0 m ++ r).take n) < 2 ^ (n - m) := by
  by_cases h : n ≤ m
  · rw [List.take_append_of_le_length (by rw [low_length]; exact h)]
    have : ∀ m n, num ((low 0 m).take n) = 0 := by
      intro m
      induction m with
      | zero => intro n; simp [low, num]
      | succ m ih =>
        intro n
        cases n with
        | zero => rfl
        | succ n => simp [low, num, ih]
    rw [this]
    exact Nat.two_pow_pos _
  · have e : (low 0 m ++ r).take n = low 0 m ++ r.take (n - m) := by
      rw [List.take_append, low_length, List.take_of_length_le (by rw [low_length]; omega)]
    rw [e, num_append, num_low, Nat.zero_mod, Nat.zero_mul, Nat.zero_add]
    refine Nat.lt_of_lt_of_le (num_lt _) (Nat.pow_le_pow_right (by decide) ?_)
    rw [List.length_take]
    omega
theorem code_apart (p q : Nat) (h : p < q) : num ((code q).take (code p).length) ≠ num (code p) := by
  rw [num_code]
  have hb := blen_pos (p + 1) (by omega)
  have hg := blen_ge (p + 1) (by omega)
  have hm := blen_mono (p + 1) (q + 1) (by omega)
  by_cases he : blen (p + 1) = blen (q + 1)
  · rw [List.take_of_length_le (by rw [code_length, code_length]; omega), num_code]
    omega
  · have h1 : num ((code q).take (code p).length) < 2 ^ ((code p).length - (blen (q + 1) - 1)) := num_zeros _ _ _
    have h2 : 2 ^ ((code p).length - (blen (q + 1) - 1)) ≤ 2 ^ (blen (p + 1) - 1) := Nat.pow_le_pow_right (by decide) (by rw [code_length]; omega)
    omega
theorem code_le65 (p : Nat) (h : p < 4294967296) : (code p).length ≤ 65 ∧ blen (p + 1) ≤ 33 := by
  have : blen (p + 1) ≤ 33 := (blen_le (p + 1) 33).2 (by simp only [show 2 ^ 33 = 8589934592 from rfl]; omega)
  rw [code_length]
  omega

/-- A code that is cut off. -/
theorem code_cut {k : Nat} (hk : 150 ≤ k) (p : Nat) (hp : p < 4294967296) (c : Nat) (hc : c < (code p).length) :
    bits_GetCode.f k (pack ((code p).take c)) (((code p).take c).length : Int) 0 = some (0, 0, 20) := by
  obtain ⟨h65, h33⟩ := code_le65 p hp
  have hb := blen_pos (p + 1) (by omega)
  have hlen : ((code p).take c).length = c := by rw [List.length_take]; omega
  have hcl := code_length p
  have g := getcode_yes hk ((code p).take c) (by omega) 0 (min c (blen (p + 1) - 1)) (by omega) (by omega) (fun i hi _ h2 => by
    rw [List.getElem_take]
    exact code_zero p i (by omega) (by omega)) (fun _ h => by
    rw [List.getElem_take]
    have e : 0 + min c (blen (p + 1) - 1) = blen (p + 1) - 1 := by omega
    simp only [e]
    exact code_one p _)
  rw [if_neg (by omega), if_pos (by omega)] at g
  exact g

theorem codes_l0 (p : Nat) (hp : p < 4294967296) (c : Nat) (hc : c < (code p).length) (d : Nat) : ∀ (k i : Nat), i + d = c → 160 + d ≤ k →
    squelchlaw01_BitsCodes.l0 k true (c : Int) (i : Int) (pack (code p)) ((code p).length : Int) (pack ((code p).take i)) (((code p).take i).length : Int) = some true := by
  obtain ⟨h65, h33⟩ := code_le65 p hp
  induction d with
  | zero =>
    intro k i hi hk
    obtain rfl : i = c := by omega
    obtain ⟨k, rfl⟩ : ∃ m, k = m + 1 := ⟨k - 1, by omega⟩
    rw [squelchlaw01_BitsCodes.l0, if_neg (by omega), code_cut (by omega) p hp i hc, Option.bind_some, if_pos rfl, if_pos rfl]
    rfl
  | succ d ih =>
    intro k i hi hk
    obtain ⟨k, rfl⟩ : ∃ m, k = m + 1 := ⟨k - 1, by omega⟩
    have hg := get_yes (k := k) (by omega) (code p) (by omega) (i : Int) 1
    rw [if_pos (by omega), if_pos (by omega), Int.toNat_natCast, show (1 : Int).toNat = 1 from rfl, take_one (code p) i (by omega), num_one] at hg
    have hv : ((code p)[i]'(by omega)).toNat < 2 := by cases (code p)[i]'(by omega) <;> decide
    have hlen : ((code p).take i).length = i := by rw [List.length_take]; omega
    have hbl : (blen ((code p)[i]'(by omega)).toNat : Int) ≤ 1 := by
      have := (blen_le ((code p)[i]'(by omega)).toNat 1).2 (by simpa using hv)
      omega
    have hput := put_yes (k := k) (by omega) ((code p)[i]'(by omega)).toNat (Nat.lt_of_lt_of_le hv (by decide)) 1 ((code p).take i) (by omega)
    rw [if_pos ⟨by decide, by decide, hbl⟩, if_pos (by omega), show (1 : Int).toNat = 1 from rfl] at hput
    have e1 : low ((code p)[i]'(by omega)).toNat 1 = [(code p)[i]'(by omega)] := by cases (code p)[i]'(by omega) <;> rfl
    have e2 : (code p).take i ++ [(code p)[i]'(by omega)] = (code p).take (i + 1) := by rw [List.take_succ_eq_append_getElem]
    rw [e1, e2] at hput
    rw [squelchlaw01_BitsCodes.l0, if_pos (by omega), hg, Option.bind_some, hput, Option.bind_some, if_pos rfl, if_pos rfl, w64 ((i : Int) + 1) (by omega) (by omega)]
    have hi2 := ih k (i + 1) (by omega) (by omega)
    have hlen2 : ((code p).take (i + 1)).length = i + 1 := by rw [List.length_take]; omega
    rw [hlen2] at hi2
    rw [hlen]
    exact hi2

theorem tmod_fix (a n : Int) (hn : 0 < n) (hn2 : n ≤ 1000000) (h0 : -9223372036854775808 ≤ a) (h1 : a ≤ 9223372036854775807) : ∃ c : Nat, Int.tmod (wrap64 (Int.tmod a n + n)) n = (c : Int) ∧ (c : Int) < n := by
  have h2 := Int.tmod_lt_of_pos a hn
  have h3 : -n < Int.tmod a n := by
    have := Int.lt_tmod_of_pos a hn
    omega
  rw [w64 _ (by omega) (by omega), Int.tmod_eq_emod_of_nonneg (by omega)]
  have h4 := Int.emod_nonneg (Int.tmod a n + n) (by omega : n ≠ 0)
  have h5 := Int.emod_lt_of_pos (Int.tmod a n + n) hn
  exact ⟨((Int.tmod a n + n) % n).toNat, by omega, by omega⟩

theorem codes_j1 (p : Nat) (hp : p < 4294967296) (a2 : Int) (h0 : -9223372036854775808 ≤ a2) (h1 : a2 ≤ 9223372036854775807) {k : Nat} (hk : 300 ≤ k) :
    squelchlaw01_BitsCodes.j1 k a2 true (pack (code p)) ((code p).length : Int) = some true := by
  obtain ⟨h65, h33⟩ := code_le65 p hp
  have hb := blen_pos (p + 1) (by omega)
  have hcl := code_length p
  obtain ⟨k, rfl⟩ : ∃ m, k = m + 1 := ⟨k - 1, by omega⟩
  rw [squelchlaw01_BitsCodes.j1, if_neg (by omega)]
  obtain ⟨c, hc, hlt⟩ := tmod_fix a2 ((code p).length : Int) (by omega) (by omega) h0 h1
  rw [hc]
  have h := codes_l0 p hp c (by omega) c k 0 (by omega) (by omega)
  rw [List.take_zero, pack_nil, List.length_nil, show ((0 : Nat) : Int) = 0 from rfl] at h
  exact h

theorem codes_j0 (p q : Nat) (hp : p ≤ q) (hq : q < 4294967296) (a b : Int) (hab : a = b ∨ p < q) (a2 : Int) (h0 : -9223372036854775808 ≤ a2) (h1 : a2 ≤ 9223372036854775807) {k : Nat} (hk : 400 ≤ k) :
    squelchlaw01_BitsCodes.j0 k a b a2 true false (pack (code p)) ((code p).length : Int) (pack (code q)) ((code q).length : Int) = some true := by
  obtain ⟨h65, h33⟩ := code_le65 p (by omega)
  obtain ⟨h65q, h33q⟩ := code_le65 q hq
  have hlong := code_long p q hp
  have hj1 := fun {k : Nat} (hk : 300 ≤ k) => codes_j1 p (by omega) a2 h0 h1 hk
  obtain ⟨k, rfl⟩ : ∃ m, k = m + 1 := ⟨k - 1, by omega⟩
  rw [squelchlaw01_BitsCodes.j0, if_neg (by decide)]
  by_cases he : a = b
  · rw [if_pos he]
    exact hj1 (by omega)
  · rw [if_neg he]
    have hpq : p < q := by rcases hab with h | h; exact absurd h he; exact h
    rw [Int.tmod_eq_emod_of_nonneg (Int.natCast_nonneg _)]
    have hg1 := get_yes (k := k) (by omega) (code q) (by omega) 0 (((code p).length : Int) % 65)
    have hg2 := get_yes (k := k) (by omega) (code p) (by omega) 0 (((code p).length : Int) % 65)
    rw [if_pos (by omega), if_pos (by omega)] at hg1 hg2
    rw [hg1, Option.bind_some, hg2, Option.bind_some]
    by_cases h64 : (code p).length ≤ 64
    · rw [if_pos (by omega), if_pos rfl, if_pos rfl]
      have e : (((code p).length : Int) % 65).toNat = (code p).length := by omega
      rw [e, if_neg]
      · exact hj1 (by omega)
      · intro hh
        apply code_apart p q hpq
        have := Int.ofNat_inj.1 hh
        simp only [show (0 : Int).toNat = 0 from rfl, List.drop_zero] at this
        rw [this, List.take_of_length_le (Nat.le_refl _)]
    · rw [if_neg (by omega)]
      exact hj1 (by omega)

theorem wf_u64 {a : Int} (h : (Lit.int .u64 a).wf = true) : 0 ≤ a ∧ a < 18446744073709551616 := by
  simp [Lit.wf] at h
  have h1 : IntKind.u64.min = 0 := rfl
  have h2 : IntKind.u64.max = 18446744073709551615 := rfl
  omega
theorem wf_i64 {a : Int} (h : (Lit.int .i64 a).wf = true) : -9223372036854775808 ≤ a ∧ a ≤ 9223372036854775807 := by
  simp [Lit.wf] at h
  have h1 : IntKind.i64.min = -9223372036854775808 := rfl
  have h2 : IntKind.i64.max = 9223372036854775807 := rfl
  omega
theorem codes_pure : squelchlaw01_BitsCodes.Pure := by
  intro a0 a1 a2 w0 w1 w2
  obtain ⟨h0, h0'⟩ := wf_u64 w0
  obtain ⟨h1, h1'⟩ := wf_u64 w1
  obtain ⟨h2, h2'⟩ := wf_i64 w2
  refine ⟨500, ?_⟩
  unfold squelchlaw01_BitsCodes.f
  rw [live_ok (by decide), Option.bind_some, if_pos rfl, Int.tmod_eq_emod_of_nonneg h0, Int.tmod_eq_emod_of_nonneg h1]
  obtain ⟨a, ha⟩ : ∃ a : Nat, a0 % 4294967296 = (a : Int) := ⟨(a0 % 4294967296).toNat, by omega⟩
  obtain ⟨b, hb⟩ : ∃ b : Nat, a1 % 4294967296 = (b : Int) := ⟨(a1 % 4294967296).toNat, by omega⟩
  rw [ha, hb]
  have ha2 : a < 4294967296 := by omega
  have hb2 : b < 4294967296 := by omega
  have e1 : mn (a : Int) (b : Int) = ((min a b : Nat) : Int) := by rw [mn_eq]; omega
  have e2 : mx (a : Int) (b : Int) = ((max a b : Nat) : Int) := by unfold mx; omega
  rw [e1, e2]
  obtain ⟨p, hp⟩ : ∃ p, p = min a b := ⟨_, rfl⟩
  obtain ⟨q, hq⟩ : ∃ q, q = max a b := ⟨_, rfl⟩
  rw [← hp, ← hq]
  have hp2 : p < 4294967296 := by omega
  have hq2 : q < 4294967296 := by omega
  have hcp := code_le65 p hp2
  have hcq := code_le65 q hq2
  have g1 := putcode_yes (k := 500) (by decide) p [] (by simp)
  have g2 := putcode_yes (k := 500) (by decide) q [] (by simp)
  rw [if_pos hp2, if_pos (by simp only [List.length_nil]; omega), List.nil_append, List.length_nil, Nat.zero_add, pack_nil] at g1
  rw [if_pos hq2, if_pos (by simp only [List.length_nil]; omega), List.nil_append, List.length_nil, Nat.zero_add, pack_nil] at g2
  rw [show ((0 : Nat) : Int) = 0 from rfl] at g1 g2
  rw [g1, Option.bind_some, g2, Option.bind_some, if_pos rfl, if_pos rfl]
  dsimp only
  have hlong := code_long p q (by omega)
  have hpos : 1 ≤ (code p).length := by
    have := blen_pos (p + 1) (by omega)
    rw [code_length]
    omega
  rw [if_neg (by omega), decide_eq_false (show ¬ (((code p).length : Nat) : Int) < 1 by omega)]
  exact codes_j0 p q (by omega) hq2 a b (by omega) a2 h2 h2' (by decide)

end Go.Proofs.Ytkgcjiaadgnlkaa.BT
namespace Go.Proofs.Ytkgcjiaadgnlkaa.Pure
theorem BitsCodes : Go.Proofs.Ytkgcjiaadgnlkaa.PA.squelchlaw01_BitsCodes.Pure := Go.Proofs.Ytkgcjiaadgnlkaa.BT.codes_pure
end Go.Proofs.Ytkgcjiaadgnlkaa.Pure
