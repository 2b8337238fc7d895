/- Items put and got: what an item is as bits. -/
import Derived.Test.YtkgcjiaadgnlkaaBtG
import Derived.Test.YtkgcjiaadgnlkaaBtJ
import Derived.Test.YtkgcjiaadgnlkaaPAx12
import Derived.Test.YtkgcjiaadgnlkaaPAx21
import Derived.Test.YtkgcjiaadgnlkaaBBd
set_option linter.unusedVariables false
namespace Go.Proofs.Ytkgcjiaadgnlkaa.BT
open Go.RowKit Go.Proofs.YtkgcjiaadgnlkaaW.PrintWords Go.Proofs.YtkgcjiaadgnlkaaW.PrintMore Go.Proofs.Ytkgcjiaadgnlkaa.PA

theorem e_num_code (v : Nat) : num (code v) = v + 1 := by
  unfold code
  rw [num_append, num_low, num_low, Nat.zero_mod, Nat.zero_mul, Nat.zero_add]
  exact Nat.mod_eq_of_lt (lt_blen _)
theorem e_code_zero (v i : Nat) (h : i < blen (v + 1) - 1) (h2 : i < (code v).length) : (code v)[i] = false := by
  unfold code at h2 ⊢
  rw [List.getElem_append_left (by rw [low_length]; exact h)]
  have : ∀ n j (h : j < (low 0 n).length), (low 0 n)[j] = false := by
    intro n
    induction n with
    | zero => intro j h; simp [low] at h
    | succ n ih =>
      intro j h
      cases j with
      | zero => simp [low]
      | succ j => simp only [low, List.getElem_cons_succ]; exact ih j _
  exact this _ _ _
theorem e_code_one (v : Nat) (h2 : blen (v + 1) - 1 < (code v).length) : (code v)[blen (v + 1) - 1] = true := by
  have hb := blen_pos (v + 1) (by omega)
  have hg := blen_ge (v + 1) (by omega)
  have hl := lt_blen (v + 1)
  unfold code at h2 ⊢
  rw [List.getElem_append_right (by rw [low_length]; omega)]
  simp only [low_length, Nat.sub_self]
  obtain ⟨s, hs⟩ : ∃ s, blen (v + 1) = s + 1 := ⟨blen (v + 1) - 1, by omega⟩
  simp only [hs] at hg hl ⊢
  simp only [low, List.getElem_cons_zero, Nat.add_sub_cancel] at hg ⊢
  have : (v + 1) / 2 ^ s = 1 := by
    exact Nat.div_eq_of_lt_le (by rw [Nat.one_mul]; exact hg) (by rw [Nat.pow_succ] at hl; omega)
  rw [this]
  rfl
theorem e_blen_mono (a b : Nat) (h : a ≤ b) : blen a ≤ blen b := by
  rw [blen_le]
  exact Nat.lt_of_le_of_lt h (lt_blen b)
theorem e_code_long (p q : Nat) (h : p ≤ q) : (code p).length ≤ (code q).length := by
  have := e_blen_mono (p + 1) (q + 1) (by omega)
  rw [code_length, code_length]
  omega
theorem e_num_zeros (m : Nat) (n : Nat) (r : List Bool) : num ((low 0 m ++ r).take n) < 2 ^ (n - m) := by
  by_cases h : n ≤ m
  · rw [List.take_append_of_le_length (by rw [low_length]; exact h)]
    have : ∀ m n, num ((low 0 m).take n) = 0 := by
      intro m
      induction m with
      | zero => intro n; simp [low, num]
      | succ m ih =>
        intro n
        cases n with
        | zero => rfl
        | succ n => simp [low, num, ih]
    rw [this]
    exact Nat.two_pow_pos _
  · have e : (low 0 m ++ r).take n = low 0 m ++ r.take (n - m) := by
      rw [List.take_append, low_length, List.take_of_length_le (by rw [low_length]; omega)]
    rw [e, num_append, num_low, Nat.zero_mod, Nat.zero_mul, Nat.zero_add]
    refine Nat.lt_of_lt_of_le (num_lt _) (Nat.pow_le_pow_right (by decide) ?_)
    rw [List.length_take]
    omega
theorem e_code_apart (p q : Nat) (h : p < q) : num ((code q).take (code p).length) ≠ num (code p) := by
  rw [e_num_code]
  have hb := blen_pos (p + 1) (by omega)
  have hg := blen_ge (p + 1) (by omega)
  have hm := e_blen_mono (p + 1) (q + 1) (by omega)
  by_cases he : blen (p + 1) = blen (q + 1)
  · rw [List.take_of_length_le (by rw [code_length, code_length]; omega), e_num_code]
    omega
  · have h1 : num ((code q).take (code p).length) < 2 ^ ((code p).length - (blen (q + 1) - 1)) := e_num_zeros _ _ _
    have h2 : 2 ^ ((code p).length - (blen (q + 1) - 1)) ≤ 2 ^ (blen (p + 1) - 1) := Nat.pow_le_pow_right (by decide) (by rw [code_length]; omega)
    omega
theorem e_code_le65 (p : Nat) (h : p < 4294967296) : (code p).length ≤ 65 ∧ blen (p + 1) ≤ 33 := by
  have : blen (p + 1) ≤ 33 := (blen_le (p + 1) 33).2 (by simp only [show 2 ^ 33 = 8589934592 from rfl]; omega)
  rw [code_length]
  omega

/-- A code that is cut off. -/

theorem wf_u64b {a : Int} (h : (Lit.int .u64 a).wf = true) : 0 ≤ a ∧ a < 18446744073709551616 := by
  simp [Lit.wf] at h
  have h1 : IntKind.u64.min = 0 := rfl
  have h2 : IntKind.u64.max = 18446744073709551615 := rfl
  omega
theorem wf_i64b {a : Int} (h : (Lit.int .i64 a).wf = true) : -9223372036854775808 ≤ a ∧ a ≤ 9223372036854775807 := by
  simp [Lit.wf] at h
  have h1 : IntKind.i64.min = -9223372036854775808 := rfl
  have h2 : IntKind.i64.max = 9223372036854775807 := rfl
  omega
theorem wf_u8b {a : Int} (h : (Lit.int .u8 a).wf = true) : 0 ≤ a ∧ a ≤ 255 := by
  simp [Lit.wf] at h
  have h1 : IntKind.u8.min = 0 := rfl
  have h2 : IntKind.u8.max = 255 := rfl
  omega
theorem of_nat (x : Int) : (BitVec.ofInt 64 x).toNat = (x % 18446744073709551616).toNat := by
  rw [BitVec.toNat_ofInt]
  rfl
theorem xor_zero64 (x : Int) (h0 : -9223372036854775808 ≤ x) (h1 : x ≤ 9223372036854775807) : Go.bits .xor .i64 x 0 = x := by
  show IntKind.i64.wrap ((BitVec.ofInt 64 x ^^^ BitVec.ofInt 64 0).toNat : Int) = x
  rw [show BitVec.ofInt 64 0 = 0#64 from rfl, BitVec.xor_zero, of_nat, IntKind.wrap_i64]
  omega
theorem xor_ones64 (x : Int) (h0 : -9223372036854775808 ≤ x) (h1 : x ≤ 9223372036854775807) : Go.bits .xor .i64 x (-1) = -x - 1 := by
  show IntKind.i64.wrap ((BitVec.ofInt 64 x ^^^ BitVec.ofInt 64 (-1)).toNat : Int) = -x - 1
  rw [show BitVec.ofInt 64 (-1) = BitVec.allOnes 64 from by decide, BitVec.xor_allOnes, BitVec.toNat_not, of_nat, IntKind.wrap_i64]
  omega
theorem and_one64 (z : Nat) (h : z < 18446744073709551616) : Go.bits .and .u64 (z : Int) 1 = ((z % 2 : Nat) : Int) := by
  have := bits_mask .u64 64 (by decide) (fun n h0 h1 => wraps_u64 n h0 h1) 1 (by omega) (z : Int) (Int.natCast_nonneg _) (by omega)
  rw [show (2 : Int) ^ 1 - 1 = 1 from by decide] at this
  rw [this]
  omega
/-- The number that a signed number's code is of. -/
def zig (s : Int) : Nat := if 0 ≤ s then (2 * s).toNat else (-2 * s - 1).toNat
theorem zig_le (s : Int) (h0 : -1073741824 ≤ s) (h1 : s ≤ 1073741824) : zig s ≤ 2147483648 := by
  unfold zig
  split <;> omega
theorem zig_put (s : Int) (h0 : -1073741824 ≤ s) (h1 : s ≤ 1073741824) : IntKind.u64.wrap (Go.bits .xor .i64 (wrap64 (2 * s)) (s / 9223372036854775808)) = ((zig s : Nat) : Int) := by
  rw [w64 (2 * s) (by omega) (by omega)]
  unfold zig
  by_cases h : 0 ≤ s
  · rw [show s / 9223372036854775808 = 0 by omega, xor_zero64 _ (by omega) (by omega), if_pos h, IntKind.wrap_u64]
    omega
  · rw [show s / 9223372036854775808 = -1 by omega, xor_ones64 _ (by omega) (by omega), if_neg h, IntKind.wrap_u64]
    omega
theorem zig_get (s : Int) (h0 : -1073741824 ≤ s) (h1 : s ≤ 1073741824) : Go.bits .xor .i64 (wrap64 (((zig s : Nat) : Int) / 2)) (wrap64 (-(wrap64 (Go.bits .and .u64 ((zig s : Nat) : Int) 1)))) = s := by
  have hz := zig_le s h0 h1
  rw [and_one64 _ (by omega)]
  by_cases h : 0 ≤ s
  · have e : zig s = (2 * s).toNat := by unfold zig; rw [if_pos h]
    have e2 : zig s % 2 = 0 := by omega
    rw [e2, w64 (((zig s : Nat) : Int) / 2) (by omega) (by omega), w64 ((0 : Nat) : Int) (by decide) (by decide), w64 (-((0 : Nat) : Int)) (by decide) (by decide), show (-((0 : Nat) : Int)) = 0 from by decide, xor_zero64 _ (by omega) (by omega)]
    omega
  · have e : zig s = (-2 * s - 1).toNat := by unfold zig; rw [if_neg h]
    have e2 : zig s % 2 = 1 := by omega
    rw [e2, w64 (((zig s : Nat) : Int) / 2) (by omega) (by omega), w64 ((1 : Nat) : Int) (by decide) (by decide), w64 (-((1 : Nat) : Int)) (by decide) (by decide), show (-((1 : Nat) : Int)) = -1 from by decide, xor_ones64 _ (by omega) (by omega)]
    omega
/-- The signed number that an item of a width below -1 is. -/
def sgn (x : S52) : Int := wrap64 (wrap64 (Int.tmod x.f0 2147483648) - 1073741824)
theorem sgn_b (x : S52) (h : 0 ≤ x.f0) : -1073741824 ≤ sgn x ∧ sgn x ≤ 1073741824 := by
  have h1 := Int.tmod_lt_of_pos x.f0 (show (0 : Int) < 2147483648 by decide)
  have h2 := Int.tmod_nonneg 2147483648 h
  unfold sgn
  generalize Int.tmod x.f0 2147483648 = t at *
  rw [w64 t (by omega) (by omega), w64 (t - 1073741824) (by omega) (by omega)]
  omega
/-- An item's bits, when it is put. -/
def Enc (x : S52) (c : List Bool) : Prop :=
  (0 ≤ x.f1 ∧ x.f1 ≤ 64 ∧ (blen x.f0.toNat : Int) ≤ x.f1 ∧ c = low x.f0.toNat x.f1.toNat) ∨ (x.f1 < -1 ∧ c = code (zig (sgn x))) ∨ (x.f1 = -1 ∧ x.f0.toNat < 4294967296 ∧ c = code x.f0.toNat)
theorem put_enc {k : Nat} (hk : 72 ≤ k) (x : S52) (h0 : 0 ≤ x.f0) (h1 : x.f0 < 18446744073709551616) (l : List Bool) (hl : l.length ≤ 65536) :
    (∃ c, Enc x c ∧ l.length + c.length ≤ 65536 ∧ squelchlaw01_put.f k (pack l) (l.length : Int) x.f0 x.f1 = some (pack (l ++ c), ((l.length + c.length : Nat) : Int), 0)) ∨ (∃ e : Int, e ≠ 0 ∧ squelchlaw01_put.f k (pack l) (l.length : Int) x.f0 x.f1 = some ([], 0, e)) := by
  obtain ⟨v, hv⟩ := Int.eq_ofNat_of_zero_le h0
  have hv64 : v < 2 ^ 64 := by simp; omega
  have ev : x.f0.toNat = v := by omega
  unfold squelchlaw01_put.f
  rw [hv]
  by_cases a : x.f1 ≥ 0
  · rw [if_pos a, put_yes hk v hv64 x.f1 l hl]
    by_cases b : 0 ≤ x.f1 ∧ x.f1 ≤ 64 ∧ (blen v : Int) ≤ x.f1
    · rw [if_pos b]
      by_cases c : (l.length : Int) + x.f1 ≤ 65536
      · rw [if_pos c, Option.bind_some]
        refine .inl ⟨low v x.f1.toNat, .inl ⟨b.1, b.2.1, by rw [ev]; exact b.2.2, by rw [ev]⟩, by rw [low_length]; omega, ?_⟩
        rw [low_length]
        dsimp only
        congr 3
        omega
      · rw [if_neg c, Option.bind_some]
        exact .inr ⟨2, by decide, rfl⟩
    · rw [if_neg b, Option.bind_some]
      exact .inr ⟨1, by decide, rfl⟩
  · rw [if_neg a]
    by_cases b : x.f1 < -1
    · rw [if_pos b]
      have hs := sgn_b x h0
      have es : wrap64 (wrap64 (Int.tmod ((v : Nat) : Int) 2147483648) - 1073741824) = sgn x := by unfold sgn; rw [hv]
      have hz := zig_le _ hs.1 hs.2
      rw [es]
      unfold bits_PutSigned.f
      rw [if_neg (by omega), if_neg (by omega), zig_put _ hs.1 hs.2, putcode_yes hk (zig (sgn x)) l hl, if_pos (by omega)]
      by_cases c : l.length + (code (zig (sgn x))).length ≤ 65536
      · rw [if_pos c, Option.bind_some, Option.bind_some]
        exact .inl ⟨_, .inr (.inl ⟨b, rfl⟩), c, rfl⟩
      · rw [if_neg c, Option.bind_some, Option.bind_some]
        exact .inr ⟨2, by decide, rfl⟩
    · rw [if_neg b]
      rw [putcode_yes hk v l hl]
      by_cases d : v < 4294967296
      · rw [if_pos d]
        by_cases c : l.length + (code v).length ≤ 65536
        · rw [if_pos c, Option.bind_some]
          exact .inl ⟨_, .inr (.inr ⟨by omega, by rw [ev]; exact d, by rw [ev]⟩), c, rfl⟩
        · rw [if_neg c, Option.bind_some]
          exact .inr ⟨2, by decide, rfl⟩
      · rw [if_neg d, Option.bind_some]
        exact .inr ⟨1, by decide, rfl⟩
theorem mid_drop (A c R : List Bool) : ((A ++ c ++ R).drop A.length).take c.length = c := by
  rw [List.append_assoc, List.drop_left, List.take_left]
theorem get_code {k : Nat} (hk : 150 ≤ k) (A R : List Bool) (v : Nat) (hv : v < 4294967296) (hl : (A ++ code v ++ R).length ≤ 65536) : bits_GetCode.f k (pack (A ++ code v ++ R)) ((A ++ code v ++ R).length : Int) (A.length : Int) = some ((v : Int), ((A.length + (code v).length : Nat) : Int), 0) := by
  have hb := blen_pos (v + 1) (by omega)
  have hcl := code_length v
  have h33 : blen (v + 1) ≤ 33 := (e_code_le65 v hv).2
  obtain ⟨z, hz⟩ : ∃ z, blen (v + 1) = z + 1 := ⟨blen (v + 1) - 1, by omega⟩
  have hcz : (code v).length = 2 * z + 1 := by omega
  have hat : ∀ i (h : A.length + i < (A ++ code v ++ R).length) (h2 : i < (code v).length), (A ++ code v ++ R)[A.length + i] = (code v)[i] := fun i h h2 => by
    rw [List.getElem_append_left (by simp; omega), List.getElem_append_right (by omega)]
    congr 1
    omega
  have hlen : (A ++ code v ++ R).length = A.length + (code v).length + R.length := by simp; omega
  rw [getcode_yes hk (A ++ code v ++ R) hl A.length z (by omega) (by omega) (fun i h h1 h2 => by
      obtain ⟨j, rfl⟩ : ∃ j, i = A.length + j := ⟨i - A.length, by omega⟩
      rw [hat j h (by omega)]
      exact e_code_zero v j (by omega) _) (fun _ h => by
      rw [hat z h (by omega)]
      have := e_code_one v (by omega)
      simp only [hz, Nat.add_sub_cancel] at this
      exact this)]
  rw [if_neg (by omega), if_neg (by omega)]
  have hn : num (((A ++ code v ++ R).drop (A.length + z)).take (z + 1)) = v + 1 := by
    have e : ((A ++ code v ++ R).drop (A.length + z)).take (z + 1) = low (v + 1) (z + 1) := by
      rw [List.append_assoc, List.drop_append, List.drop_eq_nil_of_le (by omega), List.nil_append, Nat.add_sub_cancel_left]
      unfold code
      rw [hz, Nat.add_sub_cancel, List.append_assoc, List.drop_append, List.drop_eq_nil_of_le (by rw [low_length]; omega), List.nil_append, low_length, Nat.sub_self, List.drop_zero, List.take_append_of_le_length (by rw [low_length]; omega), List.take_of_length_le (by rw [low_length]; omega)]
    rw [e, num_low]
    exact Nat.mod_eq_of_lt (by have := lt_blen (v + 1); rw [hz] at this; exact this)
  rw [hn, if_neg (by omega), hcz]
  congr 2
  omega

/-- Where bits that stand behind one another begin. -/
def lay (a : Nat) : List (List Bool) → List Int
  | [] => []
  | c :: cs => (a : Int) :: lay (a + c.length) cs
theorem lay_len (a : Nat) (cs : List (List Bool)) : (lay a cs).length = cs.length := by
  induction cs generalizing a with
  | nil => rfl
  | cons c cs ih => rw [lay, List.length_cons, ih, List.length_cons]
theorem lay_snoc (a : Nat) (cs : List (List Bool)) (c : List Bool) : lay a (cs ++ [c]) = lay a cs ++ [((a + cs.flatten.length : Nat) : Int)] := by
  induction cs generalizing a with
  | nil => simp [lay]
  | cons d cs ih =>
    rw [List.cons_append, lay, ih, lay, List.cons_append, List.flatten_cons, List.length_append, Nat.add_assoc]
theorem lay_at (a : Nat) (cs : List (List Bool)) (i : Nat) (h : i < cs.length) : rd (lay a cs) (i : Int) = ((a + (cs.take i).flatten.length : Nat) : Int) := by
  unfold rd
  rw [Int.toNat_natCast]
  induction cs generalizing a i with
  | nil => simp at h
  | cons c cs ih =>
    cases i with
    | zero => simp [lay]
    | succ i =>
      rw [lay, List.getD_cons_succ, ih (a + c.length) i (by simpa using h), List.take_succ_cons, List.flatten_cons, List.length_append, Nat.add_assoc]
/-- Items and their bits, one by one. -/
def Encs : List S52 → List (List Bool) → Prop
  | [], [] => True
  | x :: xs, c :: cs => Enc x c ∧ (0 ≤ x.f0 ∧ x.f0 < 18446744073709551616) ∧ Encs xs cs
  | _, _ => False
theorem encs_len : ∀ {xs : List S52} {cs : List (List Bool)}, Encs xs cs → xs.length = cs.length
  | [], [], _ => rfl
  | x :: xs, c :: cs, h => by rw [List.length_cons, List.length_cons, encs_len h.2.2]
  | [], _ :: _, h => h.elim
  | _ :: _, [], h => h.elim
theorem encs_snoc : ∀ {xs : List S52} {cs : List (List Bool)} {x : S52} {c : List Bool}, Encs xs cs → Enc x c → (0 ≤ x.f0 ∧ x.f0 < 18446744073709551616) → Encs (xs ++ [x]) (cs ++ [c])
  | [], [], _, _, _, h, g => ⟨h, g, trivial⟩
  | x :: xs, c :: cs, _, _, h, h2, g => ⟨h.1, h.2.1, encs_snoc h.2.2 h2 g⟩
  | [], _ :: _, _, _, h, _, _ => h.elim
  | _ :: _, [], _, _, h, _, _ => h.elim
theorem encs_at : ∀ {xs : List S52} {cs : List (List Bool)}, Encs xs cs → ∀ (i : Nat) (h : i < xs.length) (h2 : i < cs.length), Enc xs[i] cs[i] ∧ (0 ≤ xs[i].f0 ∧ xs[i].f0 < 18446744073709551616)
  | x :: xs, c :: cs, h, 0, _, _ => ⟨h.1, h.2.1⟩
  | x :: xs, c :: cs, h, i + 1, h1, h2 => encs_at h.2.2 i (by simpa using h1) (by simpa using h2)
  | [], _, _, _, h1, _ => by simp at h1
  | _ :: _, [], h, _, _, _ => h.elim
theorem rd_T52_at (xs : List S52) (i : Nat) (h : i < xs.length) : rd_T52 xs (i : Int) = xs[i] := by
  unfold rd_T52
  rw [Int.toNat_natCast, List.getD_eq_getElem?_getD, List.getElem?_eq_getElem h]
  rfl
/-- One item got back. -/
theorem back_j3 (up : Bool) (x10 : List Int) (xs : List S52) (n i17 : Nat) (bA : List Int) (nA : Int) (A c R : List Bool) (x : S52) (he : Enc x c) (hx : 0 ≤ x.f0 ∧ x.f0 < 18446744073709551616) (hl : (A ++ c ++ R).length ≤ 65536) (hp : rd x10 (i17 : Int) = (A.length : Int)) (hi : i17 < x10.length) {k : Nat} (hk : 300 ≤ k) :
    sBB.j3 (k + 1) up x10 (i17 : Int) ((A.length + c.length : Nat) : Int) xs (n : Int) (i17 : Int) bA nA (pack (A ++ c ++ R)) ((A ++ c ++ R).length : Int) x.f0 x.f1 = sBB.l1 k up x10 xs (n : Int) (wrap64 ((i17 : Int) + 1)) bA nA (pack (A ++ c ++ R)) ((A ++ c ++ R).length : Int) := by
  obtain ⟨v, hv⟩ := Int.eq_ofNat_of_zero_le hx.1
  have ev : x.f0.toNat = v := by omega
  have hlen : (A ++ c ++ R).length = A.length + c.length + R.length := by simp; omega
  rw [sBB.j3]
  rcases he with ⟨a1, a2, a3, a4⟩ | ⟨a1, a2⟩ | ⟨a1, a2, a3⟩
  · have hcl : c.length = x.f1.toNat := by rw [a4, low_length]
    rw [if_pos a1, if_pos (by omega), if_pos (by omega), hp, get_yes (by omega) _ hl, if_pos ⟨by omega, a1, a2⟩, if_pos (by omega), Option.bind_some]
    dsimp only
    have hn : num (((A ++ c ++ R).drop ((A.length : Int)).toNat).take x.f1.toNat) = v := by
      rw [Int.toNat_natCast, ← hcl, mid_drop, a4, num_low, ev]
      have := (blen_le v x.f1.toNat).1 (by rw [ev] at a3; omega)
      exact Nat.mod_eq_of_lt this
    rw [hn, hv, if_pos rfl, if_pos rfl, w64 _ (by omega) (by omega), if_pos (by omega)]
  · have hs := sgn_b x hx.1
    have hz := zig_le _ hs.1 hs.2
    rw [if_neg (by omega), if_pos a1, if_pos (by omega), if_pos (by omega), hp]
    unfold bits_GetSigned.f
    rw [a2] at hl ⊢
    rw [get_code (by omega) A R (zig (sgn x)) (by omega) hl, Option.bind_some]
    dsimp only
    rw [if_pos rfl, if_neg (by omega), Option.bind_some]
    dsimp only
    rw [zig_get _ hs.1 hs.2]
    show (if sgn x = sgn x then _ else _) = _
    rw [if_pos rfl, if_pos rfl, if_pos rfl]
  · rw [if_neg (by omega), if_neg (by omega), if_pos (by omega), if_pos (by omega), hp]
    rw [a3, ev] at hl ⊢
    rw [get_code (by omega) A R v (by omega) hl, Option.bind_some]
    dsimp only
    rw [hv, if_pos rfl, if_pos rfl, if_pos rfl]
theorem back_l1 (xs : List S52) (cs : List (List Bool)) (he : Encs xs cs) (l0 t : List Bool) (bA : List Int) (hl : (l0 ++ cs.flatten ++ t).length ≤ 65536) (hn : cs.length ≤ 1000) : ∀ (d k i : Nat), i + d = xs.length → 300 + 2 * d < k →
    sBB.l1 k true (lay l0.length cs) xs (xs.length : Int) (i : Int) bA ((l0.length + cs.flatten.length : Nat) : Int) (pack (l0 ++ cs.flatten ++ t)) ((l0 ++ cs.flatten ++ t).length : Int) = some true := by
  have hxl := encs_len he
  intro d
  induction d with
  | zero =>
    intro k i hi hk
    obtain ⟨k, rfl⟩ : ∃ m, k = m + 1 := ⟨k - 1, by omega⟩
    rw [sBB.l1, if_neg (by omega)]
  | succ d ih =>
    intro k i hi hk
    obtain ⟨k, rfl⟩ : ∃ m, k = m + 2 := ⟨k - 2, by omega⟩
    have hil : i < xs.length := by omega
    have hic : i < cs.length := by omega
    obtain ⟨e1, e2⟩ := encs_at he i hil hic
    have hsplit : cs.flatten = (cs.take i).flatten ++ cs[i] ++ (cs.drop (i + 1)).flatten := by
      conv => lhs; rw [← List.take_append_drop i cs, List.flatten_append, List.drop_eq_getElem_cons hic, List.flatten_cons]
      rw [List.append_assoc]
    have hall : l0 ++ cs.flatten ++ t = (l0 ++ (cs.take i).flatten) ++ cs[i] ++ ((cs.drop (i + 1)).flatten ++ t) := by
      rw [hsplit]
      simp [List.append_assoc]
    have hAl : (l0 ++ (cs.take i).flatten).length = l0.length + (cs.take i).flatten.length := List.length_append
    have hp : rd (lay l0.length cs) (i : Int) = ((l0 ++ (cs.take i).flatten).length : Int) := by rw [lay_at _ _ _ hic, hAl]
    have hend : ∀ E : Int, E = (((l0 ++ (cs.take i).flatten).length + cs[i].length : Nat) : Int) → sBB.j3 (k + 1) true (lay l0.length cs) (i : Int) E xs (xs.length : Int) (i : Int) bA ((l0.length + cs.flatten.length : Nat) : Int) (pack (l0 ++ cs.flatten ++ t)) ((l0 ++ cs.flatten ++ t).length : Int) xs[i].f0 xs[i].f1 = some true := fun E hE => by
      have hih := ih k (i + 1) (by omega) (by omega)
      have hj := back_j3 true (lay l0.length cs) xs xs.length i bA ((l0.length + cs.flatten.length : Nat) : Int) (l0 ++ (cs.take i).flatten) cs[i] ((cs.drop (i + 1)).flatten ++ t) xs[i] e1 e2 (by rw [← hall]; exact hl) hp (by rw [lay_len]; exact hic) (k := k) (by omega)
      rw [← hall] at hj
      rw [hE, hj, w64 _ (by omega) (by omega), show (i : Int) + 1 = ((i + 1 : Nat) : Int) by omega]
      exact hih
    rw [sBB.l1, if_pos (by omega), if_pos (by omega), if_pos (by omega), rd_T52_at xs i hil, w64 _ (by omega) (by omega), lay_len]
    by_cases hlast : i + 1 < cs.length
    · rw [if_pos (by omega), if_pos (by omega), show (i : Int) + 1 = ((i + 1 : Nat) : Int) by omega, lay_at _ _ _ hlast]
      refine hend _ ?_
      rw [hAl, List.take_succ_eq_append_getElem hic, List.flatten_append, List.length_append, List.flatten_singleton]
      omega
    · rw [if_neg (by omega)]
      refine hend _ ?_
      have : (cs.drop (i + 1)) = [] := List.drop_eq_nil_of_le (by omega)
      rw [hAl, hsplit, this, List.length_append, List.length_append, List.flatten_nil, List.length_nil]
      omega

end Go.Proofs.Ytkgcjiaadgnlkaa.BT
