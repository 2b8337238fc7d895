/- What the printed functions of the sum come to, over natural numbers; for every input. -/
import Derived.Test.YtfjcehjdendjnaaCt
import Derived.Test.YtfjcehjdendjnaaHSum
import Derived.Test.YtfjcehjdendjnaaHGrow
import Derived.Test.YtfjcehjdendjnaaPAx1
import Derived.Test.YtfjcehjdendjnaaPAx2
import Derived.Test.YtfjcehjdendjnaaPAx3
import Derived.Test.YtfjcehjdendjnaaPAx4

import Derived.Laws.BitsLemmas
set_option linter.unusedVariables false
namespace Go.Proofs.Ytfjcehjdendjnaa.CT
open Go.RowKit Go.Proofs.YtfjcehjdendjnaaW.PrintWords Go.Proofs.YtfjcehjdendjnaaW.PrintLast Go.Proofs.YtfjcehjdendjnaaW.PrintMore Go.Proofs.Ytfjcehjdendjnaa.PA

theorem xor_nat (k : IntKind) (j : Nat) (hj : j ≤ k.bits) (hk : ∀ n : Int, 0 ≤ n → n < 2 ^ j → k.wrap n = n) (a b : Nat) (ha : a < 2 ^ j) (hb : b < 2 ^ j) : bits .xor k a b = ((a ^^^ b : Nat) : Int) := by
  have hp : 2 ^ j ≤ 2 ^ k.bits := Nat.pow_le_pow_right (by decide) hj
  have ha' : a % 2 ^ k.bits = a := Nat.mod_eq_of_lt (Nat.lt_of_lt_of_le ha hp)
  have hb' : b % 2 ^ k.bits = b := Nat.mod_eq_of_lt (Nat.lt_of_lt_of_le hb hp)
  have cast : ∀ n : Nat, n < 2 ^ j → ((n : Nat) : Int) < 2 ^ j := fun n h => by exact_mod_cast h
  simp only [bits, BitVec.ofInt_natCast, BitVec.toNat_xor, BitVec.toNat_ofNat, ha', hb']
  exact hk _ (Int.natCast_nonneg _) (cast _ (Nat.xor_lt_two_pow ha hb))
theorem wraps_u32 (n : Int) (h₀ : 0 ≤ n) (h₁ : n < 2 ^ 32) : IntKind.u32.wrap n = n := by rw [IntKind.wrap_u32]; omega
theorem xor32 (a b : Nat) (ha : a < 4294967296) (hb : b < 4294967296) : bits .xor .u32 (a : Int) (b : Int) = ((a ^^^ b : Nat) : Int) := xor_nat .u32 32 (by decide) wraps_u32 a b ha hb
theorem xor8 (a b : Nat) (ha : a < 256) (hb : b < 256) : bits .xor .u8 (a : Int) (b : Int) = ((a ^^^ b : Nat) : Int) := xor_nat .u8 8 (by decide) wraps_u8 a b ha hb
theorem and32 (a b : Nat) (ha : a < 4294967296) (hb : b < 4294967296) : bits .and .u32 (a : Int) (b : Int) = ((a &&& b : Nat) : Int) := (bits_nat .u32 32 (by decide) wraps_u32 a b ha hb).1
theorem and1 (a : Nat) (ha : a < 4294967296) : bits .and .u32 (a : Int) 1 = ((a % 2 : Nat) : Int) := by
  have := and32 a 1 ha (by decide)
  rw [Nat.and_one_is_mod] at this
  exact this
theorem step_shifted (a : Nat) (ha : a < 4294967296) :
    Go.bits .xor .u32 ((a : Int) / 2) (Go.bits .and .u32 ((-(Go.bits .and .u32 (a : Int) 1)) % 4294967296) 3988292384) = ((st a : Nat) : Int) := by
  rw [and1 a ha]
  unfold st
  have e2 : ((a : Int) / 2) = ((a / 2 : Nat) : Int) := by omega
  rcases Nat.mod_two_eq_zero_or_one a with h | h
  · rw [h, if_neg (by omega), e2]
    have e3 : Go.bits .and .u32 ((-((0 : Nat) : Int)) % 4294967296) 3988292384 = ((0 : Nat) : Int) := by decide
    rw [e3, xor32 _ _ (by omega) (by omega), Nat.xor_zero]
  · rw [h, if_pos rfl, e2]
    have e3 : Go.bits .and .u32 ((-((1 : Nat) : Int)) % 4294967296) 3988292384 = ((poly : Nat) : Int) := by decide
    rw [e3, xor32 _ _ (by omega) (by decide)]
theorem w64' (n : Int) (h0 : -9223372036854775808 ≤ n) (h1 : n ≤ 9223372036854775807) : wrap64 n = n := by unfold wrap64; omega
theorem shifted_l0 (d : Nat) : ∀ (k : Nat) (a : Nat) (i : Int), i + d = 8 → 0 ≤ i → d < k → a < 4294967296 → crc_shifted.l0 k a i = some ((it d a : Nat) : Int) := by
  induction d with
  | zero =>
    intro k a i hi h0 hk ha
    obtain ⟨k, rfl⟩ : ∃ m, k = m + 1 := ⟨k - 1, by omega⟩
    rw [crc_shifted.l0, if_neg (by omega)]; rfl
  | succ d ih =>
    intro k a i hi h0 hk ha
    obtain ⟨k, rfl⟩ : ∃ m, k = m + 1 := ⟨k - 1, by omega⟩
    rw [crc_shifted.l0, if_pos (by omega), step_shifted a ha, w64' (i + 1) (by omega) (by omega), ih k (st a) (i + 1) (by omega) (by omega) (by omega) (st_lt ha)]
    rfl
theorem shifted_eq (k : Nat) (hk : 8 < k) (a : Nat) (ha : a < 4294967296) : crc_shifted.f k (a : Int) = some ((it 8 a : Nat) : Int) := shifted_l0 8 k a 0 (by omega) (by omega) hk ha
theorem sh_it (i : Nat) (h : i < 256) : sh i = ((it 8 i : Nat) : Int) := by
  unfold sh
  rw [shifted_eq 20 (by omega) i (by omega)]
  rfl
theorem sumStep_n (c x : Nat) (hc : c < 4294967296) (hx : x < 256) : sumStep (c : Int) (x : Int) = ((byteStep c x : Nat) : Int) := by
  unfold sumStep byteStep
  have e1 : ((c : Int) % 256) = ((c % 256 : Nat) : Int) := by omega
  have hl : c % 256 ^^^ x < 256 := Nat.xor_lt_two_pow (n := 8) (by omega) hx
  have e2 : ((c : Int) / 256) = ((c / 256 : Nat) : Int) := by omega
  rw [e1, xor8 _ _ (by omega) hx, Int.toNat_natCast, sh_it _ hl, e2, xor32 _ _ (it_lt 8 (by omega)) (by omega), it8 c x hx]
/-- A list of bytes. -/
def Bytes (l : List Int) : Prop := ∀ y ∈ l, 0 ≤ y ∧ y < 256
def nn (l : List Int) : List Nat := l.map Int.toNat
theorem nn_lt {l : List Int} (h : Bytes l) : ∀ x ∈ nn l, x < 256 := by
  intro x hx
  obtain ⟨y, hy, rfl⟩ := List.mem_map.1 hx
  have := h y hy
  omega
theorem foldl_n : ∀ (l : List Int) (c : Nat), c < 4294967296 → Bytes l → l.foldl sumStep (c : Int) = ((reg c (nn l) : Nat) : Int)
  | [], _, _, _ => rfl
  | x :: l, c, hc, h => by
    have hx := h x (by simp)
    obtain ⟨n, rfl⟩ := Int.eq_ofNat_of_zero_le hx.1
    have hb : byteStep c n < 4294967296 := it_lt 8 (Nat.xor_lt_two_pow (n := 32) hc (by omega))
    rw [List.foldl_cons, sumStep_n c n hc (by omega), foldl_n l _ hb (fun y hy => h y (by simp [hy]))]
    simp [nn, reg]
def sumN (l : List Int) : Nat := 4294967295 ^^^ reg 4294967295 (nn l)
theorem reg_lt' (l : List Int) (h : Bytes l) : reg 4294967295 (nn l) < 4294967296 := reg_lt _ _ (by decide) (nn_lt h)
theorem sumN_lt (l : List Int) (h : Bytes l) : sumN l < 4294967296 := Nat.xor_lt_two_pow (n := 32) (by decide) (reg_lt' l h)
theorem crc_sum (L : List (List Int)) (h1 : L.length ≤ 4611686018427387904) (h2 : ∀ b ∈ L, b.length ≤ 4611686018427387904) (h : Bytes L.flatten) : crc_Sum.f L = some ((sumN L.flatten : Nat) : Int) := by
  unfold crc_Sum.f
  rw [if_pos ⟨h1, h2⟩]
  have e := foldl_n L.flatten 4294967295 (by decide) h
  have e2 := xor32 4294967295 (reg 4294967295 (nn L.flatten)) (by decide) (reg_lt' _ h)
  rw [show ((4294967295 : Nat) : Int) = (4294967295 : Int) from rfl] at e e2
  rw [e, e2]; rfl
theorem crc_sum1 (b : List Int) (h2 : b.length ≤ 4611686018427387904) (h : Bytes b) : crc_Sum.f [b] = some ((sumN b : Nat) : Int) := by
  have := crc_sum [b] (by simp) (by simpa using h2) (by simpa using h)
  simpa using this
/-! the reference's -/
theorem refstep_l0 (d : Nat) : ∀ (k : Nat) (a : Nat) (i : Int), i + d = 8 → 0 ≤ i → d < k → a < 4294967296 → squelchref02_Step.l0 k a i = some ((it d a : Nat) : Int) := by
  induction d with
  | zero =>
    intro k a i hi h0 hk ha
    obtain ⟨k, rfl⟩ : ∃ m, k = m + 1 := ⟨k - 1, by omega⟩
    rw [squelchref02_Step.l0, if_neg (by omega)]; rfl
  | succ d ih =>
    intro k a i hi h0 hk ha
    obtain ⟨k, rfl⟩ : ∃ m, k = m + 1 := ⟨k - 1, by omega⟩
    have e2 : ((a : Int) / 2) = ((a / 2 : Nat) : Int) := by omega
    rw [squelchref02_Step.l0, if_pos (by omega), and1 a ha, w64' (i + 1) (by omega) (by omega), e2]
    have hi2 := ih k (st a) (i + 1) (by omega) (by omega) (by omega) (st_lt ha)
    have e4 : st a = if a % 2 = 1 then (a / 2) ^^^ poly else a / 2 := rfl
    rcases Nat.mod_two_eq_zero_or_one a with h | h
    · rw [if_neg (by omega)] at e4
      rw [if_neg (by omega), ← e4, hi2]; rfl
    · rw [if_pos h] at e4
      have e5 := xor32 (a / 2) poly (by omega) (by decide)
      rw [if_pos (by omega), show (3988292384 : Int) = ((poly : Nat) : Int) from rfl, e5, ← e4, hi2]; rfl
theorem refstep (k : Nat) (hk : 8 < k) (c x : Nat) (hc : c < 4294967296) (hx : x < 256) : squelchref02_Step.f k (c : Int) (x : Int) = some ((byteStep c x : Nat) : Int) := by
  unfold squelchref02_Step.f byteStep
  have e : (x : Int) % 4294967296 = (x : Int) := by omega
  rw [e, xor32 c x hc (by omega)]
  exact refstep_l0 8 k _ 0 (by omega) (by omega) hk (Nat.xor_lt_two_pow (n := 32) hc (by omega))
theorem crcstep (k : Nat) (hk : 8 < k) (c x : Nat) (hc : c < 4294967296) (hx : x < 256) : crc_Step.f k (c : Int) (x : Int) = some ((byteStep c x : Nat) : Int) := by
  unfold crc_Step.f byteStep
  have e1 : ((c : Int) % 256) = ((c % 256 : Nat) : Int) := by omega
  have hl : c % 256 ^^^ x < 256 := Nat.xor_lt_two_pow (n := 8) (by omega) hx
  have e2 : ((c : Int) / 256) = ((c / 256 : Nat) : Int) := by omega
  have e3 : (((c % 256 ^^^ x : Nat) : Int)) % 4294967296 = ((c % 256 ^^^ x : Nat) : Int) := by omega
  rw [e1, xor8 _ _ (by omega) hx, e3, shifted_eq k hk _ (by omega), Option.bind_some, e2, xor32 _ _ (it_lt 8 (by omega)) (by omega), it8 c x hx]
theorem rd_get (b : List Int) (i : Nat) (h : i < b.length) : rd b (i : Int) = b[i] := by
  unfold rd
  rw [Int.toNat_natCast, List.getD_eq_getElem?_getD, List.getElem?_eq_getElem h]; rfl
theorem rd_get1 (L : List (List Int)) (i : Nat) (h : i < L.length) : rd_L1 L (i : Int) = L[i] := by
  unfold rd_L1
  rw [Int.toNat_natCast, List.getD_eq_getElem?_getD, List.getElem?_eq_getElem h]; rfl
theorem refsum_l1 (x8 : List (List Int)) (x9 x10 : Int) (b : List Int) (hb : Bytes b) (hl : b.length ≤ 4611686018427387904) (r : Int) (d : Nat) : ∀ (i : Nat) (c : Nat), i + d = b.length → c < 4294967296 →
    Ev (fun k => squelchref02_Sum.l0 k ((reg c (nn (b.drop i)) : Nat) : Int) x8 x9 (wrap64 (x10 + 1))) r → Ev (fun k => squelchref02_Sum.l1 k (c : Int) x8 x9 x10 b (b.length : Int) (i : Int)) r := by
  induction d with
  | zero =>
    intro i c hi hc hr
    refine Ev.step (fun k => ?_) hr
    rw [squelchref02_Sum.l1, if_neg (show ¬ ((i : Int) < (b.length : Int)) by omega), List.drop_eq_nil_of_le (by omega)]; rfl
  | succ d ih =>
    intro i c hi hc hr
    have hil : i < b.length := by omega
    have hx := hb b[i] (List.getElem_mem hil)
    obtain ⟨n, hn⟩ := Int.eq_ofNat_of_zero_le hx.1
    have hb' : byteStep c n < 4294967296 := it_lt 8 (Nat.xor_lt_two_pow (n := 32) hc (by omega))
    refine Ev.step (f := fun k => (squelchref02_Step.f k (c : Int) (n : Int)).bind fun t => squelchref02_Sum.l1 k t x8 x9 x10 b (b.length : Int) ((i + 1 : Nat) : Int)) (fun k => ?_) ?_
    · rw [squelchref02_Sum.l1, if_pos (show ((i : Int) < (b.length : Int)) by omega), if_pos (Int.natCast_nonneg i), if_pos (show ((i : Int) < (b.length : Int)) by omega), w64' ((i : Int) + 1) (by omega) (by omega), rd_get b i hil, hn]; rfl
    · refine Ev.bind (a := ((byteStep c n : Nat) : Int)) ⟨9, fun k hk => refstep k (by omega) c n hc (by omega)⟩ (ih (i + 1) _ (by omega) hb' ?_)
      rw [List.drop_eq_getElem_cons hil, hn] at hr
      exact hr
theorem refsum_l0 (L : List (List Int)) (hL : L.length ≤ 4611686018427387904) (h2 : ∀ b ∈ L, b.length ≤ 4611686018427387904) (h : ∀ b ∈ L, Bytes b) (d : Nat) : ∀ (i : Nat) (c : Nat), i + d = L.length → c < 4294967296 →
    Ev (fun k => squelchref02_Sum.l0 k (c : Int) L (L.length : Int) (i : Int)) ((4294967295 ^^^ reg c (nn (L.drop i).flatten) : Nat) : Int) := by
  induction d with
  | zero =>
    intro i c hi hc
    refine Ev.step (f := fun _ => some ((4294967295 ^^^ reg c (nn (L.drop i).flatten) : Nat) : Int)) (fun k => ?_) (Ev.now _)
    rw [squelchref02_Sum.l0, if_neg (show ¬ ((i : Int) < (L.length : Int)) by omega), List.drop_eq_nil_of_le (by omega)]
    exact congrArg some (xor32 4294967295 c (by decide) hc)
  | succ d ih =>
    intro i c hi hc
    have hil : i < L.length := by omega
    have hm := List.getElem_mem hil
    have e0 : L.drop i = L[i] :: L.drop (i + 1) := List.drop_eq_getElem_cons hil
    have e1 : reg c (nn (L.drop i).flatten) = reg (reg c (nn L[i])) (nn (L.drop (i + 1)).flatten) := by
      rw [e0, List.flatten_cons]; simp only [nn, List.map_append]; exact reg_append _ _ _
    refine Ev.step (f := fun k => squelchref02_Sum.l1 k (c : Int) L (L.length : Int) (i : Int) L[i] (L[i].length : Int) ((0 : Nat) : Int)) (fun k => ?_) ?_
    · rw [squelchref02_Sum.l0, if_pos (show ((i : Int) < (L.length : Int)) by omega), if_pos (Int.natCast_nonneg i), if_pos (show ((i : Int) < (L.length : Int)) by omega), rd_get1 L i hil]; rfl
    · refine refsum_l1 L _ _ L[i] (h _ hm) (h2 _ hm) _ L[i].length 0 c (by omega) hc ?_
      rw [List.drop_zero, w64' ((i : Int) + 1) (by omega) (by omega), e1]
      exact ih (i + 1) _ (by omega) (reg_lt _ _ hc (nn_lt (h _ hm)))
theorem refsum (L : List (List Int)) (hL : L.length ≤ 4611686018427387904) (h2 : ∀ b ∈ L, b.length ≤ 4611686018427387904) (h : ∀ b ∈ L, Bytes b) : Ev (fun k => squelchref02_Sum.f k L) ((sumN L.flatten : Nat) : Int) :=
  refsum_l0 L hL h2 h L.length 0 4294967295 (by omega) (by decide)
end Go.Proofs.Ytfjcehjdendjnaa.CT
