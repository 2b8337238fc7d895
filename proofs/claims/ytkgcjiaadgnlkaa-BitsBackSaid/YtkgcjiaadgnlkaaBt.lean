/- Bits as lists of Bools packed into bytes, and what the printed functions add, take, Check, Put and PutCode come to over them. -/
import Derived.Laws.BitsLemmas
import Derived.Laws.Bits64
import Derived.RowKit
import Derived.Test.YtkgcjiaadgnlkaaWMore
import Derived.Test.YtkgcjiaadgnlkaaPAx1
import Derived.Test.YtkgcjiaadgnlkaaPAx2
import Derived.Test.YtkgcjiaadgnlkaaPAx3
import Derived.Test.YtkgcjiaadgnlkaaPAx4
import Derived.Test.YtkgcjiaadgnlkaaPAx5
import Derived.Test.YtkgcjiaadgnlkaaPAx17
set_option linter.unusedVariables false
namespace Go.Proofs.Ytkgcjiaadgnlkaa.BT
open Go.RowKit Go.Proofs.YtkgcjiaadgnlkaaW.PrintWords Go.Proofs.YtkgcjiaadgnlkaaW.PrintMore Go.Proofs.Ytkgcjiaadgnlkaa.PA


/-- The number that bits are, the first one the highest. -/
def num : List Bool → Nat
  | [] => 0
  | b :: t => b.toNat * 2 ^ t.length + num t

theorem num_append (a b : List Bool) : num (a ++ b) = num a * 2 ^ b.length + num b := by
  induction a with
  | nil => simp [num]
  | cons x t ih => simp [num, ih, Nat.pow_add, Nat.add_mul, Nat.mul_assoc, Nat.add_assoc]

theorem num_lt (l : List Bool) : num l < 2 ^ l.length := by
  induction l with
  | nil => simp [num]
  | cons x t ih =>
    simp only [num, List.length_cons, Nat.pow_succ]
    cases x <;> simp <;> omega

/-- The lowest bits of a number, the highest first. -/
def low (v : Nat) : Nat → List Bool
  | 0 => []
  | w + 1 => (v / 2 ^ w % 2 == 1) :: low v w

theorem low_length (v w : Nat) : (low v w).length = w := by
  induction w with
  | zero => rfl
  | succ w ih => simp [low, ih]

theorem num_low (v w : Nat) : num (low v w) = v % 2 ^ w := by
  induction w with
  | zero => simp [low, num, Nat.mod_one]
  | succ w ih =>
    simp only [low, num, low_length, ih]
    have h1 : v % 2 ^ (w + 1) = v % 2 ^ w + 2 ^ w * (v / 2 ^ w % 2) := Nat.mod_pow_succ
    have h2 : (v / 2 ^ w % 2 == 1).toNat = v / 2 ^ w % 2 := by
      rcases Nat.mod_two_eq_zero_or_one (v / 2 ^ w) with h | h <;> simp [h]
    rw [h1, h2, Nat.mul_comm]
    omega

theorem low_mod (v w m : Nat) (h : w ≤ m) : low (v % 2 ^ m) w = low v w := by
  induction w with
  | zero => rfl
  | succ w ih =>
    simp only [low, ih (by omega)]
    congr 1
    have : v % 2 ^ m / 2 ^ w % 2 = v / 2 ^ w % 2 := by
      obtain ⟨d, rfl⟩ : ∃ d, m = w + 1 + d := ⟨m - (w + 1), by omega⟩
      rw [Nat.add_assoc, Nat.pow_add, Nat.mod_mul_right_div_self, Nat.pow_add, Nat.pow_one, Nat.mod_mul_right_mod]
    rw [this]

theorem low_num (l : List Bool) : low (num l) l.length = l := by
  induction l with
  | nil => rfl
  | cons x t ih =>
    simp only [List.length_cons, low, num]
    have hlt := num_lt t
    have h1 : (x.toNat * 2 ^ t.length + num t) / 2 ^ t.length = x.toNat := by
      rw [Nat.add_comm, Nat.add_mul_div_right _ _ (Nat.two_pow_pos _), Nat.div_eq_of_lt hlt, Nat.zero_add]
    have h2 : low (x.toNat * 2 ^ t.length + num t) t.length = low (num t) t.length := by
      rw [← low_mod (x.toNat * 2 ^ t.length + num t) t.length t.length (Nat.le_refl _)]
      rw [Nat.add_comm, Nat.add_mul_mod_self_right, Nat.mod_eq_of_lt hlt]
    rw [h1, h2, ih]
    cases x <;> rfl

theorem low_add (v a b : Nat) : low v (a + b) = low (v / 2 ^ b) a ++ low v b := by
  induction a with
  | zero => simp [low]
  | succ a ih =>
    rw [show a + 1 + b = (a + b) + 1 from by omega]
    simp only [low, ih, List.cons_append]
    congr 1
    rw [Nat.div_div_eq_div_mul, ← Nat.pow_add, Nat.add_comm b a]


/-- A byte that begins with bits, and has none behind. -/
def byte (l : List Bool) : Int := ((num l * 2 ^ (8 - l.length) : Nat) : Int)
def chunk (l : List Bool) (i : Nat) : List Bool := (l.drop (8 * i)).take 8
def pack (l : List Bool) : List Int := (List.range ((l.length + 7) / 8)).map fun i => byte (chunk l i)

theorem pack_length (l : List Bool) : (pack l).length = (l.length + 7) / 8 := by simp [pack]
theorem pack_nil : pack [] = [] := rfl
theorem rd_pack (l : List Bool) (i : Nat) (h : i < (l.length + 7) / 8) : rd (pack l) (i : Int) = byte (chunk l i) := by
  unfold rd pack
  rw [Int.toNat_natCast, List.getD_eq_getElem?_getD, List.getElem?_map, List.getElem?_range h]
  rfl
theorem byte_nat (l : List Bool) (h : l.length ≤ 8) : num l * 2 ^ (8 - l.length) < 256 := by
  have h1 := num_lt l
  calc num l * 2 ^ (8 - l.length) < 2 ^ l.length * 2 ^ (8 - l.length) := (Nat.mul_lt_mul_right (Nat.two_pow_pos _)).2 h1
    _ = 2 ^ 8 := by rw [← Nat.pow_add]; congr 1; omega
theorem byte_range (l : List Bool) (h : l.length ≤ 8) : 0 ≤ byte l ∧ byte l ≤ 255 := by
  have := byte_nat l h
  unfold byte
  omega
theorem chunk_length (l : List Bool) (i : Nat) : (chunk l i).length = min 8 (l.length - 8 * i) := by simp [chunk]
theorem pack_range (l : List Bool) : ∀ x ∈ pack l, 0 ≤ x ∧ x ≤ 255 := by
  intro x hx
  unfold pack at hx
  obtain ⟨i, _, rfl⟩ := List.mem_map.1 hx
  exact byte_range _ (by rw [chunk_length]; omega)

theorem bits_or_u8 (i : Nat) (x y : Int) (hx₀ : 0 ≤ x) (hx : x % 2 ^ i = 0) (hx₁ : x < 256) (hy₀ : 0 ≤ y) (hy : y < 2 ^ i) (hy₁ : y < 256) : Go.bits .or .u8 x y = x + y :=
  bits_join .u8 8 (by decide) wraps_u8 i x y hx₀ hx hx₁ hy₀ hy hy₁

/-- Bits put into a byte behind those that it begins with. -/
theorem byte_or (c s : List Bool) (h : c.length + s.length ≤ 8) :
    Go.bits .or .u8 (byte c) ((num s * 2 ^ (8 - c.length - s.length) : Nat) : Int) = byte (c ++ s) := by
  have h1 := num_lt s
  have h2 : num s * 2 ^ (8 - c.length - s.length) < 2 ^ (8 - c.length) := by
    calc num s * 2 ^ (8 - c.length - s.length) < 2 ^ s.length * 2 ^ (8 - c.length - s.length) := (Nat.mul_lt_mul_right (Nat.two_pow_pos _)).2 h1
      _ = 2 ^ (8 - c.length) := by rw [← Nat.pow_add]; congr 1; omega
  have h3 : 2 ^ (8 - c.length) ≤ 2 ^ 8 := Nat.pow_le_pow_right (by decide) (by omega)
  have h4 := byte_nat c (by omega)
  rw [bits_or_u8 (8 - c.length)]
  · unfold byte
    rw [num_append, List.length_append, Nat.add_mul, Nat.mul_assoc, ← Nat.pow_add, show s.length + (8 - (c.length + s.length)) = 8 - c.length from by omega, show 8 - (c.length + s.length) = 8 - c.length - s.length from by omega]
    simp
  · exact Int.natCast_nonneg _
  · unfold byte
    exact_mod_cast Nat.mul_mod_left _ _
  · unfold byte
    generalize num c * 2 ^ (8 - c.length) = z at h4
    omega
  · exact Int.natCast_nonneg _
  · exact_mod_cast h2
  · have : num s * 2 ^ (8 - c.length - s.length) < 256 := by omega
    generalize num s * 2 ^ (8 - c.length - s.length) = z at this
    omega

theorem chunk_old (l s : List Bool) (i : Nat) (h : 8 * i + 8 ≤ l.length) : chunk (l ++ s) i = chunk l i := by
  unfold chunk
  rw [List.drop_append_of_le_length (by omega), List.take_append_of_le_length (by simp; omega)]
theorem chunk_last (l s : List Bool) (h : l.length - 8 * (l.length / 8) + s.length ≤ 8) : chunk (l ++ s) (l.length / 8) = l.drop (8 * (l.length / 8)) ++ s := by
  unfold chunk
  rw [List.drop_append_of_le_length (by omega), List.take_of_length_le (by simp; omega)]

/-- The last byte filled up. -/
theorem pack_set (l s : List Bool) (hr : l.length % 8 ≠ 0) (h : l.length % 8 + s.length ≤ 8) :
    (pack l).set (l.length / 8) (byte (l.drop (8 * (l.length / 8)) ++ s)) = pack (l ++ s) := by
  apply List.ext_getElem
  · simp only [List.length_set, pack_length, List.length_append]
    omega
  · intro i h1 h2
    rw [List.getElem_set]
    simp only [List.length_set, pack_length, List.length_append] at h1 h2
    split
    · rename_i he
      subst he
      simp only [pack, List.getElem_map, List.getElem_range]
      rw [chunk_last _ _ (by omega)]
    · simp only [pack, List.getElem_map, List.getElem_range]
      rw [chunk_old _ _ _ (by omega)]
/-- A new byte. -/
theorem pack_new (l s : List Bool) (hr : l.length % 8 = 0) (h : s.length ≤ 8) (h1 : 0 < s.length) :
    (pack l ++ [0]).set (l.length / 8) (byte s) = pack (l ++ s) := by
  apply List.ext_getElem
  · simp only [List.length_set, pack_length, List.length_append, List.length_cons, List.length_nil]
    omega
  · intro i h1 h2
    rw [List.getElem_set]
    simp only [List.length_set, pack_length, List.length_append, List.length_cons, List.length_nil] at h1 h2
    split
    · rename_i he
      subst he
      simp only [pack, List.getElem_map, List.getElem_range]
      rw [chunk_last _ _ (by omega), List.drop_of_length_le (by omega), List.nil_append]
    · rw [List.getElem_append_left (by rw [pack_length]; omega)]
      simp only [pack, List.getElem_map, List.getElem_range]
      rw [chunk_old _ _ _ (by omega)]

theorem and7 (n : Int) (h0 : 0 ≤ n) (h1 : n ≤ 1000000) : Go.bits .and .i64 (wrap64 (-n)) 7 = (-n) % 8 := by
  have hw : wrap64 (-n) = -n := by unfold wrap64; omega
  rw [hw]
  obtain ⟨m, rfl⟩ := Int.eq_ofNat_of_zero_le h0
  have e : ((m : Int)).natAbs = m := by simp
  have hb : (BitVec.ofInt 64 (-(m : Int)) &&& BitVec.ofInt 64 7).toNat = ((2 ^ 64 - m % 2 ^ 64) % 2 ^ 64) % 8 := by
    rw [BitVec.toNat_and, show BitVec.ofInt 64 7 = 7#64 from rfl, BitVec.ofInt_neg, BitVec.ofInt_natCast, BitVec.toNat_neg]
    simp only [BitVec.toNat_ofNat]
    rw [show (7 % 2 ^ 64 : Nat) = 2 ^ 3 - 1 from rfl, Nat.and_two_pow_sub_one_eq_mod]
  have e2 : Go.bits .and .i64 (-(m : Int)) 7 = IntKind.i64.wrap (((BitVec.ofInt 64 (-(m : Int)) &&& BitVec.ofInt 64 7).toNat : Nat) : Int) := rfl
  rw [e2, hb, IntKind.wrap_i64]
  omega

theorem mn_eq (a b : Int) : mn a b = min a b := by unfold mn; omega
theorem shr_u64 (v : Nat) (d : Nat) (h : d ≤ 64) : shr .u64 (v : Int) (d : Int) = ((v / 2 ^ d : Nat) : Int) := by
  unfold shr
  rw [Int.toNat_natCast, show min d IntKind.u64.bits = d from Nat.min_eq_left h]
  simp
theorem mask_u64 (x : Nat) (k : Nat) (h : k ≤ 8) (hx : x < 2 ^ 64) : Go.bits .and .u64 (x : Int) (IntKind.u64.wrap (shl .u64 1 (k : Int) - 1)) = ((x % 2 ^ k : Nat) : Int) := by
  have hk : (2 : Nat) ^ k ≤ 2 ^ 8 := Nat.pow_le_pow_right (by decide) h
  have hp : 0 < 2 ^ k := Nat.two_pow_pos k
  have e1 : shl .u64 1 (k : Int) = 2 ^ k := by
    unfold shl
    rw [Int.toNat_natCast, show min k IntKind.u64.bits = k from Nat.min_eq_left (Nat.le_trans h (by decide)), Int.one_mul, IntKind.wrap_u64]
    have : ((2 ^ k : Nat) : Int) ≤ 256 := Int.ofNat_le.2 hk
    have h2 : (0 : Int) < ((2 ^ k : Nat) : Int) := Int.ofNat_lt.2 hp
    have h3 : ((2 ^ k : Nat) : Int) = (2 : Int) ^ k := by simp
    omega
  rw [e1]
  have e2 : IntKind.u64.wrap ((2 : Int) ^ k - 1) = 2 ^ k - 1 := by
    have : ((2 ^ k : Nat) : Int) ≤ 256 := Int.ofNat_le.2 hk
    have h2 : (0 : Int) < ((2 ^ k : Nat) : Int) := Int.ofNat_lt.2 hp
    have h3 : ((2 ^ k : Nat) : Int) = (2 : Int) ^ k := by simp
    rw [IntKind.wrap_u64]
    omega
  rw [e2, bits_mask .u64 64 (by decide) (fun n h0 h1 => by rw [IntKind.wrap_u64]; omega) k (by omega) (x : Int) (Int.natCast_nonneg _) (by exact_mod_cast hx)]
  simp
theorem shl_u8 (p : Nat) (d : Nat) (hd : d ≤ 8) (h : p * 2 ^ d < 256) : shl .u8 (p : Int) (d : Int) = ((p * 2 ^ d : Nat) : Int) := by
  unfold shl
  rw [Int.toNat_natCast, show min d IntKind.u8.bits = d from Nat.min_eq_left hd, IntKind.wrap_u8]
  have e : ((p * 2 ^ d : Nat) : Int) = (p : Int) * 2 ^ d := by simp
  rw [← e]
  generalize p * 2 ^ d = z at h
  omega

theorem w64 (n : Int) (h0 : -9223372036854775808 ≤ n) (h1 : n ≤ 9223372036854775807) : wrap64 n = n := by unfold wrap64; omega

/-- One part of a number, put into a byte behind what it begins with. -/
theorem part_or (c : List Bool) (v d k : Nat) (hv : v < 2 ^ 64) (hd : d ≤ 64) (hk : k ≤ d) (h : c.length + k ≤ 8) :
    Go.bits .or .u8 (byte c) (shl .u8 ((Go.bits .and .u64 (shr .u64 (v : Int) ((d - k : Nat) : Int)) (IntKind.u64.wrap ((shl .u64 1 (k : Int)) - 1))) % 256) ((8 - c.length - k : Nat) : Int)) = byte (c ++ low (v / 2 ^ (d - k)) k) := by
  have hx : v / 2 ^ (d - k) < 2 ^ 64 := Nat.lt_of_le_of_lt (Nat.div_le_self _ _) hv
  have hk8 : (2 : Nat) ^ k ≤ 2 ^ 8 := Nat.pow_le_pow_right (by decide) (by omega)
  have hlt : v / 2 ^ (d - k) % 2 ^ k < 2 ^ k := Nat.mod_lt _ (Nat.two_pow_pos k)
  have hlt2 : v / 2 ^ (d - k) % 2 ^ k * 2 ^ (8 - c.length - k) < 256 := by
    calc v / 2 ^ (d - k) % 2 ^ k * 2 ^ (8 - c.length - k) < 2 ^ k * 2 ^ (8 - c.length - k) := (Nat.mul_lt_mul_right (Nat.two_pow_pos _)).2 hlt
      _ ≤ 2 ^ 8 := by rw [← Nat.pow_add]; exact Nat.pow_le_pow_right (by decide) (by omega)
  rw [shr_u64 _ _ (by omega), mask_u64 _ _ (by omega) hx]
  have e1 : (((v / 2 ^ (d - k) % 2 ^ k : Nat) : Int) % 256) = ((v / 2 ^ (d - k) % 2 ^ k : Nat) : Int) := by
    generalize v / 2 ^ (d - k) % 2 ^ k = z at *
    have : z < 2 ^ 8 := by omega
    omega
  rw [e1, shl_u8 _ _ (by omega) hlt2]
  have e2 := byte_or c (low (v / 2 ^ (d - k)) k) (by rw [low_length]; omega)
  rw [low_length, num_low] at e2
  exact e2

theorem take_low (v d k : Nat) (hk : k ≤ d) : low v d = low (v / 2 ^ (d - k)) k ++ low v (d - k) := by
  have := low_add v k (d - k)
  rwa [show k + (d - k) = d from by omega] at this

theorem add_ok (v : Nat) (hv : v < 2 ^ 64) (d : Nat) : ∀ (k : Nat) (l : List Bool), d < k → d ≤ 64 → l.length + d ≤ 100000 →
    bits_add.l0 k (v : Int) (d : Int) (pack l) (l.length : Int) = some (pack (l ++ low v d), ((l.length + d : Nat) : Int)) := by
  induction d using Nat.strongRecOn with
  | _ d ih =>
  intro k l hk hd hl
  obtain ⟨k, rfl⟩ : ∃ m, k = m + 1 := ⟨k - 1, by omega⟩
  simp only [bits_add.l0]
  rcases Nat.eq_zero_or_pos d with h0 | h0
  · subst h0
    rw [if_neg (by omega)]
    simp [low]
  · rw [if_pos (by omega), and7 _ (by omega) (by omega)]
    have hpl := pack_length l
    by_cases hr : l.length % 8 = 0
    · rw [if_pos (by omega), if_pos (by rw [hpl]; omega)]
      simp only [Option.bind_some]
      obtain ⟨m, hm⟩ : ∃ m : Nat, m = min 8 d := ⟨_, rfl⟩
      have hmn : mn 8 (d : Int) = (m : Int) := by rw [mn_eq]; omega
      have hlen : ((pack l ++ [0] : List Int).length : Int) = ((l.length / 8 + 1 : Nat) : Int) := by
        rw [List.length_append, hpl]
        simp only [List.length_cons, List.length_nil]
        omega
      rw [hmn, hlen]
      rw [w64 _ (by omega) (by omega), w64 (((l.length / 8 + 1 : Nat) : Int) - 1) (by omega) (by omega), w64 (8 - (m : Int)) (by omega) (by omega), w64 ((l.length : Int) + m) (by omega) (by omega)]
      rw [if_pos (by omega), if_pos (by omega), if_pos (by omega), if_pos (by omega), if_pos (by omega)]
      have e1 : ((l.length / 8 + 1 : Nat) : Int) - 1 = ((l.length / 8 : Nat) : Int) := by omega
      have e2 : (d : Int) - (m : Int) = ((d - m : Nat) : Int) := by omega
      have e3 : 8 - (m : Int) = ((8 - ([] : List Bool).length - m : Nat) : Int) := by simp only [List.length_nil]; omega
      rw [e1, e2, e3, Int.toNat_natCast]
      have hrd : rd (pack l ++ [0]) ((l.length / 8 : Nat) : Int) = byte [] := by
        unfold rd
        rw [Int.toNat_natCast, List.getD_eq_getElem?_getD, List.getElem?_append_right (by rw [hpl]; omega), hpl, show l.length / 8 - (l.length + 7) / 8 = 0 from by omega]
        rfl
      rw [hrd, part_or [] v d m hv hd (by omega) (by simp only [List.length_nil]; omega), List.nil_append, pack_new l _ hr (by rw [low_length]; omega) (by rw [low_length]; omega)]
      have hih := ih (d - m) (by omega) k (l ++ low (v / 2 ^ (d - m)) m) (by omega) (by omega) (by rw [List.length_append, low_length]; omega)
      rw [List.append_assoc, ← take_low v d m (by omega), List.length_append, low_length] at hih
      rw [show ((l.length : Int) + (m : Int)) = ((l.length + m : Nat) : Int) from by omega, hih, show l.length + m + (d - m) = l.length + d from by omega]
    · rw [if_neg (by omega)]
      obtain ⟨f, hf⟩ : ∃ f : Nat, f = 8 - l.length % 8 := ⟨_, rfl⟩
      have hfe : (-(l.length : Int)) % 8 = (f : Int) := by omega
      rw [hfe]
      obtain ⟨m, hm⟩ : ∃ m : Nat, m = min f d := ⟨_, rfl⟩
      have hmn : mn (f : Int) (d : Int) = (m : Int) := by rw [mn_eq]; omega
      have hlen : ((pack l).length : Int) = ((l.length / 8 + 1 : Nat) : Int) := by rw [hpl]; omega
      rw [hmn, hlen]
      rw [w64 _ (by omega) (by omega), w64 (((l.length / 8 + 1 : Nat) : Int) - 1) (by omega) (by omega), w64 ((f : Int) - (m : Int)) (by omega) (by omega), w64 ((l.length : Int) + m) (by omega) (by omega)]
      rw [if_pos (by omega), if_pos (by omega), if_pos (by omega), if_pos (by omega), if_pos (by omega)]
      obtain ⟨c, hc⟩ : ∃ c, c = l.drop (8 * (l.length / 8)) := ⟨_, rfl⟩
      have hcl : c.length = l.length % 8 := by rw [hc, List.length_drop]; omega
      have e1 : ((l.length / 8 + 1 : Nat) : Int) - 1 = ((l.length / 8 : Nat) : Int) := by omega
      have e2 : (d : Int) - (m : Int) = ((d - m : Nat) : Int) := by omega
      have e3 : (f : Int) - (m : Int) = ((8 - c.length - m : Nat) : Int) := by rw [hcl]; omega
      rw [e1, e2, e3, Int.toNat_natCast]
      have hrd : rd (pack l) ((l.length / 8 : Nat) : Int) = byte c := by
        rw [rd_pack l _ (by omega), hc]
        unfold chunk
        rw [List.take_of_length_le (by rw [List.length_drop]; omega)]
      rw [hrd, part_or c v d m hv hd (by omega) (by rw [hcl]; omega), hc, pack_set l _ hr (by rw [low_length]; omega)]
      have hih := ih (d - m) (by omega) k (l ++ low (v / 2 ^ (d - m)) m) (by omega) (by omega) (by rw [List.length_append, low_length]; omega)
      rw [List.append_assoc, ← take_low v d m (by omega), List.length_append, low_length] at hih
      rw [show ((l.length : Int) + (m : Int)) = ((l.length + m : Nat) : Int) from by omega, hih, show l.length + m + (d - m) = l.length + d from by omega]

theorem byte_part (c : List Bool) (o m : Nat) (h : o + m ≤ c.length) (h8 : c.length ≤ 8) :
    num c * 2 ^ (8 - c.length) / 2 ^ (8 - o - m) % 2 ^ m = num ((c.drop o).take m) := by
  obtain ⟨a, b, e, rfl, ha, hb⟩ : ∃ a b e, c = a ++ (b ++ e) ∧ a.length = o ∧ b.length = m :=
    ⟨c.take o, (c.drop o).take m, (c.drop o).drop m, by rw [List.take_append_drop, List.take_append_drop], by rw [List.length_take]; omega, by rw [List.length_take, List.length_drop]; omega⟩
  have e1 : ((a ++ (b ++ e)).drop o).take m = b := by
    rw [← ha, List.drop_left, ← hb, List.take_left]
  rw [e1]
  simp only [List.length_append] at h8 ⊢
  rw [num_append, num_append, List.length_append]
  have hbl := num_lt b
  have hel := num_lt e
  rw [hb] at hbl
  obtain ⟨q, hq⟩ : ∃ q, q = 8 - (a.length + (b.length + e.length)) := ⟨_, rfl⟩
  have e2 : 8 - o - m = e.length + q := by omega
  rw [← hq, e2, hb]
  have e3 : (num a * 2 ^ (m + e.length) + (num b * 2 ^ e.length + num e)) * 2 ^ q = (num a * 2 ^ m + num b) * 2 ^ (e.length + q) + num e * 2 ^ q := by
    simp only [Nat.pow_add, Nat.add_mul, Nat.mul_assoc, Nat.add_assoc]
  have e4 : num e * 2 ^ q < 2 ^ (e.length + q) := by
    rw [Nat.pow_add]
    exact (Nat.mul_lt_mul_right (Nat.two_pow_pos _)).2 hel
  rw [e3, Nat.add_comm, Nat.add_mul_div_right _ _ (Nat.two_pow_pos _), Nat.div_eq_of_lt e4, Nat.zero_add, Nat.add_comm, Nat.add_mul_mod_self_right, Nat.mod_eq_of_lt hbl]

theorem chunk_cut (l : List Bool) (i o m : Nat) (h : o + m ≤ 8) : ((chunk l i).drop o).take m = (l.drop (8 * i + o)).take m := by
  unfold chunk
  rw [List.drop_take, List.take_take, List.drop_drop, Nat.min_eq_left (by omega)]

theorem mask_u8 (m : Nat) (h : m ≤ 8) : ((shl .u8 1 (m : Int)) - 1) % 256 = 2 ^ m - 1 := by
  unfold shl
  rw [Int.toNat_natCast, show min m IntKind.u8.bits = m from Nat.min_eq_left h, Int.one_mul, IntKind.wrap_u8]
  rcases (show m = 0 ∨ m = 1 ∨ m = 2 ∨ m = 3 ∨ m = 4 ∨ m = 5 ∨ m = 6 ∨ m = 7 ∨ m = 8 by omega) with rfl | rfl | rfl | rfl | rfl | rfl | rfl | rfl | rfl <;> decide

theorem shr_u8 (v : Nat) (d : Nat) (h : d ≤ 8) : shr .u8 (v : Int) (d : Int) = ((v / 2 ^ d : Nat) : Int) := by
  unfold shr
  rw [Int.toNat_natCast, show min d IntKind.u8.bits = d from Nat.min_eq_left h]
  simp

theorem wraps_u64 (n : Int) (h0 : 0 ≤ n) (h1 : n < 2 ^ 64) : IntKind.u64.wrap n = n := by rw [IntKind.wrap_u64]; omega


theorem take_ok (l : List Bool) (hl : l.length ≤ 100000) (d : Nat) : ∀ (k at_ acc : Nat), d < k → d ≤ 64 → at_ + d ≤ l.length → acc < 2 ^ (64 - d) →
    bits_take.l0 k (at_ : Int) (d : Int) (acc : Int) (pack l) (l.length : Int) = some ((acc * 2 ^ d + num ((l.drop at_).take d) : Nat) : Int) := by
  induction d using Nat.strongRecOn with
  | _ d ih =>
  intro k at_ acc hk hd ha hacc
  obtain ⟨k, rfl⟩ : ∃ m, k = m + 1 := ⟨k - 1, by omega⟩
  simp only [bits_take.l0]
  have Hacc := Aside0.mk hacc
  clear hacc
  rcases Nat.eq_zero_or_pos d with h0 | h0
  · subst h0
    rw [if_neg (by omega)]
    simp [num]
  · rw [if_pos (by omega)]
    have hpl := pack_length l
    obtain ⟨o, ho⟩ : ∃ o, o = at_ % 8 := ⟨_, rfl⟩
    obtain ⟨m, hm⟩ : ∃ m, m = min (8 - o) d := ⟨_, rfl⟩
    have t1 : wrap64 (Int.tdiv (at_ : Int) 8) = ((at_ / 8 : Nat) : Int) := by
      rw [Int.tdiv_eq_ediv_of_nonneg (Int.natCast_nonneg at_)]
      rw [w64 ((at_ : Int) / 8) (by omega) (by omega)]
      omega
    have t2 : wrap64 (8 - Int.tmod (at_ : Int) 8) = ((8 - o : Nat) : Int) := by
      rw [Int.tmod_eq_emod_of_nonneg (Int.natCast_nonneg at_)]
      rw [w64 (8 - (at_ : Int) % 8) (by omega) (by omega)]
      omega
    have hmn : mn ((8 - o : Nat) : Int) (d : Int) = (m : Int) := by rw [mn_eq]; omega
    rw [t1, t2, hmn, hpl]
    have t3 : wrap64 (((8 - o : Nat) : Int) - (m : Int)) = ((8 - o - m : Nat) : Int) := by rw [w64 (((8 - o : Nat) : Int) - (m : Int)) (by omega) (by omega)]; omega
    rw [t3]
    clear t1 t2 t3 hmn
    have q1 : (0 : Int) ≤ ((at_ / 8 : Nat) : Int) := Int.natCast_nonneg _
    have q2 : ((at_ / 8 : Nat) : Int) < (((l.length + 7) / 8 : Nat) : Int) := by omega
    have q3 : (0 : Int) ≤ ((8 - o - m : Nat) : Int) := Int.natCast_nonneg _
    have q4 : (0 : Int) ≤ ((m : Nat) : Int) := Int.natCast_nonneg _
    rw [if_pos q1]
    rw [if_pos q2]
    rw [if_pos q3]
    rw [if_pos q4]
    rw [rd_pack l (at_ / 8) (by omega)]
    have hcl := chunk_length l (at_ / 8)
    have hb := byte_nat (chunk l (at_ / 8)) (by omega)
    have t4 : Go.bits .and .u8 (shr .u8 (byte (chunk l (at_ / 8))) ((8 - o - m : Nat) : Int)) ((shl .u8 1 (m : Int) - 1) % 256) = ((num ((l.drop at_).take m) : Nat) : Int) := by
      unfold byte
      rw [shr_u8 _ _ (by omega), mask_u8 _ (by omega), bits_mask .u8 8 (by decide) wraps_u8 m (by omega) _ (Int.natCast_nonneg _)]
      · have e := byte_part (chunk l (at_ / 8)) o m (by omega) (by omega)
        rw [chunk_cut _ _ _ _ (by omega), show 8 * (at_ / 8) + o = at_ from by omega] at e
        rw [← e]
        simp
      · have : num (chunk l (at_ / 8)) * 2 ^ (8 - (chunk l (at_ / 8)).length) / 2 ^ (8 - o - m) < 256 := Nat.lt_of_le_of_lt (Nat.div_le_self _ _) hb
        generalize num (chunk l (at_ / 8)) * 2 ^ (8 - (chunk l (at_ / 8)).length) / 2 ^ (8 - o - m) = z at this
        omega
    rw [t4]
    have hp := num_lt ((l.drop at_).take m)
    rw [List.length_take, List.length_drop, Nat.min_eq_left (by omega)] at hp
    have hp64 : (2 : Nat) ^ m ≤ 2 ^ 64 := Nat.pow_le_pow_right (by decide) (by omega)
    obtain ⟨p, hpe⟩ : ∃ p, p = num ((l.drop at_).take m) := ⟨_, rfl⟩
    rw [← hpe] at hp ⊢
    have hp2 : p < 2 ^ 64 := Nat.lt_of_lt_of_le hp hp64
    have hpi : ((p : Nat) : Int) < 2 ^ 64 := Int.ofNat_lt.2 hp2
    have hpm : ((p : Nat) : Int) < 2 ^ m := by
      have := Int.ofNat_lt.2 hp
      simpa using this
    have t6 : IntKind.u64.wrap (p : Int) = (p : Int) := wraps_u64 _ (Int.natCast_nonneg _) hpi
    rw [t6]
    have hacc2 : acc * 2 ^ m < 2 ^ 64 := by
      calc acc * 2 ^ m < 2 ^ (64 - d) * 2 ^ m := (Nat.mul_lt_mul_right (Nat.two_pow_pos _)).2 Hacc.out
        _ ≤ 2 ^ 64 := by rw [← Nat.pow_add]; exact Nat.pow_le_pow_right (by decide) (by omega)
    have hai : ((acc * 2 ^ m : Nat) : Int) < 2 ^ 64 := Int.ofNat_lt.2 hacc2
    have t5 : shl .u64 (acc : Int) (m : Int) = ((acc * 2 ^ m : Nat) : Int) := by
      unfold shl
      rw [Int.toNat_natCast, show min m IntKind.u64.bits = m from Nat.min_eq_left (by have : IntKind.u64.bits = 64 := rfl; omega)]
      have e : (acc : Int) * 2 ^ m = ((acc * 2 ^ m : Nat) : Int) := by simp
      rw [e]
      exact wraps_u64 _ (Int.natCast_nonneg _) hai
    have hz : ((acc * 2 ^ m : Nat) : Int) % 2 ^ m = 0 := by
      have := Nat.mul_mod_left acc (2 ^ m)
      have h2 := congrArg Int.ofNat (Nat.mul_mod_left acc (2 ^ m))
      simp at h2 ⊢
    have t7 : Go.bits .or .u64 ((acc * 2 ^ m : Nat) : Int) (p : Int) = ((acc * 2 ^ m : Nat) : Int) + (p : Int) :=
      bits_join .u64 64 (by decide) wraps_u64 m _ _ (Int.natCast_nonneg _) hz hai (Int.natCast_nonneg _) hpm hpi
    rw [t5, t7]
    have hih := ih (d - m) (by omega) k (at_ + m) (acc * 2 ^ m + p) (by omega) (by omega) (by omega) (by
      have e : 2 ^ (64 - (d - m)) = 2 ^ (64 - d) * 2 ^ m := by rw [← Nat.pow_add]; congr 1; omega
      rw [e]
      calc acc * 2 ^ m + p < acc * 2 ^ m + 2 ^ m := by omega
        _ = (acc + 1) * 2 ^ m := by rw [Nat.add_mul, Nat.one_mul]
        _ ≤ 2 ^ (64 - d) * 2 ^ m := Nat.mul_le_mul_right _ Hacc.out)
    have e6 : (l.drop at_).take d = (l.drop at_).take m ++ (l.drop (at_ + m)).take (d - m) := by
      have := List.take_append_drop m ((l.drop at_).take d)
      rw [List.take_take, List.drop_take, List.drop_drop, Nat.min_eq_left (by omega)] at this
      exact this.symm
    have e7 : ((l.drop (at_ + m)).take (d - m)).length = d - m := by rw [List.length_take, List.length_drop]; omega
    rw [w64 ((at_ : Int) + m) (by omega) (by omega), w64 ((d : Int) - m) (by omega) (by omega)]
    rw [show (at_ : Int) + (m : Int) = ((at_ + m : Nat) : Int) from by omega, show (d : Int) - (m : Int) = ((d - m : Nat) : Int) from by omega]
    have e8 : ((acc * 2 ^ m : Nat) : Int) + ((p : Nat) : Int) = ((acc * 2 ^ m + p : Nat) : Int) := by simp
    rw [e8, hih, e6, num_append, e7, ← hpe, Nat.add_mul, Nat.mul_assoc, ← Nat.pow_add, show m + (d - m) = d from by omega, Nat.add_assoc]

def blen (v : Nat) : Nat := if v = 0 then 0 else v.log2 + 1
theorem blen_le (v w : Nat) : blen v ≤ w ↔ v < 2 ^ w := by
  unfold blen
  by_cases h : v = 0
  · subst h
    simp [Nat.two_pow_pos]
  · rw [if_neg h, ← Nat.log2_lt h]
    omega
theorem blen_zero : blen 0 = 0 := rfl
theorem blen_pos (v : Nat) (h : 0 < v) : 0 < blen v := by unfold blen; rw [if_neg (by omega)]; omega
theorem lt_blen (v : Nat) : v < 2 ^ blen v := (blen_le v _).1 (Nat.le_refl _)
theorem blen_ge (v : Nat) (h : 0 < v) : 2 ^ (blen v - 1) ≤ v := by
  have := mt (blen_le v (blen v - 1)).2 (by have := blen_pos v h; omega)
  omega
theorem blen_shift (v s : Nat) (h : 2 ^ s ≤ v) : blen v = blen (v / 2 ^ s) + s := by
  have hs : s < blen v := by
    have := mt (blen_le v s).1 (by omega)
    omega
  have key : ∀ w, s ≤ w → (blen v ≤ w ↔ blen (v / 2 ^ s) + s ≤ w) := by
    intro w hw
    obtain ⟨d, rfl⟩ : ∃ d, w = d + s := ⟨w - s, by omega⟩
    rw [blen_le, show blen (v / 2 ^ s) + s ≤ d + s ↔ blen (v / 2 ^ s) ≤ d from by omega, blen_le, Nat.div_lt_iff_lt_mul (Nat.two_pow_pos _), ← Nat.pow_add]
  have h1 := (key (blen v) (by omega)).1 (Nat.le_refl _)
  have h2 := (key (blen (v / 2 ^ s) + s) (by omega)).2 (Nat.le_refl _)
  omega
theorem blen_half (v : Nat) (h : 0 < v) : blen v = blen (v / 2) + 1 := by
  by_cases h2 : 2 ≤ v
  · have := blen_shift v 1 (by simpa using h2)
    simpa using this
  · obtain rfl : v = 1 := by omega
    decide

def tab8 : ByteArray := ⟨#[0, 1, 2, 2, 3, 3, 3, 3, 4, 4, 4, 4, 4, 4, 4, 4, 5, 5, 5, 5, 5, 5, 5, 5, 5, 5, 5, 5, 5, 5, 5, 5, 6, 6, 6, 6, 6, 6, 6, 6, 6, 6, 6, 6, 6, 6, 6, 6, 6, 6, 6, 6, 6, 6, 6, 6, 6, 6, 6, 6, 6, 6, 6, 6, 7, 7, 7, 7, 7, 7, 7, 7, 7, 7, 7, 7, 7, 7, 7, 7, 7, 7, 7, 7, 7, 7, 7, 7, 7, 7, 7, 7, 7, 7, 7, 7, 7, 7, 7, 7, 7, 7, 7, 7, 7, 7, 7, 7, 7, 7, 7, 7, 7, 7, 7, 7, 7, 7, 7, 7, 7, 7, 7, 7, 7, 7, 7, 7, 8, 8, 8, 8, 8, 8, 8, 8, 8, 8, 8, 8, 8, 8, 8, 8, 8, 8, 8, 8, 8, 8, 8, 8, 8, 8, 8, 8, 8, 8, 8, 8, 8, 8, 8, 8, 8, 8, 8, 8, 8, 8, 8, 8, 8, 8, 8, 8, 8, 8, 8, 8, 8, 8, 8, 8, 8, 8, 8, 8, 8, 8, 8, 8, 8, 8, 8, 8, 8, 8, 8, 8, 8, 8, 8, 8, 8, 8, 8, 8, 8, 8, 8, 8, 8, 8, 8, 8, 8, 8, 8, 8, 8, 8, 8, 8, 8, 8, 8, 8, 8, 8, 8, 8, 8, 8, 8, 8, 8, 8, 8, 8, 8, 8, 8, 8, 8, 8, 8, 8, 8, 8, 8, 8, 8, 8, 8, 8]⟩
theorem tab8_at : ∀ i : Fin 256, bt tab8 ((i.val : Nat) : Int) = (((if i.val = 0 then 0 else if i.val < 2 then 1 else if i.val < 4 then 2 else if i.val < 8 then 3 else if i.val < 16 then 4 else if i.val < 32 then 5 else if i.val < 64 then 6 else if i.val < 128 then 7 else 8) : Nat) : Int) := by decide +kernel
theorem blen_byte (i : Nat) (h : i < 256) : blen i = (if i = 0 then 0 else if i < 2 then 1 else if i < 4 then 2 else if i < 8 then 3 else if i < 16 then 4 else if i < 32 then 5 else if i < 64 then 6 else if i < 128 then 7 else 8) := by
  have a := fun w => blen_le i w
  have a0 := a 0; have a1 := a 1; have a2 := a 2; have a3 := a 3; have a4 := a 4; have a5 := a 5; have a6 := a 6; have a7 := a 7; have a8 := a 8
  simp only [Nat.pow_zero, show 2 ^ 1 = 2 from rfl, show 2 ^ 2 = 4 from rfl, show 2 ^ 3 = 8 from rfl, show 2 ^ 4 = 16 from rfl, show 2 ^ 5 = 32 from rfl, show 2 ^ 6 = 64 from rfl, show 2 ^ 7 = 128 from rfl, show 2 ^ 8 = 256 from rfl] at a0 a1 a2 a3 a4 a5 a6 a7 a8
  clear a
  repeat' split
  all_goals omega
theorem tab8_blen (i : Nat) (h : i < 256) : bt tab8 (i : Int) = (blen i : Int) := by
  rw [blen_byte i h]
  exact tab8_at ⟨i, h⟩

set_option maxRecDepth 100000 in
theorem len_j0 (k : Nat) (x n : Int) : bits_Len64.j0 (k + 1) x n = if x ≥ 65536 then (if (x / 65536) ≥ 256 then (if 0 ≤ (((x / 65536) / 256) % 256) then (if (((x / 65536) / 256) % 256) < 256 then (some (wrap64 ((wrap64 ((wrap64 (n + 16)) + 8)) + (wrap64 (bt tab8 (((x / 65536) / 256) % 256)))))) else (none)) else (none)) else (if 0 ≤ ((x / 65536) % 256) then (if ((x / 65536) % 256) < 256 then (some (wrap64 ((wrap64 (n + 16)) + (wrap64 (bt tab8 ((x / 65536) % 256)))))) else (none)) else (none))) else (if x ≥ 256 then (if 0 ≤ ((x / 256) % 256) then (if ((x / 256) % 256) < 256 then (some (wrap64 ((wrap64 (n + 8)) + (wrap64 (bt tab8 ((x / 256) % 256)))))) else (none)) else (none)) else (if 0 ≤ (x % 256) then (if (x % 256) < 256 then (some (wrap64 (n + (wrap64 (bt tab8 (x % 256)))))) else (none)) else (none))) := rfl

theorem len32 (k : Nat) (x : Nat) (h : x < 4294967296) (n : Int) (h0 : 0 ≤ n) (h1 : n ≤ 100) : bits_Len64.j0 (k + 1) (x : Int) n = some (n + (blen x : Int)) := by
  rw [len_j0]
  by_cases c1 : 65536 ≤ x
  · rw [if_pos (by omega)]
    have e1 : (x : Int) / 65536 = ((x / 65536 : Nat) : Int) := by omega
    have b1 := blen_shift x 16 (by simpa using c1)
    simp only [show 2 ^ 16 = 65536 from rfl] at b1
    rw [e1]
    by_cases c2 : 256 ≤ x / 65536
    · rw [if_pos (by omega)]
      have e2 : ((x / 65536 : Nat) : Int) / 256 % 256 = ((x / 65536 / 256 : Nat) : Int) := by omega
      have b2 := blen_shift (x / 65536) 8 (by simpa using c2)
      simp only [show 2 ^ 8 = 256 from rfl] at b2
      have hb := (blen_le (x / 65536 / 256) 8).2 (by simp only [show 2 ^ 8 = 256 from rfl]; omega)
      rw [e2, if_pos (by omega), if_pos (by omega), tab8_blen _ (by omega), w64 (n + 16) (by omega) (by omega), w64 (n + 16 + 8) (by omega) (by omega), w64 ((blen (x / 65536 / 256) : Nat) : Int) (by omega) (by omega), w64 _ (by omega) (by omega)]
      congr 1
      omega
    · rw [if_neg (by omega)]
      have e2 : ((x / 65536 : Nat) : Int) % 256 = ((x / 65536 : Nat) : Int) := by omega
      have hb := (blen_le (x / 65536) 8).2 (by simp only [show 2 ^ 8 = 256 from rfl]; omega)
      rw [e2, if_pos (by omega), if_pos (by omega), tab8_blen _ (by omega), w64 (n + 16) (by omega) (by omega), w64 ((blen (x / 65536) : Nat) : Int) (by omega) (by omega), w64 _ (by omega) (by omega)]
      congr 1
      omega
  · rw [if_neg (by omega)]
    by_cases c2 : 256 ≤ x
    · rw [if_pos (by omega)]
      have e2 : (x : Int) / 256 % 256 = ((x / 256 : Nat) : Int) := by omega
      have b2 := blen_shift x 8 (by simpa using c2)
      simp only [show 2 ^ 8 = 256 from rfl] at b2
      have hb := (blen_le (x / 256) 8).2 (by simp only [show 2 ^ 8 = 256 from rfl]; omega)
      rw [e2, if_pos (by omega), if_pos (by omega), tab8_blen _ (by omega), w64 (n + 8) (by omega) (by omega), w64 ((blen (x / 256) : Nat) : Int) (by omega) (by omega), w64 _ (by omega) (by omega)]
      congr 1
      omega
    · rw [if_neg (by omega)]
      have e2 : (x : Int) % 256 = (x : Int) := by omega
      have hb := (blen_le x 8).2 (by simp only [show 2 ^ 8 = 256 from rfl]; omega)
      rw [e2, if_pos (by omega), if_pos (by omega), tab8_blen _ (by omega), w64 ((blen x : Nat) : Int) (by omega) (by omega), w64 _ (by omega) (by omega)]
theorem len_ok (k : Nat) (x : Nat) (h : x < 18446744073709551616) : bits_Len64.f (k + 1) (x : Int) = some (blen x : Int) := by
  unfold bits_Len64.f
  by_cases c : 4294967296 ≤ x
  · rw [if_pos (by omega)]
    have e1 : (x : Int) / 4294967296 = ((x / 4294967296 : Nat) : Int) := by omega
    have b1 := blen_shift x 32 (by simpa using c)
    simp only [show 2 ^ 32 = 4294967296 from rfl] at b1
    rw [e1, len32 k _ (by omega) 32 (by omega) (by omega)]
    congr 1
    omega
  · rw [if_neg (by omega), len32 k x (by omega) 0 (by omega) (by omega)]
    simp

theorem clone_ok (l : List Int) (h : l.length < 140737488355328) : slices_Clone_byte_byte.f l = some l := by
  unfold slices_Clone_byte_byte.f
  simp only [Option.bind_some, List.length_nil, Nat.zero_add, List.nil_append]
  rw [if_pos h]

theorem fits_ok (k : Nat) (v : Nat) (hv : v < 2 ^ 64) (w : Int) : bits_fits.f (k + 1) (v : Int) w = some (decide (0 ≤ w ∧ w ≤ 64 ∧ (blen v : Int) ≤ w)) := by
  unfold bits_fits.f
  by_cases h1 : w ≥ 0
  · rw [if_pos h1]
    by_cases h2 : w ≤ 64
    · rw [if_pos h2, len_ok k v hv]
      simp only [Option.bind_some]
      congr 1
      rw [decide_eq_decide]
      omega
    · rw [if_neg h2]
      congr 1
      rw [eq_comm, decide_eq_false_iff_not]
      omega
  · rw [if_neg h1]
    congr 1
    rw [eq_comm, decide_eq_false_iff_not]
    omega

/-! ### which bits may be -/
theorem tmod8 (n : Nat) : Int.tmod (n : Int) 8 = ((n % 8 : Nat) : Int) := by
  rw [Int.tmod_eq_emod_of_nonneg (Int.natCast_nonneg n)]
  omega
theorem need8 (n : Int) (h0 : 0 ≤ n) (h1 : n ≤ 100000) : wrap64 (Int.tdiv (wrap64 (n + 7)) 8) = (n + 7) / 8 := by
  rw [w64 (n + 7) (by omega) (by omega), Int.tdiv_eq_ediv_of_nonneg (by omega : (0 : Int) ≤ n + 7), w64 ((n + 7) / 8) (by omega) (by omega)]

theorem shl_zero (x r : Nat) (hr : r ≤ 8) : shl .u8 (x : Int) (r : Int) = 0 ↔ x % 2 ^ (8 - r) = 0 := by
  unfold shl
  rw [Int.toNat_natCast, show min r IntKind.u8.bits = r from Nat.min_eq_left hr, IntKind.wrap_u8]
  rcases (show r = 0 ∨ r = 1 ∨ r = 2 ∨ r = 3 ∨ r = 4 ∨ r = 5 ∨ r = 6 ∨ r = 7 ∨ r = 8 by omega) with rfl | rfl | rfl | rfl | rfl | rfl | rfl | rfl | rfl <;> simp <;> omega

/-- A byte that has only zeros behind its first bits. -/
theorem byte_low (x r : Nat) (hx : x < 256) (hr : r ≤ 8) (h : x % 2 ^ (8 - r) = 0) : byte ((low x 8).take r) = (x : Int) := by
  have e1 := take_low x 8 r hr
  have e2 : (low x 8).take r = low (x / 2 ^ (8 - r)) r := by
    rw [e1]
    exact List.take_left' (low_length _ _)
  rw [e2]
  unfold byte
  rw [num_low, low_length]
  have e3 : x / 2 ^ (8 - r) < 2 ^ r := by
    rw [Nat.div_lt_iff_lt_mul (Nat.two_pow_pos _), ← Nat.pow_add, show r + (8 - r) = 8 from by omega]
    exact hx
  rw [Nat.mod_eq_of_lt e3]
  have e4 := Nat.div_add_mod x (2 ^ (8 - r))
  rw [h, Nat.add_zero, Nat.mul_comm] at e4
  rw [e4]
theorem byte_full (x : Nat) (hx : x < 256) : byte (low x 8) = (x : Int) := by
  have := byte_low x 8 hx (by omega) (by simp [Nat.mod_one])
  rwa [List.take_of_length_le (by rw [low_length]; omega)] at this
theorem pack_cons (a t : List Bool) (h : a.length = 8) : pack (a ++ t) = byte a :: pack t := by
  apply List.ext_getElem
  · simp only [List.length_cons, pack_length, List.length_append]
    omega
  · intro i h1 h2
    cases i with
    | zero =>
      simp only [pack, List.getElem_map, List.getElem_range, List.getElem_cons_zero, chunk, Nat.mul_zero, List.drop_zero]
      rw [List.take_left' h]
    | succ i =>
      simp only [pack, List.getElem_map, List.getElem_range, List.getElem_cons_succ, chunk]
      rw [show 8 * (i + 1) = a.length + 8 * i from by omega, List.drop_append, List.drop_of_length_le (by omega), List.nil_append, Nat.add_sub_cancel_left]
theorem pack_one (a : List Bool) (h : a.length ≤ 8) (h0 : 0 < a.length) : pack a = [byte a] := by
  apply List.ext_getElem
  · simp only [List.length_cons, pack_length, List.length_nil]
    omega
  · intro i h1 h2
    simp only [List.length_cons, List.length_nil] at h2
    obtain rfl : i = 0 := by omega
    simp only [pack, List.getElem_map, List.getElem_range, List.getElem_cons_zero, chunk, Nat.mul_zero, List.drop_zero]
    rw [List.take_of_length_le h]

/-- Bytes that have only zeros behind the bits are those bits, packed. -/
theorem unpack (B : List Nat) : ∀ N : Nat, (∀ x ∈ B, x < 256) → B.length = (N + 7) / 8 → (N % 8 ≠ 0 → (B.getD (B.length - 1) 0) % 2 ^ (8 - N % 8) = 0) → ∃ l : List Bool, l.length = N ∧ pack l = B.map (fun x : Nat => (x : Int)) := by
  induction B with
  | nil =>
    intro N _ h _
    simp at h
    exact ⟨[], by simp; omega, rfl⟩
  | cons x t ih =>
    intro N hb hlen hz
    have hx := hb x List.mem_cons_self
    by_cases ht : t = []
    · subst ht
      simp at hlen hz
      refine ⟨(low x 8).take N, by rw [List.length_take, low_length]; omega, ?_⟩
      rw [pack_one _ (by rw [List.length_take]; omega) (by rw [List.length_take, low_length]; omega)]
      by_cases h8 : N % 8 = 0
      · obtain rfl : N = 8 := by omega
        rw [byte_low x 8 hx (by omega) (by simp [Nat.mod_one])]
        rfl
      · rw [byte_low x N hx (by omega) (by have := hz h8; rwa [show N % 8 = N from by omega] at this)]
        rfl
    · have htl : 0 < t.length := by cases t with
        | nil => exact absurd rfl ht
        | cons => simp
      simp only [List.length_cons] at hlen
      obtain ⟨l, hl, hp⟩ := ih (N - 8) (fun y hy => hb y (List.mem_cons_of_mem _ hy)) (by omega) (fun h8 => by
        have := hz (by omega)
        rw [show N % 8 = (N - 8) % 8 from by omega] at this
        rw [List.getD_eq_getElem?_getD] at this ⊢
        simp only [List.length_cons, Nat.add_sub_cancel] at this
        rw [show t.length = (t.length - 1) + 1 from by omega, List.getElem?_cons_succ] at this
        exact this)
      refine ⟨low x 8 ++ l, by rw [List.length_append, low_length]; omega, ?_⟩
      rw [pack_cons _ _ (low_length _ _), byte_full x hx, hp]
      rfl

def Ok (B : List Int) (N : Int) : Prop := ∃ l : List Bool, B = pack l ∧ N = (l.length : Int) ∧ l.length ≤ 65536
def isB (B : List Int) : Prop := ∀ x ∈ B, 0 ≤ x ∧ x ≤ 255
theorem nat_of_isB (B : List Int) (h : isB B) : ∃ C : List Nat, B = C.map (fun x : Nat => (x : Int)) ∧ ∀ x ∈ C, x < 256 := by
  refine ⟨B.map Int.toNat, ?_, ?_⟩
  · rw [List.map_map]
    have e : B.map ((fun x : Nat => (x : Int)) ∘ Int.toNat) = B.map id := List.map_congr_left (fun x hx => by
      have := h x hx
      simp
      omega)
    rw [e, List.map_id]
  · intro x hx
    obtain ⟨y, hy, rfl⟩ := List.mem_map.1 hx
    have := h y hy
    omega
theorem isB_pack (l : List Bool) : isB (pack l) := pack_range l

/-- What is asked of the last byte. -/
theorem rd_last (C : List Nat) (h : 0 < C.length) : rd (C.map (fun x : Nat => (x : Int))) ((C.length : Int) - 1) = ((C.getD (C.length - 1) 0 : Nat) : Int) := by
  unfold rd
  rw [show ((C.length : Int) - 1).toNat = C.length - 1 from by omega]
  simp only [List.getD_eq_getElem?_getD, List.getElem?_map]
  rw [List.getElem?_eq_getElem (by omega)]
  rfl

theorem check_j0 (k : Nat) (C : List Nat) (N : Nat) (hC : ∀ x ∈ C, x < 256) (hN : N ≤ 65536) (hl : C.length = (N + 7) / 8) :
    bits_Check.j0 (k + 1) false (C.map (fun x : Nat => (x : Int))) (N : Int) = some (if N % 8 ≠ 0 → (C.getD (C.length - 1) 0) % 2 ^ (8 - N % 8) = 0 then 0 else 1) := by
  simp only [bits_Check.j0]
  rw [if_neg (by decide), tmod8, List.length_map]
  by_cases h8 : N % 8 = 0
  · rw [if_neg (by omega), if_pos (fun h => absurd h8 h)]
  · rw [if_pos (by omega)]
    have hp : 0 < C.length := by omega
    rw [w64 ((C.length : Int) - 1) (by omega) (by omega), if_pos (by omega), if_pos (by omega), if_pos (by omega), rd_last C hp]
    have hx : C.getD (C.length - 1) 0 < 256 := by
      rw [List.getD_eq_getElem?_getD, List.getElem?_eq_getElem (by omega)]
      exact hC _ (List.getElem_mem _)
    by_cases hz : (C.getD (C.length - 1) 0) % 2 ^ (8 - N % 8) = 0
    · rw [if_pos ((shl_zero _ _ (by omega)).2 hz), if_pos (fun _ => hz)]
    · rw [if_neg (fun e => hz ((shl_zero _ _ (by omega)).1 e)), if_neg (fun e => hz (e h8))]

theorem check_le (B : List Int) (N : Int) (k : Nat) (hB : isB B) (hlen : B.length ≤ 140737488351232) :
    (Ok B N ∧ bits_Check.f (k + 1) B N = some 0) ∨ (¬ Ok B N ∧ bits_Check.f (k + 1) B N = some 1) := by
  obtain ⟨C, rfl, hC⟩ := nat_of_isB B hB
  rw [List.length_map] at hlen
  have no : ∀ {P : Prop}, (Ok (C.map (fun x : Nat => (x : Int))) N → P) → ¬ P → ¬ Ok (C.map (fun x : Nat => (x : Int))) N := fun f g h => g (f h)
  unfold bits_Check.f
  by_cases h0 : N < 0
  · rw [if_pos h0]
    exact .inr ⟨fun ⟨l, _, h, _⟩ => by omega, by simp only [bits_Check.j0]; rfl⟩
  · rw [if_neg h0]
    by_cases h1 : N > 65536
    · rw [if_pos h1]
      exact .inr ⟨fun ⟨l, _, h, _⟩ => by omega, by simp only [bits_Check.j0]; rfl⟩
    · rw [if_neg h1]
      obtain ⟨n, rfl⟩ := Int.eq_ofNat_of_zero_le (by omega : 0 ≤ N)
      rw [need8 _ (by omega) (by omega), List.length_map]
      by_cases h2 : C.length = (n + 7) / 8
      · have e : ((C.length : Int) != ((n : Int) + 7) / 8) = false := by rw [bne_eq_false_iff_eq]; omega
        rw [e, check_j0 k C n hC (by omega) h2]
        by_cases h3 : n % 8 ≠ 0 → (C.getD (C.length - 1) 0) % 2 ^ (8 - n % 8) = 0
        · rw [if_pos h3]
          obtain ⟨l, hl, hp⟩ := unpack C n hC h2 h3
          exact .inl ⟨⟨l, hp.symm, by omega, by omega⟩, rfl⟩
        · rw [if_neg h3]
          refine .inr ⟨?_, rfl⟩
          rintro ⟨l, hp, hn, _⟩
          apply h3
          intro h8
          have hll : l.length = n := by omega
          have h4 : rd (C.map (fun x : Nat => (x : Int))) ((C.length : Int) - 1) = byte (chunk l (C.length - 1)) := by
            rw [hp, show ((C.length : Int) - 1) = ((C.length - 1 : Nat) : Int) from by omega]
            exact rd_pack l _ (by omega)
          rw [rd_last C (by omega)] at h4
          unfold byte at h4
          have h5 : C.getD (C.length - 1) 0 = num (chunk l (C.length - 1)) * 2 ^ (8 - (chunk l (C.length - 1)).length) := by exact Int.ofNat_inj.1 h4
          rw [h5, chunk_length, show min 8 (l.length - 8 * (C.length - 1)) = n % 8 from by omega]
          exact Nat.mul_mod_left _ _
      · have e : ((C.length : Int) != ((n : Int) + 7) / 8) = true := by rw [bne_iff_ne]; omega
        rw [e]
        refine .inr ⟨?_, by simp only [bits_Check.j0]; rfl⟩
        rintro ⟨l, hp, hn, _⟩
        have := congrArg List.length hp
        rw [List.length_map, pack_length] at this
        omega
theorem check_ok (k : Nat) (l : List Bool) (hl : l.length ≤ 65536) : bits_Check.f (k + 1) (pack l) (l.length : Int) = some 0 := by
  rcases check_le (pack l) l.length k (isB_pack l) (by rw [pack_length]; omega) with ⟨_, h⟩ | ⟨h, _⟩
  · exact h
  · exact absurd ⟨l, rfl, rfl, hl⟩ h

/-- The two ways of asking whether bits may be. -/
theorem check_yes {k : Nat} (hk : 1 ≤ k) (l : List Bool) (hl : l.length ≤ 65536) : bits_Check.f k (pack l) (l.length : Int) = some 0 := by
  obtain ⟨k, rfl⟩ : ∃ m, k = m + 1 := ⟨k - 1, by omega⟩
  exact check_ok k l hl
theorem check_no {k : Nat} (hk : 1 ≤ k) {B : List Int} {N : Int} (hB : isB B) (hlen : B.length ≤ 140737488351232) (h : ¬ Ok B N) : bits_Check.f k B N = some 1 := by
  obtain ⟨k, rfl⟩ : ∃ m, k = m + 1 := ⟨k - 1, by omega⟩
  rcases check_le B N k hB hlen with ⟨h1, _⟩ | ⟨_, h1⟩
  · exact absurd h1 h
  · exact h1
theorem pack_short (l : List Bool) (hl : l.length ≤ 100000) : (pack l).length ≤ 20000 := by rw [pack_length]; omega

theorem put_j0 (k : Nat) (v : Nat) (hv : v < 2 ^ 64) (w : Nat) (hw : w ≤ 64) (l : List Bool) (hl : l.length ≤ 65536) (hk : 70 ≤ k) :
    bits_Put.j0 (k + 1) (v : Int) (w : Int) false (pack l) (l.length : Int) = if l.length + w ≤ 65536 then some (pack (l ++ low v w), ((l.length + w : Nat) : Int), 0) else some ([], 0, 2) := by
  simp only [bits_Put.j0]
  rw [if_neg (by decide), w64 (65536 - (l.length : Int)) (by omega) (by omega)]
  by_cases h : l.length + w ≤ 65536
  · rw [if_neg (by omega), if_pos h, clone_ok _ (by have := pack_short l (by omega); omega)]
    simp only [Option.bind_some]
    unfold bits_add.f
    rw [add_ok v hv w k l (by omega) hw (by omega)]
    rfl
  · rw [if_pos (by omega), if_neg h]

theorem put_yes {k : Nat} (hk : 72 ≤ k) (v : Nat) (hv : v < 2 ^ 64) (w : Int) (l : List Bool) (hl : l.length ≤ 65536) :
    bits_Put.f k (pack l) (l.length : Int) (v : Int) w = if 0 ≤ w ∧ w ≤ 64 ∧ (blen v : Int) ≤ w then (if (l.length : Int) + w ≤ 65536 then some (pack (l ++ low v w.toNat), (l.length : Int) + w, 0) else some ([], 0, 2)) else some ([], 0, 1) := by
  obtain ⟨k, rfl⟩ : ∃ m, k = m + 1 := ⟨k - 1, by omega⟩
  unfold bits_Put.f
  rw [check_ok k l hl]
  simp only [Option.bind_some, if_true]
  rw [fits_ok k v hv w]
  simp only [Option.bind_some]
  by_cases h : 0 ≤ w ∧ w ≤ 64 ∧ (blen v : Int) ≤ w
  · rw [decide_eq_true h, if_pos h]
    obtain ⟨n, rfl⟩ := Int.eq_ofNat_of_zero_le h.1
    have e : (!true) = false := rfl
    rw [e, put_j0 k v hv n (by omega) l hl (by omega), Int.toNat_natCast]
    by_cases h2 : l.length + n ≤ 65536
    · rw [if_pos h2, if_pos (by omega)]
      rfl
    · rw [if_neg h2, if_neg (by omega)]
  · rw [decide_eq_false h, if_neg h]
    simp only [bits_Put.j0]
    rfl
theorem put_no {k : Nat} (hk : 2 ≤ k) {B : List Int} {N : Int} (hB : isB B) (hlen : B.length ≤ 140737488351232) (h : ¬ Ok B N) (v w : Int) : bits_Put.f k B N v w = some ([], 0, 1) := by
  obtain ⟨k, rfl⟩ : ∃ m, k = m + 1 := ⟨k - 1, by omega⟩
  unfold bits_Put.f
  rw [check_no (by omega) hB hlen h]
  simp only [Option.bind_some]
  rw [if_neg (by decide)]
  simp only [bits_Put.j0]
  rfl

/-- A number's code, as bits. -/
def code (v : Nat) : List Bool := low 0 (blen (v + 1) - 1) ++ low (v + 1) (blen (v + 1))
theorem code_length (v : Nat) : (code v).length = 2 * blen (v + 1) - 1 := by
  have := blen_pos (v + 1) (by omega)
  unfold code
  rw [List.length_append, low_length, low_length]
  omega

theorem wrap_succ (v : Nat) (hv : v < 18446744073709551615) : IntKind.u64.wrap ((v : Int) + 1) = ((v + 1 : Nat) : Int) := by
  rw [IntKind.wrap_u64]
  omega
theorem blen_le64 (v : Nat) (hv : v < 18446744073709551616) : blen v ≤ 64 := (blen_le v 64).2 (by simpa using hv)

theorem putcode_j0 (k : Nat) (v : Nat) (hv : v < 4294967296) (l : List Bool) (hl : l.length ≤ 65536) (hk : 70 ≤ k) :
    bits_PutCode.j0 (k + 1) (v : Int) (blen (v + 1) : Int) false (pack l) (l.length : Int) = if l.length + (code v).length ≤ 65536 then some (pack (l ++ code v), ((l.length + (code v).length : Nat) : Int), 0) else some ([], 0, 2) := by
  have hb := blen_pos (v + 1) (by omega)
  have hb2 := blen_le64 (v + 1) (by omega)
  simp only [bits_PutCode.j0]
  rw [if_neg (by decide), w64 (65536 - (l.length : Int)) (by omega) (by omega), w64 (2 * (blen (v + 1) : Int)) (by omega) (by omega), w64 (2 * (blen (v + 1) : Int) - 1) (by omega) (by omega), code_length]
  by_cases h : l.length + (2 * blen (v + 1) - 1) ≤ 65536
  · rw [if_neg (by omega), if_pos h, clone_ok _ (by have := pack_short l (by omega); omega)]
    simp only [Option.bind_some]
    unfold bits_add.f
    rw [w64 ((blen (v + 1) : Int) - 1) (by omega) (by omega), show (blen (v + 1) : Int) - 1 = ((blen (v + 1) - 1 : Nat) : Int) from by omega]
    have a1 := add_ok 0 (by decide) (blen (v + 1) - 1) k l (by omega) (by omega) (by omega)
    rw [show ((0 : Nat) : Int) = 0 from rfl] at a1
    rw [a1]
    simp only [Option.bind_some]
    have a2 := add_ok (v + 1) (by omega) (blen (v + 1)) k (l ++ low 0 (blen (v + 1) - 1)) (by omega) (by omega) (by rw [List.length_append, low_length]; omega)
    rw [List.length_append, low_length] at a2
    rw [wrap_succ v (by omega), a2]
    simp only [Option.bind_some, code, List.append_assoc]
    congr 3
    omega
  · rw [if_pos (by omega), if_neg h]

theorem putcode_yes {k : Nat} (hk : 72 ≤ k) (v : Nat) (l : List Bool) (hl : l.length ≤ 65536) :
    bits_PutCode.f k (pack l) (l.length : Int) (v : Int) = if v < 4294967296 then (if l.length + (code v).length ≤ 65536 then some (pack (l ++ code v), ((l.length + (code v).length : Nat) : Int), 0) else some ([], 0, 2)) else some ([], 0, 1) := by
  obtain ⟨k, rfl⟩ : ∃ m, k = m + 1 := ⟨k - 1, by omega⟩
  unfold bits_PutCode.f
  have e1 : IntKind.u64.wrap ((v : Int) + 1) = (((v + 1) % 18446744073709551616 : Nat) : Int) := by rw [IntKind.wrap_u64]; omega
  rw [e1, len_ok k _ (Nat.mod_lt _ (by decide))]
  simp only [Option.bind_some]
  rw [check_ok k l hl]
  simp only [Option.bind_some, if_true]
  by_cases h : v < 4294967296
  · rw [if_pos h, decide_eq_false (by omega), Nat.mod_eq_of_lt (by omega), putcode_j0 k v h l hl (by omega)]
  · rw [if_neg h, decide_eq_true (by omega)]
    simp only [bits_PutCode.j0]
    rfl
theorem putcode_no {k : Nat} (hk : 2 ≤ k) {B : List Int} {N : Int} (hB : isB B) (hlen : B.length ≤ 140737488351232) (h : ¬ Ok B N) (v : Nat) (hv : v < 18446744073709551616) : bits_PutCode.f k B N (v : Int) = some ([], 0, 1) := by
  obtain ⟨k, rfl⟩ : ∃ m, k = m + 1 := ⟨k - 1, by omega⟩
  unfold bits_PutCode.f
  have e1 : IntKind.u64.wrap ((v : Int) + 1) = (((v + 1) % 18446744073709551616 : Nat) : Int) := by rw [IntKind.wrap_u64]; omega
  rw [e1, len_ok k _ (Nat.mod_lt _ (by decide))]
  simp only [Option.bind_some]
  rw [check_no (by omega) hB hlen h]
  simp only [Option.bind_some]
  rw [if_neg (by decide)]
  simp only [bits_PutCode.j0]
  rfl

end Go.Proofs.Ytkgcjiaadgnlkaa.BT
