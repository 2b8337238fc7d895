/- The register of the sum as a linear map on natural numbers: what texts of one length that differ in one byte, or in a burst of up to 32 bits, come to; no memory in sight. -/
namespace Go.Proofs.Ytfjcehjdendjnaa.CT
def poly : Nat := 3988292384
def st (c : Nat) : Nat := if c % 2 = 1 then (c / 2) ^^^ poly else c / 2
def it : Nat → Nat → Nat
  | 0, c => c
  | n + 1, c => it n (st c)

theorem testBit_mod2 (c : Nat) : c.testBit 0 = decide (c % 2 = 1) := by simp [Nat.testBit_zero]
theorem xor_mod2 (a b : Nat) : (a ^^^ b) % 2 = (a + b) % 2 := by
  have h := Nat.testBit_xor a b 0
  simp only [Nat.testBit_zero] at h
  have h1 := Nat.mod_two_eq_zero_or_one a
  have h2 := Nat.mod_two_eq_zero_or_one b
  have h3 := Nat.mod_two_eq_zero_or_one (a ^^^ b)
  rcases h1 with h1 | h1 <;> rcases h2 with h2 | h2 <;> rcases h3 with h3 | h3 <;> simp [h1, h2, h3] at h <;> omega
theorem xor_div2 (a b : Nat) : (a ^^^ b) / 2 = a / 2 ^^^ b / 2 := by
  apply Nat.eq_of_testBit_eq
  intro i
  simp [Nat.testBit_xor, Nat.testBit_div_two]
theorem st_xor (a b : Nat) : st (a ^^^ b) = st a ^^^ st b := by
  unfold st
  have h := xor_mod2 a b
  have h1 := Nat.mod_two_eq_zero_or_one a
  have h2 := Nat.mod_two_eq_zero_or_one b
  rw [xor_div2]
  rcases h1 with h1 | h1 <;> rcases h2 with h2 | h2
  · rw [if_neg (by omega), if_neg (by omega), if_neg (by omega)]
  · rw [if_pos (by omega), if_neg (by omega), if_pos (by omega), Nat.xor_assoc]
  · rw [if_pos (by omega), if_pos (by omega), if_neg (by omega), Nat.xor_assoc, Nat.xor_assoc, Nat.xor_comm (b / 2)]
  · rw [if_neg (by omega), if_pos (by omega), if_pos (by omega)]
    have e : a / 2 ^^^ poly ^^^ (b / 2 ^^^ poly) = a / 2 ^^^ b / 2 ^^^ (poly ^^^ poly) := by ac_rfl
    rw [e, Nat.xor_self, Nat.xor_zero]
theorem it_xor (n : Nat) : ∀ a b, it n (a ^^^ b) = it n a ^^^ it n b := by
  induction n with
  | zero => intro a b; rfl
  | succ n ih => intro a b; simp only [it]; rw [st_xor, ih]
theorem it_add (m n : Nat) : ∀ c, it (m + n) c = it n (it m c) := by
  induction m with
  | zero => intro c; simp [it]
  | succ m ih => intro c; rw [show m + 1 + n = (m + n) + 1 by omega]; simp only [it]; exact ih _
theorem st_lt {c : Nat} (h : c < 4294967296) : st c < 4294967296 := by
  unfold st
  split
  · exact Nat.xor_lt_two_pow (n := 32) (by omega) (by decide)
  · omega
theorem it_lt (n : Nat) : ∀ {c : Nat}, c < 4294967296 → it n c < 4294967296 := by
  induction n with
  | zero => intro c h; exact h
  | succ n ih => intro c h; exact ih (st_lt h)
theorem st_zero {c : Nat} (h : c < 4294967296) (hz : st c = 0) : c = 0 := by
  unfold st at hz
  split at hz
  · rename_i h1
    have e : c / 2 = poly := by
      have := congrArg (· ^^^ poly) hz
      simpa [Nat.xor_assoc] using this
    unfold poly at e; omega
  · omega
theorem it_zero (n : Nat) : ∀ {c : Nat}, c < 4294967296 → it n c = 0 → c = 0 := by
  induction n with
  | zero => intro c _ h; exact h
  | succ n ih => intro c h hz; exact st_zero h (ih (st_lt h) hz)
theorem it_of_zero (n : Nat) : it n 0 = 0 := by
  induction n with
  | zero => rfl
  | succ n ih => simpa [it, st] using ih
theorem xor_eq_zero_iff' {a b : Nat} (h : a ^^^ b = 0) : a = b := by
  have := congrArg (· ^^^ b) h
  simpa [Nat.xor_assoc] using this
theorem it_inj (n : Nat) {a b : Nat} (ha : a < 4294967296) (hb : b < 4294967296) (h : it n a = it n b) : a = b := by
  apply xor_eq_zero_iff'
  apply it_zero n (Nat.xor_lt_two_pow (n := 32) ha hb)
  rw [it_xor, h, Nat.xor_self]
theorem st_even (h : Nat) : st (2 * h) = h := by unfold st; rw [if_neg (by omega)]; omega
theorem it_shift (n : Nat) : ∀ h, it n (2 ^ n * h) = h := by
  induction n with
  | zero => intro h; simp [it]
  | succ n ih => intro h; simp only [it]; rw [show 2 ^ (n + 1) * h = 2 * (2 ^ n * h) by rw [Nat.pow_succ]; ac_rfl, st_even, ih]
theorem split_xor (n c : Nat) : c = (c % 2 ^ n) ^^^ (2 ^ n * (c / 2 ^ n)) := by
  apply Nat.eq_of_testBit_eq
  intro i
  rw [Nat.testBit_xor, Nat.testBit_mod_two_pow, Nat.testBit_two_pow_mul, Nat.testBit_div_two_pow]
  by_cases h : i < n
  · simp [h, Nat.not_le.2 h]
  · simp [h, Nat.le_of_not_lt h]
theorem it_split (n c : Nat) : it n c = it n (c % 2 ^ n) ^^^ c / 2 ^ n := by
  conv => lhs; rw [split_xor n c]
  rw [it_xor, it_shift]
theorem it8 (c x : Nat) (hx : x < 256) : it 8 (c % 256 ^^^ x) ^^^ c / 256 = it 8 (c ^^^ x) := by
  have e1 : (c ^^^ x) % 2 ^ 8 = c % 256 ^^^ x := by
    rw [Nat.xor_mod_two_pow]; congr 1; exact Nat.mod_eq_of_lt hx
  have e2 : (c ^^^ x) / 2 ^ 8 = c / 256 := by
    rw [Nat.xor_div_two_pow, show x / 2 ^ 8 = 0 by omega, Nat.xor_zero]
  rw [it_split 8 (c ^^^ x), e1, e2]

def byteStep (c x : Nat) : Nat := it 8 (c ^^^ x)
def reg (c : Nat) (l : List Nat) : Nat := l.foldl byteStep c
def num : List Nat → Nat
  | [] => 0
  | x :: l => x ^^^ 256 * num l
theorem mul_xor (n a b : Nat) : 2 ^ n * (a ^^^ b) = 2 ^ n * a ^^^ 2 ^ n * b := by
  apply Nat.eq_of_testBit_eq
  intro i
  rw [Nat.testBit_xor, Nat.testBit_two_pow_mul, Nat.testBit_two_pow_mul, Nat.testBit_two_pow_mul, Nat.testBit_xor]
  by_cases h : n ≤ i <;> simp [h]
theorem reg_num : ∀ (l : List Nat) (c : Nat), reg c l = it (8 * l.length) (c ^^^ num l)
  | [], c => by simp [reg, num, it]
  | x :: l, c => by
    have ih := reg_num l (byteStep c x)
    simp only [reg, List.foldl_cons] at ih ⊢
    rw [ih]
    simp only [num, List.length_cons, byteStep]
    rw [show 8 * (l.length + 1) = 8 + 8 * l.length by omega, it_add]
    congr 1
    rw [← Nat.xor_assoc, it_xor 8 (c ^^^ x), show 256 * num l = 2 ^ 8 * num l from rfl, it_shift]
theorem reg_append (c : Nat) (l m : List Nat) : reg c (l ++ m) = reg (reg c l) m := List.foldl_append
theorem reg_lt : ∀ (l : List Nat) (c : Nat), c < 4294967296 → (∀ x ∈ l, x < 256) → reg c l < 4294967296
  | [], c, h, _ => h
  | x :: l, c, h, hl => reg_lt l _ (it_lt 8 (Nat.xor_lt_two_pow (n := 32) h (by have := hl x (by simp); omega))) (fun y hy => hl y (by simp [hy]))
theorem num_lt : ∀ (l : List Nat), (∀ x ∈ l, x < 256) → num l < 2 ^ (8 * l.length)
  | [], _ => by simp [num]
  | x :: l, h => by
    have ih := num_lt l (fun y hy => h y (by simp [hy]))
    simp only [num, List.length_cons]
    have hx := h x (by simp)
    have e : 2 ^ (8 * (l.length + 1)) = 256 * 2 ^ (8 * l.length) := by rw [show 8 * (l.length + 1) = 8 * l.length + 8 by omega, Nat.pow_add]; omega
    have p : 1 ≤ 2 ^ (8 * l.length) := Nat.one_le_two_pow
    refine Nat.xor_lt_two_pow ?_ ?_ <;> rw [e] <;> omega
theorem num_set : ∀ (l : List Nat) (j r : Nat), j < l.length → num (l.set j (l.getD j 0 ^^^ 2 ^ r)) = num l ^^^ 2 ^ (8 * j + r)
  | [], j, r, h => by simp at h
  | x :: l, 0, r, _ => by simp only [List.set_cons_zero, List.getD_cons_zero, num]; rw [show 8 * 0 + r = r by omega]; ac_rfl
  | x :: l, j + 1, r, h => by
    have ih := num_set l j r (by simpa using h)
    simp only [List.set_cons_succ, List.getD_cons_succ, num]
    rw [ih, show (256 : Nat) = 2 ^ 8 from rfl, mul_xor, show 8 * (j + 1) + r = 8 + (8 * j + r) by omega, Nat.pow_add 2 8]
    ac_rfl
/-- Frames of one length whose numbers differ by a burst of up to 32 bits have other registers. -/
theorem burst (c : Nat) (l m : List Nat) (hlen : l.length = m.length) (t at_ : Nat) (ht : t < 4294967296) (h0 : t ≠ 0) (hat : at_ + 32 ≤ 8 * l.length) (hd : num m = num l ^^^ 2 ^ at_ * t) : reg c l ≠ reg c m := by
  intro h
  rw [reg_num, reg_num, ← hlen, hd] at h
  have e : it (8 * l.length) (2 ^ at_ * t) = 0 := by
    have e2 : it (8 * l.length) (c ^^^ (num l ^^^ 2 ^ at_ * t)) = it (8 * l.length) (c ^^^ num l) ^^^ it (8 * l.length) (2 ^ at_ * t) := by rw [← it_xor]; congr 1; ac_rfl
    rw [e2] at h
    have h3 := congrArg (it (8 * l.length) (c ^^^ num l) ^^^ ·) h
    simp only [Nat.xor_self] at h3
    rw [← Nat.xor_assoc, Nat.xor_self, Nat.zero_xor] at h3
    exact h3.symm
  rw [show 8 * l.length = at_ + (8 * l.length - at_) by omega, it_add, it_shift] at e
  exact h0 (it_zero _ ht e)
/-- Texts of one length that differ in one byte alone have other registers. -/
theorem one_byte (c : Nat) (hc : c < 4294967296) : ∀ (l : List Nat) (j x : Nat), j < l.length → (∀ y ∈ l, y < 256) → x < 256 → reg c (l.set j x) = reg c l → x = l.getD j 0 := by
  intro l j x hj hl hx h
  have e := List.take_append_drop j l
  have hd : l.drop j = l.getD j 0 :: l.drop (j + 1) := by
    rw [List.drop_eq_getElem_cons hj]; simp [List.getD, hj]
  have es : l.set j x = l.take j ++ x :: l.drop (j + 1) := by
    rw [List.set_eq_take_append_cons_drop]; simp [hj]
  have h1 : reg c l = reg (byteStep (reg c (l.take j)) (l.getD j 0)) (l.drop (j + 1)) := by
    conv => lhs; rw [← e, hd, reg_append]
    rfl
  have h2 : reg c (l.set j x) = reg (byteStep (reg c (l.take j)) x) (l.drop (j + 1)) := by rw [es, reg_append]; rfl
  rw [h1, h2, reg_num (l.drop (j + 1)) (byteStep _ x), reg_num (l.drop (j + 1))] at h
  have hr := reg_lt (l.take j) c hc (fun y hy => hl y (List.mem_of_mem_take hy))
  have hy : l.getD j 0 < 256 := by simp only [List.getD, List.getElem?_eq_getElem hj, Option.getD_some]; exact hl _ (List.getElem_mem hj)
  have b1 : byteStep (reg c (l.take j)) x < 4294967296 := it_lt 8 (Nat.xor_lt_two_pow (n := 32) hr (by omega))
  have b2 : byteStep (reg c (l.take j)) (l.getD j 0) < 4294967296 := it_lt 8 (Nat.xor_lt_two_pow (n := 32) hr (by omega))
  rw [it_xor, it_xor] at h
  have h' := congrArg (· ^^^ it (8 * (l.drop (j + 1)).length) (num (l.drop (j + 1)))) h
  simp only [Nat.xor_assoc, Nat.xor_self, Nat.xor_zero] at h'
  have h4 := it_inj _ b1 b2 h'
  have h5 := it_inj 8 (Nat.xor_lt_two_pow (n := 32) hr (by omega)) (Nat.xor_lt_two_pow (n := 32) hr (by omega)) h4
  have h6 := congrArg (reg c (l.take j) ^^^ ·) h5
  simpa [← Nat.xor_assoc] using h6
def xor3 : List Nat → List Nat → List Nat → List Nat
  | a :: as, b :: bs, c :: cs => (a ^^^ b ^^^ c) :: xor3 as bs cs
  | _, _, _ => []
theorem reg_xor3 : ∀ (as bs cs : List Nat) (p q r : Nat), as.length = bs.length → bs.length = cs.length → reg (p ^^^ q ^^^ r) (xor3 as bs cs) = reg p as ^^^ reg q bs ^^^ reg r cs
  | [], [], [], p, q, r, _, _ => rfl
  | a :: as, b :: bs, c :: cs, p, q, r, h1, h2 => by
    have ih := reg_xor3 as bs cs (byteStep p a) (byteStep q b) (byteStep r c) (by simpa using h1) (by simpa using h2)
    simp only [xor3, reg, List.foldl_cons] at ih ⊢
    rw [← ih]
    congr 1
    simp only [byteStep]
    rw [← it_xor, ← it_xor]
    congr 1
    ac_rfl
end Go.Proofs.Ytfjcehjdendjnaa.CT
