/- Of three texts as long as one another the sums, put together bit by bit, are the sum of the texts put together so; for all lists of bytes. -/
import Derived.Test.YtfjcehjdendjnaaHThree
import Derived.Test.YtfjcehjdendjnaaCtC
set_option linter.unusedVariables false
set_option linter.unusedSimpArgs false
namespace Go.Proofs.Ytfjcehjdendjnaa.Pure
open Go.RowKit Go.Proofs.Ytfjcehjdendjnaa.PA Go.Proofs.YtfjcehjdendjnaaW.PrintWords Go.Proofs.YtfjcehjdendjnaaW.PrintLast Go.Proofs.Ytfjcehjdendjnaa.CT

/-- The text that the law makes. -/
def x3 (a b c : List Int) (i : Nat) : List Int := (List.range i).map fun j => ((a.getD j 0).toNat ^^^ (b.getD j 0).toNat ^^^ (c.getD j 0).toNat : Nat)
theorem x3_length (a b c : List Int) (i : Nat) : (x3 a b c i).length = i := by simp [x3]
theorem xor_lt8 (p q r : Nat) (hp : p < 256) (hq : q < 256) (hr : r < 256) : p ^^^ q ^^^ r < 256 := Nat.xor_lt_two_pow (n := 8) (Nat.xor_lt_two_pow (n := 8) hp hq) hr
theorem getD_lt {a : List Int} (ha : Bytes a) (j : Nat) : (a.getD j 0).toNat < 256 := by
  rw [List.getD_eq_getElem?_getD]
  by_cases h : j < a.length
  · rw [List.getElem?_eq_getElem h]
    have := ha _ (List.getElem_mem h)
    simp only [Option.getD_some]
    omega
  · rw [List.getElem?_eq_none (by omega)]; decide
theorem x3_bytes {a b c : List Int} (ha : Bytes a) (hb : Bytes b) (hc : Bytes c) (i : Nat) : Bytes (x3 a b c i) := by
  intro y hy
  obtain ⟨j, _, rfl⟩ := List.mem_map.1 hy
  have := xor_lt8 _ _ _ (getD_lt ha j) (getD_lt hb j) (getD_lt hc j)
  exact ⟨Int.natCast_nonneg _, Int.ofNat_lt.2 this⟩
theorem x3_succ (a b c : List Int) (i : Nat) : x3 a b c (i + 1) = x3 a b c i ++ [(((a.getD i 0).toNat ^^^ (b.getD i 0).toNat ^^^ (c.getD i 0).toNat : Nat) : Int)] := by
  simp [x3, List.range_succ]
theorem rd_getD (a : List Int) (i : Nat) : rd a (i : Int) = a.getD i 0 := by unfold rd; rw [Int.toNat_natCast]
theorem getD_toNat {a : List Int} (ha : Bytes a) (i : Nat) : a.getD i 0 = (((a.getD i 0).toNat : Nat) : Int) := by
  rw [List.getD_eq_getElem?_getD]
  by_cases h : i < a.length
  · rw [List.getElem?_eq_getElem h]
    have := (ha _ (List.getElem_mem h)).1
    simp only [Option.getD_some]
    omega
  · rw [List.getElem?_eq_none (by omega)]; rfl
theorem xor3_x3 : ∀ (n : Nat) (a b c : List Int), n ≤ a.length → n ≤ b.length → n ≤ c.length → nn (x3 a b c n) = xor3 (nn (a.take n)) (nn (b.take n)) (nn (c.take n))
  | 0, _, _, _, _, _, _ => by simp [x3, nn, xor3]
  | n + 1, [], _, _, h, _, _ => by simp at h
  | n + 1, _ :: _, [], _, _, h, _ => by simp at h
  | n + 1, _ :: _, _ :: _, [], _, _, h => by simp at h
  | n + 1, x :: a, y :: b, z :: c, h1, h2, h3 => by
    have ih := xor3_x3 n a b c (by simpa using h1) (by simpa using h2) (by simpa using h3)
    have e : x3 (x :: a) (y :: b) (z :: c) (n + 1) = ((x.toNat ^^^ y.toNat ^^^ z.toNat : Nat) : Int) :: x3 a b c n := by
      simp only [x3, List.range_succ_eq_map, List.map_cons, List.map_map, List.getD_cons_zero]
      rfl
    rw [e]
    simp only [nn, List.map_cons, List.take_succ_cons, xor3, Int.toNat_natCast] at ih ⊢
    rw [ih]
theorem sum_three (a b c : List Int) (n : Nat) (h1 : n ≤ a.length) (h2 : n ≤ b.length) (h3 : n ≤ c.length) : sumN (a.take n) ^^^ sumN (b.take n) ^^^ sumN (c.take n) = sumN (x3 a b c n) := by
  unfold sumN
  rw [xor3_x3 n a b c h1 h2 h3]
  have := reg_xor3 (nn (a.take n)) (nn (b.take n)) (nn (c.take n)) 4294967295 4294967295 4294967295 (by simp [nn]; omega) (by simp [nn]; omega)
  rw [show 4294967295 ^^^ 4294967295 ^^^ 4294967295 = 4294967295 by decide] at this
  rw [this]
  have e : ∀ f p q r : Nat, f ^^^ p ^^^ (f ^^^ q) ^^^ (f ^^^ r) = f ^^^ (p ^^^ q ^^^ r) := by
    intro f p q r
    have : f ^^^ p ^^^ (f ^^^ q) ^^^ (f ^^^ r) = (f ^^^ f) ^^^ (f ^^^ (p ^^^ q ^^^ r)) := by ac_rfl
    rw [this, Nat.xor_self, Nat.zero_xor]
  exact e _ _ _ _
theorem three_turn (k : Nat) (a b c : List Int) (ha : Bytes a) (hb : Bytes b) (hc : Bytes c) (n i : Nat) (hi : i < n) (hn : n ≤ 5000) (h1 : n ≤ a.length) (h2 : n ≤ b.length) (h3 : n ≤ c.length) :
    squelchlaw02_CrcThree.l0 (k + 1) a b c true (n : Int) (x3 a b c i) (n : Int) (i : Int) = squelchlaw02_CrcThree.l0 k a b c true (n : Int) (x3 a b c (i + 1)) (n : Int) ((i + 1 : Nat) : Int) := by
  have c1 : (i : Int) < (n : Int) := by omega
  have c2 : (i : Int) < (a.length : Int) := by omega
  have c3 : (i : Int) < (b.length : Int) := by omega
  have c4 : (i : Int) < (c.length : Int) := by omega
  have c5 : (x3 a b c i).length < 140737488355328 := by rw [x3_length]; omega
  have w1 : wrap64 ((i : Int) + 1) = ((i + 1 : Nat) : Int) := w64' ((i + 1 : Nat) : Int) (by omega) (by omega)
  have e1 : Go.bits .xor .u8 (Go.bits .xor .u8 (rd a (i : Int)) (rd b (i : Int))) (rd c (i : Int)) = (((a.getD i 0).toNat ^^^ (b.getD i 0).toNat ^^^ (c.getD i 0).toNat : Nat) : Int) := by
    rw [rd_getD, rd_getD, rd_getD]
    conv => lhs; rw [getD_toNat ha i, getD_toNat hb i, getD_toNat hc i]
    rw [xor8 _ _ (getD_lt ha i) (getD_lt hb i), xor8 _ _ (Nat.xor_lt_two_pow (n := 8) (getD_lt ha i) (getD_lt hb i)) (getD_lt hc i)]
  rw [squelchlaw02_CrcThree.l0, if_pos c1, if_pos (Int.natCast_nonneg i), if_pos c2, if_pos c3, if_pos c4, if_pos c5, e1, w1, x3_succ]
theorem three_end (k : Nat) (a b c : List Int) (ha : Bytes a) (hb : Bytes b) (hc : Bytes c) (n : Nat) (hn : n ≤ 5000) (h1 : n ≤ a.length) (h2 : n ≤ b.length) (h3 : n ≤ c.length) :
    squelchlaw02_CrcThree.l0 (k + 1) a b c true (n : Int) (x3 a b c n) (n : Int) (n : Int) = some true := by
  have c1 : ¬ (n : Int) < (n : Int) := by omega
  have c2 : (n : Int) ≤ (a.length : Int) := by omega
  have c3 : (n : Int) ≤ (b.length : Int) := by omega
  have c4 : (n : Int) ≤ (c.length : Int) := by omega
  have s1 := crc_sum1 (a.take n) (by rw [List.length_take]; omega) (bytes_take n ha)
  have s2 := crc_sum1 (b.take n) (by rw [List.length_take]; omega) (bytes_take n hb)
  have s3 := crc_sum1 (c.take n) (by rw [List.length_take]; omega) (bytes_take n hc)
  have s4 := crc_sum1 (x3 a b c n) (by rw [x3_length]; omega) (x3_bytes ha hb hc n)
  have l1 := sumN_lt _ (bytes_take n ha)
  have l2 := sumN_lt _ (bytes_take n hb)
  have l3 := sumN_lt _ (bytes_take n hc)
  rw [squelchlaw02_CrcThree.l0, if_neg c1, if_pos rfl, if_pos (Int.natCast_nonneg n), if_pos c2, Int.toNat_natCast, s1, Option.bind_some, if_pos c3, s2, Option.bind_some, if_pos c4, s3, Option.bind_some, s4, Option.bind_some, xor32 _ _ l1 l2, xor32 _ _ (Nat.xor_lt_two_pow (n := 32) l1 l2) l3, sum_three a b c n h1 h2 h3]
  simp
theorem three_l0 (a b c : List Int) (ha : Bytes a) (hb : Bytes b) (hc : Bytes c) (n : Nat) (hn : n ≤ 5000) (h1 : n ≤ a.length) (h2 : n ≤ b.length) (h3 : n ≤ c.length) (d : Nat) :
    ∀ i : Nat, i + d = n → Ev (fun k => squelchlaw02_CrcThree.l0 k a b c true (n : Int) (x3 a b c i) (n : Int) (i : Int)) true := by
  induction d with
  | zero =>
    intro i hi
    obtain rfl : i = n := by omega
    exact Ev.step (f := fun _ => some true) (fun k => three_end k a b c ha hb hc i hn h1 h2 h3) (Ev.now _)
  | succ d ih =>
    intro i hi
    exact Ev.step (fun k => three_turn k a b c ha hb hc n i (by omega) hn h1 h2 h3) (ih (i + 1) (by omega))
theorem CrcThree : squelchlaw02_CrcThree.Pure := by
  intro l0 l1 l2 g0 g1 g2
  have ha : Bytes l0 := fun y hy => wf8 (g0.2.2 y hy)
  have hb : Bytes l1 := fun y hy => wf8 (g1.2.2 y hy)
  have hc : Bytes l2 := fun y hy => wf8 (g2.2.2 y hy)
  refine Ev.rounds ?_
  simp only [squelchlaw02_CrcThree.f, live_true, Option.bind_some, if_true]
  obtain ⟨n, hn⟩ : ∃ n : Nat, mn (mn (l0.length : Int) (l1.length : Int)) (l2.length : Int) = (n : Int) := by
    refine ⟨(mn (mn (l0.length : Int) (l1.length : Int)) (l2.length : Int)).toNat, (Int.toNat_of_nonneg ?_).symm⟩
    unfold mn
    (repeat' split) <;> omega
  have hle : n ≤ l0.length ∧ n ≤ l1.length ∧ n ≤ l2.length := by
    unfold mn at hn
    (repeat' split at hn) <;> omega
  rw [hn]
  by_cases hbig : (n : Int) > 5000
  · simp only [if_pos hbig]; exact Ev.now _
  · simp only [if_neg hbig]
    have := three_l0 l0 l1 l2 ha hb hc n (by omega) hle.1 hle.2.1 hle.2.2 n 0 (by omega)
    simpa [x3] using this

end Go.Proofs.Ytfjcehjdendjnaa.Pure
