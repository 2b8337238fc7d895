/- A frame in which one up to 32 bits beside one another were turned is told as spoilt; what was sealed is opened; for every list of bytes, place and pattern. -/
import Derived.Test.YtfjcehjdendjnaaPAx7
import Derived.Test.YtfjcehjdendjnaaCtC
set_option linter.unusedVariables false
set_option linter.unusedSimpArgs false
namespace Go.Proofs.Ytfjcehjdendjnaa.Pure
open Go.RowKit Go.Proofs.Ytfjcehjdendjnaa.PA Go.Proofs.YtfjcehjdendjnaaW.PrintWords Go.Proofs.YtfjcehjdendjnaaW.PrintLast Go.Proofs.Ytfjcehjdendjnaa.CT

theorem open_sealB (b : List Int) (hl : b.length ≤ 65536) : openS (b ++ tl b) = (b, 0) := by
  unfold openS
  have e : (b ++ tl b).length - 4 = b.length := by simp [tl_length]
  rw [if_neg (by simp [tl_length]), e, if_neg (by omega), List.take_left' rfl, List.drop_left' rfl, if_pos rfl]
/-- The bits of a pattern that have been turned so far. -/
def low (t i : Nat) : Nat := t % 2 ^ i
theorem low_step (t i : Nat) : low t (i + 1) = low t i ^^^ (2 ^ i * ((t / 2 ^ i) % 2)) := by
  unfold low
  apply Nat.eq_of_testBit_eq
  intro j
  rw [Nat.testBit_xor, Nat.testBit_mod_two_pow, Nat.testBit_mod_two_pow, Nat.testBit_two_pow_mul]
  by_cases h1 : j < i
  · simp [h1, show j < i + 1 by omega, show ¬ i ≤ j by omega]
  · by_cases h2 : j = i
    · subst h2
      simp [Nat.testBit_zero, Nat.testBit_eq_decide_div_mod_eq]
    · have h3 : j - i ≠ 0 := by omega
      have : ((t / 2 ^ i) % 2).testBit (j - i) = false := by
        rw [show (2 : Nat) = 2 ^ 1 from rfl, Nat.testBit_mod_two_pow]; simp; omega
      simp [h1, this, show ¬ j < i + 1 by omega]
theorem shr32 (t i : Nat) (hi : i < 32) : shr .u32 (t : Int) (i : Int) = ((t / 2 ^ i : Nat) : Int) := by
  unfold shr
  rw [show min (i : Int).toNat IntKind.u32.bits = i by rw [Int.toNat_natCast]; show min i 32 = i; omega]
  simp
theorem shl8 (i : Nat) (hi : i < 8) : shl .u8 1 (i : Int) = ((2 ^ i : Nat) : Int) := by
  have : ∀ i : Fin 8, shl .u8 1 (((i.val : Nat) : Int)) = ((2 ^ i.val : Nat) : Int) := by decide
  exact this ⟨i, hi⟩
theorem u64w (x : Int) (h0 : 0 ≤ x) (h1 : x < 18446744073709551616) : IntKind.u64.wrap x = x := by
  have : IntKind.u64.wrap x = x % 18446744073709551616 := by simp [IntKind.wrap, IntKind.bits, IntKind.signed]
  rw [this]; omega
theorem nn_set (l : List Int) (j : Nat) (x : Int) : nn (l.set j x) = (nn l).set j x.toNat := by simp [nn, List.map_set]
theorem nn_get (l : List Int) (j : Nat) (h : j < l.length) : (nn l).getD j 0 = l[j].toNat := by simp [nn, h]
theorem turn_words (n at_ i : Nat) (hlen : n ≤ 6000) (hi : i < 32) (hat : at_ + 32 ≤ 8 * n) :
    IntKind.u64.wrap (i : Int) = (i : Int) ∧ wrap64 ((at_ : Int) + (i : Int)) = ((at_ + i : Nat) : Int) ∧ wrap64 (Int.tdiv ((at_ + i : Nat) : Int) 8) = (((at_ + i) / 8 : Nat) : Int) ∧
      IntKind.u64.wrap (Int.tmod ((at_ + i : Nat) : Int) 8) = (((at_ + i) % 8 : Nat) : Int) ∧ wrap64 ((i : Int) + 1) = ((i + 1 : Nat) : Int) ∧ (i : Int) < 32 ∧ (0 : Int) ≤ (i : Int) ∧ (0 : Int) ≤ (((at_ + i) / 8 : Nat) : Int) ∧ (((at_ + i) / 8 : Nat) : Int) < (n : Int) ∧ (0 : Int) ≤ (((at_ + i) % 8 : Nat) : Int) ∧ (at_ + i) / 8 < n := by
  have e : Int.tdiv ((at_ + i : Nat) : Int) 8 = (((at_ + i) / 8 : Nat) : Int) := by rw [Int.tdiv_eq_ediv_of_nonneg (Int.natCast_nonneg (at_ + i))]; rfl
  have e' : Int.tmod ((at_ + i : Nat) : Int) 8 = (((at_ + i) % 8 : Nat) : Int) := by rw [Int.tmod_eq_emod_of_nonneg (Int.natCast_nonneg (at_ + i))]; rfl
  rw [e, e']
  clear e e'
  refine ⟨u64w (i : Int) (by omega) (by omega), w64' ((at_ + i : Nat) : Int) (by omega) (by omega), w64' (((at_ + i) / 8 : Nat) : Int) (by omega) (by omega), u64w (((at_ + i) % 8 : Nat) : Int) (by omega) (by omega), w64' ((i + 1 : Nat) : Int) (by omega) (by omega), by omega, by omega, by omega, by omega, by omega, by omega⟩
/-- One round in which a bit is turned. -/
theorem bursts_turn (k : Nat) (p : List Int) (at_ t i x y : Nat) (q : Nat) (hlen : p.length ≤ 6000) (hi : i < 32) (hat : at_ + 32 ≤ 8 * p.length) (hq : shr .u32 (t : Int) (i : Int) = (q : Int)) (hql : q < 4294967296) (hq1 : q % 2 = 1)
    (hj : (at_ + i) / 8 < p.length) (hxx : p[(at_ + i) / 8] = (x : Int)) (hx : x < 256) (hy : shl .u8 1 (((at_ + i) % 8 : Nat) : Int) = (y : Int)) (hyl : y < 256) :
    squelchlaw02_CrcBursts.l0 (k + 1) (at_ : Int) (t : Int) true p (i : Int) = squelchlaw02_CrcBursts.l0 k (at_ : Int) (t : Int) true (p.set ((at_ + i) / 8) ((x ^^^ y : Nat) : Int)) ((i + 1 : Nat) : Int) := by
  obtain ⟨e1, w1, w2, w3, w4, c1, c2, c3, c4, c5, c6⟩ := turn_words p.length at_ i hlen hi hat
  have cq : ((q % 2 : Nat) : Int) = 1 := by rw [hq1]; rfl
  rw [squelchlaw02_CrcBursts.l0, if_pos c1, e1, if_pos c2, hq, and1 _ hql, if_pos cq, w1, w2, if_pos c3, if_pos c4, w3, if_pos c5, rd_get p _ hj, hxx, hy, xor8 x _ hx hyl, w4, Int.toNat_natCast]
theorem bursts_skip (k : Nat) (p : List Int) (at_ t i : Nat) (q : Nat) (hi : i < 32) (hq : shr .u32 (t : Int) (i : Int) = (q : Int)) (hql : q < 4294967296) (hq1 : q % 2 = 0) :
    squelchlaw02_CrcBursts.l0 (k + 1) (at_ : Int) (t : Int) true p (i : Int) = squelchlaw02_CrcBursts.l0 k (at_ : Int) (t : Int) true p ((i + 1 : Nat) : Int) := by
  obtain ⟨e1, _, _, _, w4, c1, c2, _⟩ := turn_words 100 0 i (by decide) hi (by decide)
  have cq : ¬ ((q % 2 : Nat) : Int) = 1 := by rw [hq1]; decide
  rw [squelchlaw02_CrcBursts.l0, if_pos c1, e1, if_pos c2, hq, and1 _ hql, if_neg cq, w4]
theorem pow8 (r : Nat) (h : r < 8) : 2 ^ r < 256 := Nat.lt_of_lt_of_le (Nat.pow_lt_pow_right (by decide) h) (by decide)
theorem num_turn (p : List Int) (p0n at_ t i x : Nat) (hj : (at_ + i) / 8 < p.length) (hxx : p[(at_ + i) / 8] = (x : Int)) (hn : num (nn p) = p0n ^^^ 2 ^ at_ * low t i) (hb : (t / 2 ^ i) % 2 = 1) :
    num (nn (p.set ((at_ + i) / 8) ((x ^^^ 2 ^ ((at_ + i) % 8) : Nat) : Int))) = p0n ^^^ 2 ^ at_ * low t (i + 1) := by
  have e4 := num_set (nn p) ((at_ + i) / 8) ((at_ + i) % 8) (by simpa [nn] using hj)
  have e5 : (nn p).getD ((at_ + i) / 8) 0 = x := by rw [nn_get p _ hj, hxx]; rfl
  have e6 : 8 * ((at_ + i) / 8) + (at_ + i) % 8 = at_ + i := Nat.div_add_mod _ _
  rw [e5, e6] at e4
  rw [nn_set, Int.toNat_natCast, e4, hn, low_step t i, hb, mul_xor, Nat.pow_add, Nat.mul_one, Nat.xor_assoc]
theorem num_still (p0n at_ t i n : Nat) (hn : n = p0n ^^^ 2 ^ at_ * low t i) (hb : (t / 2 ^ i) % 2 = 0) : n = p0n ^^^ 2 ^ at_ * low t (i + 1) := by
  rw [hn, low_step t i, hb, Nat.mul_zero, Nat.xor_zero]
theorem low_all (t : Nat) (ht : t < 4294967296) : low t 32 = t := Nat.mod_eq_of_lt (by simpa using ht)
/-- The loop: bit by bit, the frame's number is the old one with the pattern's bits turned. -/
theorem bursts_l0 (p0 : List Int) (hp0 : p0.length ≤ 6000) (at_ t : Nat) (ht : t < 4294967296) (hat : at_ + 32 ≤ 8 * p0.length) (p0n : Nat)
    (fin : ∀ p : List Int, Bytes p → p.length = p0.length → num (nn p) = p0n ^^^ 2 ^ at_ * t → Ev (fun k => (crc_Open.f k p).bind fun bt269 => if true = true then some (bt269.2 == 30) else some false) true) (d : Nat) :
    ∀ (i : Nat) (p : List Int), i + d = 32 → Bytes p → p.length = p0.length → Aside0 (num (nn p) = p0n ^^^ 2 ^ at_ * low t i) → Ev (fun k => squelchlaw02_CrcBursts.l0 k (at_ : Int) (t : Int) true p (i : Int)) true := by
  induction d with
  | zero =>
    intro i p hi hp hl hn
    obtain rfl : i = 32 := by omega
    refine Ev.step (fun k => by rw [squelchlaw02_CrcBursts.l0, if_neg (by decide)]) (fin p hp hl ?_)
    have := hn.out
    rwa [low_all t ht] at this
  | succ d ih =>
    intro i p hi hp hl hn
    have hi32 : i < 32 := by omega
    have e2 : shr .u32 (t : Int) (i : Int) = ((t / 2 ^ i : Nat) : Int) := shr32 t i hi32
    have e3 : t / 2 ^ i < 4294967296 := Nat.lt_of_le_of_lt (Nat.div_le_self _ _) ht
    have hnext : i + 1 + d = 32 := by omega
    rcases Nat.mod_two_eq_zero_or_one (t / 2 ^ i) with hb | hb
    · exact Ev.step (fun k => bursts_skip k p at_ t i _ hi32 e2 e3 hb) (ih (i + 1) p hnext hp hl ⟨num_still _ _ _ _ _ hn.out hb⟩)
    · have hj : (at_ + i) / 8 < p.length := by clear hn fin e2 e3 hb ih; omega
      have hx := hp p[(at_ + i) / 8] (List.getElem_mem hj)
      obtain ⟨x, hxx⟩ := Int.eq_ofNat_of_zero_le hx.1
      have hx2 : x < 256 := by have := hx.2; rw [hxx] at this; clear hn fin e2 e3 hb ih; omega
      have hr : (at_ + i) % 8 < 8 := Nat.mod_lt _ (by decide)
      have hxl : x ^^^ 2 ^ ((at_ + i) % 8) < 256 := Nat.xor_lt_two_pow (n := 8) hx2 (pow8 _ hr)
      refine Ev.step (fun k => bursts_turn k p at_ t i x _ _ (by rw [hl]; exact hp0) hi32 (by rw [hl]; exact hat) e2 e3 hb hj hxx hx2 (shl8 _ hr) (pow8 _ hr)) (ih (i + 1) _ hnext ?_ (by rw [List.length_set]; exact hl) ⟨num_turn p p0n at_ t i x hj hxx hn.out hb⟩)
      exact bytes_set hp _ _ (Int.natCast_nonneg _) (Int.ofNat_lt.2 hxl)
theorem num_append : ∀ (l m : List Nat), num (l ++ m) = num l ^^^ 2 ^ (8 * l.length) * num m
  | [], m => by simp [num]
  | x :: l, m => by
    have ih := num_append l m
    simp only [List.cons_append, num, List.length_cons]
    rw [ih, show (256 : Nat) = 2 ^ 8 from rfl, mul_xor, show 8 * (l.length + 1) = 8 + 8 * l.length by omega, Nat.pow_add 2 8, Nat.mul_assoc]
    ac_rfl
/-- A sum's bytes, as a number, are the sum. -/
theorem num_tlI (s : Nat) (h : s < 4294967296) : num (nn (tlI (s : Int))) = s := by
  have e1 : nn (tlI (s : Int)) = [s % 256, s / 256 % 256, s / 65536 % 256, s / 16777216 % 256] := by
    simp only [nn, tlI, List.map_cons, List.map_nil]
    rw [show ((s : Int) % 256).toNat = s % 256 by omega, show ((s : Int) / 256 % 256).toNat = s / 256 % 256 by omega, show ((s : Int) / 65536 % 256).toNat = s / 65536 % 256 by omega, show ((s : Int) / 16777216 % 256).toNat = s / 16777216 % 256 by omega]
  rw [e1]
  simp only [num, Nat.mul_zero, Nat.xor_zero]
  have h4 : s / 16777216 % 256 = s / 16777216 := by omega
  have s3 := split_xor 8 (s / 65536)
  have s2 := split_xor 8 (s / 256)
  have s1 := split_xor 8 s
  simp only [show 2 ^ 8 = 256 from rfl, Nat.div_div_eq_div_mul] at s1 s2 s3
  rw [h4]
  rw [show 65536 * 256 = 16777216 from rfl] at s3
  rw [show 256 * 256 = 65536 from rfl] at s2
  rw [← s3, ← s2, ← s1]
/-- What a frame's register comes to. -/
theorem reg_frame (b t : List Int) (hb : Bytes b) (htl : t.length = 4) (ht : num (nn t) = sumN b) : reg 4294967295 (nn (b ++ t)) = it 32 4294967295 := by
  have e : nn (b ++ t) = nn b ++ nn t := by simp [nn]
  rw [e, reg_append, reg_num (nn t), show (nn t).length = 4 by simp [nn, htl], ht]
  unfold sumN
  rw [Nat.xor_comm 4294967295, ← Nat.xor_assoc, Nat.xor_self, Nat.zero_xor]

theorem CrcBursts : squelchlaw02_CrcBursts.Pure := by
  intro l0 a1 a2 h0 h1 h2
  obtain ⟨hl, _, hb0⟩ := h0
  have hb : Bytes l0 := fun y hy => wf8 (hb0 y hy)
  have h2' : 0 ≤ a2 ∧ a2 < 4294967296 := by
    simp [Lit.wf] at h2
    have h1 : IntKind.u32.min = 0 := rfl
    have h3 : IntKind.u32.max = 4294967295 := rfl
    omega
  obtain ⟨w1, w2⟩ : -9223372036854775808 ≤ a1 ∧ a1 ≤ 9223372036854775807 := by
    simp [Lit.wf] at h1
    have h1' : IntKind.i64.min = -9223372036854775808 := rfl
    have h2' : IntKind.i64.max = 9223372036854775807 := rfl
    omega
  refine Ev.rounds ?_
  simp only [squelchlaw02_CrcBursts.f, live_true, Option.bind_some, if_true]
  by_cases hbig : (l0.length : Int) > 5000
  · simp only [if_pos hbig]; exact Ev.now _
  simp only [if_neg hbig]
  have hlen : l0.length ≤ 5000 := by omega
  have hseal : sealS l0 = (l0 ++ tl l0, 0) := by unfold sealS; rw [if_neg (by omega)]
  refine Ev.bind (a := (l0 ++ tl l0, 0)) (hseal ▸ seal_ev l0 hb) ?_
  have hpl : (l0 ++ tl l0).length = l0.length + 4 := by simp [tl_length]
  have hpb := bytes_append hb (tl_bytes l0)
  refine Ev.bind (a := (l0, 0)) ((open_sealB l0 (by omega)) ▸ open_ev (l0 ++ tl l0) hpb (by omega)) ?_
  simp only [if_true, bne_self_eq_false]
  simp only [if_pos (show ((l0 ++ tl l0).length : Int) = wrap64 ((l0.length : Int) + 4) by rw [w64' ((l0.length : Int) + 4) (by omega) (by omega)]; omega)]
  by_cases hz : a2 = 0
  · exact Ev.step (f := fun _ => some true) (fun k => by rw [squelchlaw02_CrcBursts.j0, if_neg (by simp), if_pos hz]) (Ev.now _)
  obtain ⟨t, rfl⟩ := Int.eq_ofNat_of_zero_le h2'.1
  have e8 : wrap64 (wrap64 (8 * ((l0 ++ tl l0).length : Int)) - 31) = ((8 * l0.length + 1 : Nat) : Int) := by
    rw [w64' (8 * ((l0 ++ tl l0).length : Int)) (by omega) (by omega), w64' _ (by omega) (by omega)]; omega
  have hn : (0 : Int) < ((8 * l0.length + 1 : Nat) : Int) := by omega
  have t1 := Int.lt_tmod_of_pos a1 hn
  have t2 := Int.tmod_lt_of_pos a1 hn
  have hw : wrap64 (Int.tmod a1 ((8 * l0.length + 1 : Nat) : Int) + ((8 * l0.length + 1 : Nat) : Int)) = Int.tmod a1 ((8 * l0.length + 1 : Nat) : Int) + ((8 * l0.length + 1 : Nat) : Int) := w64' _ (by omega) (by omega)
  obtain ⟨j, hjj⟩ : ∃ j : Nat, Int.tmod (wrap64 (Int.tmod a1 ((8 * l0.length + 1 : Nat) : Int) + ((8 * l0.length + 1 : Nat) : Int))) ((8 * l0.length + 1 : Nat) : Int) = (j : Int) := by
    rw [hw]; exact ⟨_, (Int.toNat_of_nonneg (Int.tmod_nonneg _ (by omega))).symm⟩
  have hj : j < 8 * l0.length + 1 := by
    have := Int.tmod_lt_of_pos (wrap64 (Int.tmod a1 ((8 * l0.length + 1 : Nat) : Int) + ((8 * l0.length + 1 : Nat) : Int))) hn
    rw [hjj] at this
    omega
  have ht : t < 4294967296 := by omega
  have ht0 : t ≠ 0 := fun h => hz (by rw [h]; rfl)
  refine Ev.step (fun k => by rw [squelchlaw02_CrcBursts.j0, if_neg (by simp), if_neg hz, e8, if_neg (by omega), hjj]) ?_
  refine bursts_l0 (l0 ++ tl l0) (by omega) j t ht (by omega) (num (nn (l0 ++ tl l0))) ?_ 32 0 (l0 ++ tl l0) (by omega) hpb rfl ⟨by simp [low, Nat.mod_one]⟩
  intro p hp hplen hnum0
  have hnum := Aside0.mk hnum0
  clear hnum0
  have hol : p.length = l0.length + 4 := by omega
  refine Ev.bind (open_ev p hp (by omega)) ?_
  have hO : (openS p).2 = 30 := by
    unfold openS
    rw [if_neg (by omega), if_neg (by omega)]
    rw [if_neg]
    intro hd
    have e : p = p.take (p.length - 4) ++ p.drop (p.length - 4) := (List.take_append_drop _ _).symm
    have r1 := reg_frame (p.take (p.length - 4)) (p.drop (p.length - 4)) (bytes_take _ hp) (by simp; omega) (by rw [hd]; exact num_tlI _ (sumN_lt _ (bytes_take _ hp)))
    rw [← e] at r1
    have r2 := reg_frame l0 (tl l0) hb rfl (num_tlI _ (sumN_lt _ hb))
    refine burst 4294967295 (nn (l0 ++ tl l0)) (nn p) (by simp only [nn, List.length_map]; omega) t j ht ht0 (by simp only [nn, List.length_map]; omega) hnum.out ?_
    rw [r1, r2]
  simp only [if_true, hO]
  exact Ev.now _

end Go.Proofs.Ytfjcehjdendjnaa.Pure
