/- The contract of crc.Sum: the register over all bytes, by the list; walked by hand. -/
import Derived.Test.YtfjcehjdendjnaaHFill
namespace Go.Proofs.Ytfjcehjdendjnaa.PA
open Go.RowKit Go.Proofs.YtfjcehjdendjnaaW.PrintWords Go.Proofs.YtfjcehjdendjnaaW.PrintLast Go.Proofs.YtfjcehjdendjnaaW.PrintMore
set_option linter.unusedVariables false
set_option linter.unusedSimpArgs false

/-- A byte on the register. -/
def sumStep (c x : Int) : Int := Go.bits .xor .u32 (sh (Go.bits .xor .u8 (c % 256) x).toNat) (c / 256)
mutual
def sumr.l0 : Nat → Int → List (List Int) → Int → Int → Option (Int)
 | 0, _, _, _, _ => none
 | k + 1, x3, x8, x9, x10 => if x10 < x9 then (if 0 ≤ x10 then (if x10 < (x8.length : Int) then (sumr.l1 k x3 x8 x9 x10 (rd_L1 x8 x10) ((rd_L1 x8 x10).length : Int) 0) else (none)) else (none)) else (some (Go.bits .xor .u32 4294967295 x3))
def sumr.l1 : Nat → Int → List (List Int) → Int → Int → List Int → Int → Int → Option (Int)
 | 0, _, _, _, _, _, _, _ => none
 | k + 1, x3, x8, x9, x10, x14, x15, x16 => if x16 < x15 then (if 0 ≤ x16 then (if x16 < (x14.length : Int) then (sumr.l1 k (sumStep x3 (rd x14 x16)) x8 x9 x10 x14 x15 (wrap64 (x16 + 1))) else (none)) else (none)) else (sumr.l0 k x3 x8 x9 (wrap64 (x10 + 1)))
end
theorem xor8_range (a b : Int) : 0 ≤ Go.bits .xor .u8 a b ∧ Go.bits .xor .u8 a b < 256 := by
  show 0 ≤ IntKind.u8.wrap _ ∧ IntKind.u8.wrap _ < 256
  rw [IntKind.wrap_u8]
  omega

set_option maxHeartbeats 8000000 in
set_option maxRecDepth 100000 in
theorem sumr_calls (k : Nat) (A0 : Option Addr) (c0 : Nat) (l0 : List (List Int)) (r : Int) (w : World) (hr0 : Kd.C (Kd.slice 5 (Kd.int .u8)) w A0 l0.length l0) (hc0 : l0.length ≤ c0) (h : sumr.l0 k 4294967295 l0 (l0.length : Int) 0 = some r) :
    Calls Try.prog 10 #[.slice A0 l0.length c0] w fun e w' => e = .returned (.int .u32 r) ∧ Below w.heap.size w w' := by
 have hz : ∀ W : World, (zeroValue 51).run Try.prog W = .ok (.agg (cur 0 0 0 0)) W := by
  intro W
  have hi : (Try.prog.info? 51).map (fun i => i.zero) = some (some (.agg (cur 0 0 0 0))) := by kernel_rfl
  obtain ⟨i0, h1, h2⟩ := Option.map_eq_some_iff.1 hi
  simp [zeroValue, typeInfo, h1, h2]
 have H' := Aside0.mk h
 go_enter Try.func10, Try.ntmps10
 go_wp2_with (go_at_call 21; refine (tables_get w w.heap.size w.heap.size (Nat.le_refl _) _ (below_alloc (Below.refl _ _) _) (blk_new _ _)).mono ?_; rintro e w2 ⟨rfl, hB2, hG2⟩)
 have HR0 := Aside0.mk (Kd.C_below hr0 hB2)
 have HC0 := Aside0.mk hc0
 clear hr0 hc0 h
 (try simp only [Act.put, List.setIfInBounds_toArray, List.set_cons_zero, List.set_cons_succ])
 go_loopg [5, 13] k (fun kq v3 v10 w' => ∃ (x3_1 : Int) (x10_1 : Int), v3 = .int .u32 x3_1 ∧ v10 = .int .i64 x10_1 ∧ Aside0 (sumr.l0 kq x3_1 l0 (l0.length : Int) x10_1 = some r) ∧ Aside0 (kq ≤ k) ∧ w2 = w')
 case atStart => exact ⟨(4294967295), (0), (by first | rfl | (simp; done) | (simp [*]; done)), (by first | rfl | (simp; done) | (simp [*]; done)), H', ⟨Nat.le_refl _⟩, rfl⟩
 case round =>
  clear H'
  try clear c1
  obtain ⟨x3_1, x10_1, rfl, rfl, HA, HK1, rfl⟩ := hrel
  cases gk with
  | zero => exact absurd HA.out (by simp [sumr.l0])
  | succ k1 =>
   have H := HA.out
   clear HA
   simp only [sumr.l0] at H
   by_cases c2 : x10_1 < (l0.length : Int)
   ·rw [if_pos c2] at H
    have c2b0 : decide (x10_1 < (l0.length : Int)) = true := decide_eq_true c2
    clear c2
    by_cases c3 : 0 ≤ x10_1
    ·rw [if_pos c3] at H
     have c3b0 : decide (0 ≤ x10_1) = true := decide_eq_true c3
     clear c3
     by_cases c4 : x10_1 < (l0.length : Int)
     ·rw [if_pos c4] at H
      have c4b0 : decide (x10_1 < (l0.length : Int)) = true := decide_eq_true c4
      clear c4
      have H' := Aside0.mk H
      clear H
      have p192 : 0 ≤ (x10_1 : Int) := of_decide_eq_true (by first | (with_reducible assumption) | assumption)
      have q192 : x10_1 < (l0.length : Int) := of_decide_eq_true (by first | (with_reducible assumption) | assumption)
      obtain ⟨ad192, A192_0, c192_0, e192, hx192_0, hl192_0, hi192_0⟩ := at_L1 HR0.out x10_1 p192 q192
      cases e192
      have HR192_0 := Aside0.mk hi192_0
      have HC192_0 := Aside0.mk hl192_0
      clear hi192_0 hl192_0
      replace p192 := eq_true p192
      replace q192 := eq_true q192
      go_wp2
      (try simp only [Act.put, List.setIfInBounds_toArray, List.set_cons_zero, List.set_cons_succ])
      go_loopg [5, 19] k1 (fun kq v3 v16 w' => ∃ (x3_2 : Int) (x16_2 : Int), v3 = .int .u32 x3_2 ∧ v16 = .int .i64 x16_2 ∧ Aside0 (sumr.l1 kq x3_2 l0 (l0.length : Int) x10_1 (rd_L1 l0 x10_1) ((rd_L1 l0 x10_1).length : Int) x16_2 = some r) ∧ Aside0 (kq ≤ k1) ∧ w2 = w')
      case atStart => exact ⟨(x3_1), (0), (by first | rfl | (simp; done) | (simp [*]; done)), (by first | rfl | (simp; done) | (simp [*]; done)), H', ⟨Nat.le_refl _⟩, rfl⟩
      case round =>
       clear H'
       try clear c1
       try clear p1
       try clear q1
       try clear hx1
       try clear c2
       try clear c2b0
       try clear p2
       try clear c3
       try clear c3b0
       try clear c4
       try clear c4b0
       try clear hx192_0
       try clear p192
       try clear q192
       obtain ⟨x3_2, x16_2, rfl, rfl, HA, HK2, rfl⟩ := hrel
       cases gk with
       | zero => exact absurd HA.out (by simp [sumr.l1])
       | succ k2 =>
        have H := HA.out
        clear HA
        simp only [sumr.l1] at H
        by_cases c5 : x16_2 < ((rd_L1 l0 x10_1).length : Int)
        ·rw [if_pos c5] at H
         have c5b0 : decide (x16_2 < ((rd_L1 l0 x10_1).length : Int)) = true := decide_eq_true c5
         clear c5
         by_cases c6 : 0 ≤ x16_2
         ·rw [if_pos c6] at H
          have c6b0 : decide (0 ≤ x16_2) = true := decide_eq_true c6
          clear c6
          by_cases c7 : x16_2 < ((rd_L1 l0 x10_1).length : Int)
          ·rw [if_pos c7] at H
           have c7b0 : decide (x16_2 < ((rd_L1 l0 x10_1).length : Int)) = true := decide_eq_true c7
           clear c7
           have H' := Aside0.mk H
           clear H
           have p193 : 0 ≤ (x16_2 : Int) := of_decide_eq_true (by first | (with_reducible assumption) | assumption)
           have q193 : x16_2 < ((rd_L1 l0 x10_1).length : Int) := of_decide_eq_true (by first | (with_reducible assumption) | assumption)
           obtain ⟨ad193, e193, hx193_0⟩ := Kd.at_int HR192_0.out x16_2 p193 q193
           cases e193
           replace p193 := eq_true p193
           replace q193 := eq_true q193
           obtain ⟨px, qx⟩ := xor8_range (x3_2 % 256) (rd (rd_L1 l0 x10_1) x16_2)
           have hcx := (blk_cell hG2 (3 + (Go.bits .xor .u8 (x3_2 % 256) (rd (rd_L1 l0 x10_1) x16_2)).toNat)).trans (cur_at 256 (by omega))
           rw [if_pos (by omega)] at hcx
           go_wp2
           go_roundg k2
           case measure => have := HK1.out; have := HK2.out; omega
           case rel => exact ⟨(sumStep x3_2 (rd (rd_L1 l0 x10_1) x16_2)), (wrap64 (x16_2 + 1)), (by first | rfl | (simp; done) | (simp [*]; done)), (by first | rfl | (simp; done) | (simp [*]; done)), H', ⟨by have := HK1.out; have := HK2.out; omega⟩, rfl⟩
          ·rw [if_neg c7] at H
           exact absurd H (by simp)
         ·rw [if_neg c6] at H
          exact absurd H (by simp)
        ·rw [if_neg c5] at H
         have c5b0 : decide (x16_2 < ((rd_L1 l0 x10_1).length : Int)) = false := decide_eq_false c5
         clear c5
         have H' := Aside0.mk H
         clear H
         go_wp2
         go_roundg k2
         case measure => have := HK1.out; have := HK2.out; omega
         case rel => exact ⟨(x3_2), (wrap64 (x10_1 + 1)), (by first | rfl | (simp; done) | (simp [*]; done)), (by first | rfl | (simp; done) | (simp [*]; done)), H', ⟨by have := HK1.out; have := HK2.out; omega⟩, rfl⟩
     ·rw [if_neg c4] at H
      exact absurd H (by simp)
    ·rw [if_neg c3] at H
     exact absurd H (by simp)
   ·rw [if_neg c2] at H
    have c2b0 : decide (x10_1 < (l0.length : Int)) = false := decide_eq_false c2
    clear c2
    obtain rfl := Option.some.inj H
    go_wp2
    go_ret
    exact ⟨by first | rfl | (simp; done) | (simp [*]; done), hB2⟩


theorem w64s (n : Int) (h0 : -9223372036854775808 ≤ n) (h1 : n ≤ 9223372036854775807) : wrap64 n = n := by unfold wrap64; omega
theorem sumr_l1 (x8 : List (List Int)) (x9 x10 : Int) (b : List Int) (hb : b.length ≤ 4611686018427387904) (d : Nat) : ∀ (k i : Nat) (c : Int), i + d = b.length → d < k →
    sumr.l1 k c x8 x9 x10 b (b.length : Int) (i : Int) = sumr.l0 (k - 1 - d) ((b.drop i).foldl sumStep c) x8 x9 (wrap64 (x10 + 1)) := by
  induction d with
  | zero =>
    intro k i c hi hk
    obtain ⟨k, rfl⟩ : ∃ m, k = m + 1 := ⟨k - 1, by omega⟩
    rw [sumr.l1, if_neg (show ¬ ((i : Int) < (b.length : Int)) by omega), List.drop_eq_nil_of_le (by omega)]
    rfl
  | succ d ih =>
    intro k i c hi hk
    obtain ⟨k, rfl⟩ : ∃ m, k = m + 1 := ⟨k - 1, by omega⟩
    have hil : i < b.length := by omega
    rw [sumr.l1, if_pos (show ((i : Int) < (b.length : Int)) by omega), if_pos (Int.natCast_nonneg i), if_pos (show ((i : Int) < (b.length : Int)) by omega), w64s ((i : Int) + 1) (by omega) (by omega), show (i : Int) + 1 = ((i + 1 : Nat) : Int) from by omega, ih k (i + 1) _ (by omega) (by omega), List.drop_eq_getElem_cons hil, List.foldl_cons, show k + 1 - 1 - (d + 1) = k - 1 - d from by omega]
    have e : rd b (i : Int) = b[i] := by
      unfold rd
      rw [Int.toNat_natCast, List.getD_eq_getElem?_getD, List.getElem?_eq_getElem hil]
      rfl
    rw [e]
theorem sumr_l0 (L : List (List Int)) (hL : L.length ≤ 4611686018427387904) (hb : ∀ b ∈ L, b.length ≤ 4611686018427387904) (d : Nat) : ∀ (i : Nat) (c : Int), i + d = L.length →
    ∃ K, ∀ k, K ≤ k → sumr.l0 k c L (L.length : Int) (i : Int) = some (Go.bits .xor .u32 4294967295 ((L.drop i).flatten.foldl sumStep c)) := by
  induction d with
  | zero =>
    intro i c hi
    refine ⟨1, fun k hk => ?_⟩
    obtain ⟨k, rfl⟩ : ∃ m, k = m + 1 := ⟨k - 1, by omega⟩
    rw [sumr.l0, if_neg (show ¬ ((i : Int) < (L.length : Int)) by omega), List.drop_eq_nil_of_le (by omega)]
    rfl
  | succ d ih =>
    intro i c hi
    have hil : i < L.length := by omega
    obtain ⟨K, hK⟩ := ih (i + 1) (L[i].foldl sumStep c) (by omega)
    refine ⟨K + L[i].length + 3, fun k hk => ?_⟩
    obtain ⟨k, rfl⟩ : ∃ m, k = m + 1 := ⟨k - 1, by omega⟩
    have e : rd_L1 L (i : Int) = L[i] := by
      unfold rd_L1
      rw [Int.toNat_natCast, List.getD_eq_getElem?_getD, List.getElem?_eq_getElem hil]
      rfl
    have h1 := sumr_l1 L (L.length : Int) (i : Int) L[i] (hb _ (List.getElem_mem hil)) L[i].length k 0 c (by omega) (by omega)
    rw [show ((0 : Nat) : Int) = 0 from rfl, List.drop_zero] at h1
    rw [sumr.l0, if_pos (show ((i : Int) < (L.length : Int)) by omega), if_pos (Int.natCast_nonneg i), if_pos (show ((i : Int) < (L.length : Int)) by omega), e, h1, w64s ((i : Int) + 1) (by omega) (by omega), show (i : Int) + 1 = ((i + 1 : Nat) : Int) from by omega, hK _ (by omega), List.drop_eq_getElem_cons hil, List.flatten_cons, List.foldl_append]

/-- Sums are told only of rows that may be. -/
def crc_Sum.f (l0 : List (List Int)) : Option Int := if l0.length ≤ 4611686018427387904 ∧ ∀ b ∈ l0, b.length ≤ 4611686018427387904 then some (Go.bits .xor .u32 4294967295 (l0.flatten.foldl sumStep 4294967295)) else none
theorem crc_Sum.calls (A0 : Option Addr) (c0 : Nat) (l0 : List (List Int)) (r : Int) (w : World) (hr0 : Kd.C (Kd.slice 5 (Kd.int .u8)) w A0 l0.length l0) (hc0 : l0.length ≤ c0) (h : crc_Sum.f l0 = some r) :
    Calls Try.prog 10 #[.slice A0 l0.length c0] w fun e w' => e = .returned (.int .u32 r) ∧ Below w.heap.size w w' := by
  unfold crc_Sum.f at h
  by_cases hx : l0.length ≤ 4611686018427387904 ∧ ∀ b ∈ l0, b.length ≤ 4611686018427387904
  · rw [if_pos hx] at h
    obtain ⟨K, hK⟩ := sumr_l0 l0 hx.1 hx.2 l0.length 0 4294967295 (by omega)
    have h1 := hK K (Nat.le_refl _)
    rw [List.drop_zero, h] at h1
    exact sumr_calls K A0 c0 l0 r w hr0 hc0 h1
  · rw [if_neg hx] at h
    cases h

end Go.Proofs.Ytfjcehjdendjnaa.PA
