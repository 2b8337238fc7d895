-- Written for this claim by this session's own printer (wip/patch_print.py over the kit's print).
import Derived.Test.YtfjcehjdendjnaaPAx0
import Derived.Test.YtfjcehjdendjnaaPAx3
import Derived.Test.YtfjcehjdendjnaaHSum
import Derived.Test.YtfjcehjdendjnaaHLive
import Derived.Test.YtfjcehjdendjnaaGrow
namespace Go.Proofs.Ytfjcehjdendjnaa.PA
open Go.RowKit Go.Proofs.YtfjcehjdendjnaaW.PrintWords Go.Proofs.YtfjcehjdendjnaaW.PrintLast Go.Proofs.YtfjcehjdendjnaaW.PrintMore
attribute [local go_sem] max2_int min2_int max_two min_two max_three min_three max_four min_four   -- for this text's walks alone
attribute [local go_sem high] un_xor_u32
set_option linter.unusedVariables false
set_option linter.unusedSimpArgs false

/-! ### squelchlaw02_CrcFolds: function 5 -/
def squelchlaw02_CrcFolds.l0 : Nat → List Int → Int → Int → Bool → Int → List Int → Int → Int → Option (Bool)
 | 0, _, _, _, _, _, _, _, _ => none
 | k + 1, x0, x1, x2, x7, x8, x19, x20, x21 => if x21 < x20 then (if 0 ≤ x21 then (if x21 < (x19.length : Int) then ((crc_Step.f k x8 (rd x19 x21)).bind fun t335 => (squelchlaw02_CrcFolds.l0 k x0 x1 x2 x7 t335 x19 x20 (wrap64 (x21 + 1)))) else (none)) else (none)) else ((crc_Sum.f (([x0] : List (List Int)))).bind fun t339 => (if (Go.bits .xor .u32 4294967295 x8) = t339 then (if (x0.length : Int) = 0 then (some x7) else (if ([] : List Int).length + x0.length < 140737488355328 then ((some (([] : List Int) ++ x0 : List Int)).bind fun y340 => (if 0 ≤ (Int.tmod (wrap64 ((Int.tmod x1 (x0.length : Int)) + (x0.length : Int))) (x0.length : Int)) then (if (Int.tmod (wrap64 ((Int.tmod x1 (x0.length : Int)) + (x0.length : Int))) (x0.length : Int)) < (y340.length : Int) then (if x7 = true then ((crc_Sum.f (([(y340.set ((Int.tmod (wrap64 ((Int.tmod x1 (x0.length : Int)) + (x0.length : Int))) (x0.length : Int)) : Int).toNat x2)] : List (List Int)))).bind fun t347 => ((crc_Sum.f (([x0] : List (List Int)))).bind fun t351 => (if (Int.tmod (wrap64 ((Int.tmod x1 (x0.length : Int)) + (x0.length : Int))) (x0.length : Int)) < (x0.length : Int) then (some ((t347 == t351) == (x2 == (rd x0 (Int.tmod (wrap64 ((Int.tmod x1 (x0.length : Int)) + (x0.length : Int))) (x0.length : Int)))))) else (none)))) else (some false)) else (none)) else (none))) else (none))) else (some false)))
def squelchlaw02_CrcFolds.f (k : Nat) (l0 : List Int) (a1 : Int) (a2 : Int) : Option (Bool) := (squelchlaw02_live.f).bind fun t333 => (if t333 = true then (if (l0.length : Int) > 5000 then (some t333) else (squelchlaw02_CrcFolds.l0 k l0 a1 a2 t333 4294967295 l0 (l0.length : Int) 0)) else (some false))
theorem squelchlaw02_CrcFolds.mono_l : ∀ k, (∀ y0 y1 y2 y3 y4 y5 y6 y7, LeO (squelchlaw02_CrcFolds.l0 k y0 y1 y2 y3 y4 y5 y6 y7) (squelchlaw02_CrcFolds.l0 (k + 1) y0 y1 y2 y3 y4 y5 y6 y7))
 | 0 => fun _ _ _ _ _ _ _ _ r h => by simp [squelchlaw02_CrcFolds.l0] at h
 | k + 1 => by
  have ih0 := squelchlaw02_CrcFolds.mono_l k
  ·intro y0 y1 y2 y3 y4 y5 y6 y7
   unfold squelchlaw02_CrcFolds.l0
   repeat' first
   | (with_reducible exact ih0 _ _ _ _ _ _ _ _)
   | (with_reducible exact crc_Step.mono _ _ _)
   | (with_reducible exact LeO.refl _)
   | (with_reducible exact LeO.none _)
   | (with_reducible refine LeO.ite ?_ ?_)
   | (with_reducible refine LeO.bind ?_ (fun _ => ?_))
   | exact ih0 _ _ _ _ _ _ _ _
   | exact crc_Step.mono _ _ _
   | exact LeO.none _
   | refine LeO.ite ?_ ?_
   | refine LeO.bind ?_ (fun _ => ?_)
theorem squelchlaw02_CrcFolds.mono : ∀ a0 a1 a2 k, LeO (squelchlaw02_CrcFolds.f k a0 a1 a2) (squelchlaw02_CrcFolds.f (k + 1) a0 a1 a2) := by
 intro a0 a1 a2 k
 have ih0 := squelchlaw02_CrcFolds.mono_l k
 unfold squelchlaw02_CrcFolds.f
 repeat' first
   | (with_reducible exact ih0 _ _ _ _ _ _ _ _)
   | (with_reducible exact crc_Step.mono _ _ _)
   | (with_reducible exact LeO.refl _)
   | (with_reducible exact LeO.none _)
   | (with_reducible refine LeO.ite ?_ ?_)
   | (with_reducible refine LeO.bind ?_ (fun _ => ?_))
   | exact ih0 _ _ _ _ _ _ _ _
   | exact crc_Step.mono _ _ _
   | exact LeO.none _
   | refine LeO.ite ?_ ?_
   | refine LeO.bind ?_ (fun _ => ?_)
def squelchlaw02_CrcFolds.T19 : Bool × List (List Nat × List Nat) := (true, [([], []), ([0], [0]), ([1], [1]), ([2, 1], [1, 2]), ([3, 1, 1], [1, 3]), ([1], [1]), ([5, 1], [1, 5]), ([6, 4, 1], [1, 6]), ([4, 7, 1], [1, 4, 7]), ([1], [1]), ([1], [1]), ([1], [1]), ([10, 11, 1], [1, 10, 11]), ([12, 1], [1, 12]), ([9, 13, 1], [1, 9, 13]), ([8, 14, 1], [1, 8, 14]), ([1, 15], [1, 15]), ([16, 7, 0, 1, 2, 3, 4, 5, 6, 7, 8, 9, 10, 11, 12, 13, 14, 15, 16], [16])])
def squelchlaw02_CrcFolds.B19 : List Nat := [0, 1, 3, 7, 15, 3, 35, 127, 255, 3, 3, 3, 3075, 7171, 15875, 32767, 65535, 131071]
theorem squelchlaw02_CrcFolds.tab19 : rtab .any (opsOf Try.f5 19) = squelchlaw02_CrcFolds.T19 := by kernel_rfl
theorem squelchlaw02_CrcFolds.bits19 : waitsOk squelchlaw02_CrcFolds.T19.2 squelchlaw02_CrcFolds.B19 = true := by kernel_rfl
set_option maxHeartbeats 8000000 in
set_option maxRecDepth 100000 in
theorem squelchlaw02_CrcFolds.calls (k : Nat) (P0_ : Nat → Prop) (A0 : Option Addr) (c0 : Nat) (l0 : List Int) (a1 : Int) (a2 : Int) (r : Bool) (w : World) (hs0 : Kd.V (Kd.int .u8) 5 w w.heap.size (fun k_ => P0_ k_) (.slice A0 l0.length c0) l0) (h : squelchlaw02_CrcFolds.f k l0 a1 a2 = some r) :
  Calls Try.prog 5 #[.slice A0 l0.length c0, .int .i64 a1, .int .u8 a2] w fun e w' => e = .returned (.bool r) ∧ Below w.heap.size w w' := by
 have HO0 := Aside0.mk (show Kd.V (Kd.int .u8) 5 w w.heap.size (fun k_ => (P0_ k_ ∨ w.heap.size ≤ k_)) (.slice A0 l0.length c0) l0 from Kd.V_mono hs0 (fun k_ hk => .inl hk))
 have HB := Aside0.mk (Below.refl w.heap.size w)
 have H : ((squelchlaw02_live.f).bind fun t333 => (if t333 = true then (if (l0.length : Int) > 5000 then (some t333) else (squelchlaw02_CrcFolds.l0 k l0 a1 a2 t333 4294967295 l0 (l0.length : Int) 0)) else (some false))) = some r := h
 clear h
 replace H := Option.bind_eq_some_iff.mp H
 obtain ⟨t333, A40, H⟩ := H
 replace H : (if t333 = true then (if (l0.length : Int) > 5000 then (some t333) else (squelchlaw02_CrcFolds.l0 k l0 a1 a2 t333 4294967295 l0 (l0.length : Int) 0)) else (some false)) = some r := H
 have A4 := Aside0.mk A40
 clear A40
 by_cases c5 : t333 = true
 ·subst c5
  have H1 : (if (l0.length : Int) > 5000 then (some true) else (squelchlaw02_CrcFolds.l0 k l0 a1 a2 true 4294967295 l0 (l0.length : Int) 0)) = some r := by rw [if_pos rfl] at H; exact H
  clear H
  have H := H1
  clear H1
  by_cases c6 : (l0.length : Int) > 5000
  ·rw [if_pos c6] at H
   have c6b0 : decide (5000 < (l0.length : Int)) = true := decide_eq_true c6
   have c6b1 : decide (5000 < l0.length) = true := decide_eq_true (by omega)
   clear c6
   obtain rfl := Option.some.inj H
   go_enter Try.func5, Try.ntmps5
   go_wp2_with (first | ((with_reducible refine gate_callee (f := 9) rfl ?_); refine goesL_ (some 12) rfl rfl Try.func9 (by kernel_rfl) rfl #[] rfl (by (try simp only [List.map_toArray, List.map_cons, List.map_nil]); first | done | rfl | (simp only [List.length_drop, List.length_take]; rfl)) ?_; (with_reducible refine (squelchlaw02_live.calls  true _ A4.out).mono ?_); rintro e w7 ⟨rfl, hb⟩; refine ⟨_, rfl, ?_⟩; have n0_ := Aside0.mk (Kd.V_below (by (with_reducible repeat (first | apply Kd.V_alloc | apply Kd.V_drewN | apply Kd.V_drew)); exact HO0.out) hb); have n1_ := Aside0.mk (below_step (by repeat (first | (with_reducible first | exact HB.out | apply below_alloc | apply pw_below_drewN | apply below_drew1) | exact HB.out)) hb); clear HO0; clear HB; have HO0 := n0_; have HB := n1_; clear n0_ n1_; (try clear hb); (try clear hb2); (try clear hk); (try clear hi)))
   go_ret
   exact ⟨by first | rfl | (simp [errW_none, errW_some] <;> rfl) | (simp [*, errW_none, errW_some] <;> rfl), by repeat (first | (with_reducible first | exact HB.out | apply below_alloc | apply pw_below_drewN | apply below_drew1) | exact HB.out)⟩
  ·rw [if_neg c6] at H
   have c6b0 : decide (5000 < (l0.length : Int)) = false := decide_eq_false c6
   have c6b1 : decide (5000 < l0.length) = false := decide_eq_false (by omega)
   clear c6
   have H' := Aside0.mk H
   clear H
   go_enter Try.func5, Try.ntmps5
   go_wp2_with (first | ((with_reducible refine gate_callee (f := 9) rfl ?_); refine goesL_ (some 12) rfl rfl Try.func9 (by kernel_rfl) rfl #[] rfl (by (try simp only [List.map_toArray, List.map_cons, List.map_nil]); first | done | rfl | (simp only [List.length_drop, List.length_take]; rfl)) ?_; (with_reducible refine (squelchlaw02_live.calls  true _ A4.out).mono ?_); rintro e w8 ⟨rfl, hb⟩; refine ⟨_, rfl, ?_⟩; have n0_ := Aside0.mk (Kd.V_below (by (with_reducible repeat (first | apply Kd.V_alloc | apply Kd.V_drewN | apply Kd.V_drew)); exact HO0.out) hb); have n1_ := Aside0.mk (below_step (by repeat (first | (with_reducible first | exact HB.out | apply below_alloc | apply pw_below_drewN | apply below_drew1) | exact HB.out)) hb); clear HO0; clear HB; have HO0 := n0_; have HB := n1_; clear n0_ n1_; (try clear hb); (try clear hb2); (try clear hk); (try clear hi)))
   (try simp only [Act.put, List.setIfInBounds_toArray, List.set_cons_zero, List.set_cons_succ])
   go_loopg [8, 21] k (fun kq v8 v21 w' => ∃ (x8_1 : Int) (x21_1 : Int), v8 = .int .u32 x8_1 ∧ v21 = .int .i64 x21_1 ∧ Aside0 (squelchlaw02_CrcFolds.l0 kq l0 a1 a2 true x8_1 l0 (l0.length : Int) x21_1 = some r) ∧ Aside0 (kq ≤ k) ∧ Aside0 (Kd.V (Kd.int .u8) 5 w' w.heap.size (fun k_ => (P0_ k_ ∨ w.heap.size ≤ k_)) (.slice A0 l0.length c0) l0) ∧ Aside0 (Kd.V (Kd.int .u8) 5 w' w.heap.size (fun k_ => (P0_ k_ ∨ w.heap.size ≤ k_)) (.slice A0 l0.length c0) l0) ∧ Aside0 (Below w.heap.size w w'))
   case atStart => exact ⟨(4294967295), (0), (by first | rfl | (simp; done) | (simp [*]; done)), (by first | rfl | (simp; done) | (simp [*]; done)), H', ⟨Nat.le_refl _⟩, ⟨by (with_reducible repeat (first | apply Kd.V_alloc | apply Kd.V_drewN | apply Kd.V_drew)); exact HO0.out⟩, ⟨by (with_reducible repeat (first | apply Kd.V_alloc | apply Kd.V_drewN | apply Kd.V_drew)); exact HO0.out⟩, ⟨by repeat (first | (with_reducible first | exact HB.out | apply below_alloc | apply pw_below_drewN | apply below_drew1) | exact HB.out)⟩⟩
   case round =>
    clear H'
    try clear p2
    try clear c5
    try clear c6
    try clear c6b0
    try clear c6b1
    obtain ⟨x8_1, x21_1, rfl, rfl, HA, HK1, HO_0, HO_19, HB⟩ := hrel
    cases gk with
    | zero => exact absurd HA.out (by simp [squelchlaw02_CrcFolds.l0])
    | succ k1 =>
     have H := HA.out
     clear HA
     simp only [squelchlaw02_CrcFolds.l0] at H
     by_cases c9 : x21_1 < (l0.length : Int)
     ·rw [if_pos c9] at H
      have c9b0 : decide (x21_1 < (l0.length : Int)) = true := decide_eq_true c9
      clear c9
      by_cases c10 : 0 ≤ x21_1
      ·rw [if_pos c10] at H
       have c10b0 : decide (0 ≤ x21_1) = true := decide_eq_true c10
       clear c10
       by_cases c11 : x21_1 < (l0.length : Int)
       ·rw [if_pos c11] at H
        have c11b0 : decide (x21_1 < (l0.length : Int)) = true := decide_eq_true c11
        clear c11
        replace H := Option.bind_eq_some_iff.mp H
        obtain ⟨t335, A120, H⟩ := H
        replace H : (squelchlaw02_CrcFolds.l0 k1 l0 a1 a2 true t335 l0 (l0.length : Int) (wrap64 (x21_1 + 1))) = some r := H
        have A12 := Aside0.mk A120
        clear A120
        have H' := Aside0.mk H
        clear H
        have p334 : 0 ≤ (x21_1 : Int) := of_decide_eq_true (by first | (with_reducible assumption) | assumption)
        have q334 : x21_1 < (l0.length : Int) := of_decide_eq_true (by first | (with_reducible assumption) | assumption)
        obtain ⟨ad334, e334, hx334_0⟩ := Kd.at_int (Kd.V_reads' HO_19.out).2.2 x21_1 p334 q334
        cases e334
        replace p334 := eq_true p334
        replace q334 := eq_true q334
        go_wp2_with (first | ((with_reducible refine gate_callee (f := 13) rfl ?_); refine goesL_ (some 27) rfl rfl Try.func13 (by kernel_rfl) rfl #[.int .u32 x8_1, .int .u8 (rd l0 x21_1)] rfl (by (try simp only [List.map_toArray, List.map_cons, List.map_nil]); first | done | rfl | (simp only [List.length_drop, List.length_take]; rfl)) ?_; (with_reducible refine (crc_Step.calls k1 x8_1 (rd l0 x21_1) t335 _ A12.out).mono ?_); rintro e w' ⟨rfl, ⟨nd, rfl⟩⟩; refine ⟨_, rfl, ?_⟩))
        go_roundg k1
        case measure => have := HK1.out; omega
        case rel => exact ⟨(t335), (wrap64 (x21_1 + 1)), (by first | rfl | (simp; done) | (simp [*]; done)), (by first | rfl | (simp; done) | (simp [*]; done)), H', ⟨by have := HK1.out; omega⟩, ⟨by (with_reducible repeat (first | apply Kd.V_alloc | apply Kd.V_drewN | apply Kd.V_drew)); exact HO_0.out⟩, ⟨by (with_reducible repeat (first | apply Kd.V_alloc | apply Kd.V_drewN | apply Kd.V_drew)); exact HO_19.out⟩, ⟨by repeat (first | (with_reducible first | exact HB.out | apply below_alloc | apply pw_below_drewN | apply below_drew1) | exact HB.out)⟩⟩
       ·rw [if_neg c11] at H
        exact absurd H (by simp)
      ·rw [if_neg c10] at H
       exact absurd H (by simp)
     ·rw [if_neg c9] at H
      have c9b0 : decide (x21_1 < (l0.length : Int)) = false := decide_eq_false c9
      clear c9
      obtain ⟨y336, hy336⟩ : ∃ y_ : List (List Int), y_ = (([l0] : List (List Int))) := ⟨_, rfl⟩
      replace H : ((crc_Sum.f y336).bind fun t339 => (if (Go.bits .xor .u32 4294967295 x8_1) = t339 then (if (l0.length : Int) = 0 then (some true) else (if ([] : List Int).length + l0.length < 140737488355328 then ((some (([] : List Int) ++ l0 : List Int)).bind fun y340 => (if 0 ≤ (Int.tmod (wrap64 ((Int.tmod a1 (l0.length : Int)) + (l0.length : Int))) (l0.length : Int)) then (if (Int.tmod (wrap64 ((Int.tmod a1 (l0.length : Int)) + (l0.length : Int))) (l0.length : Int)) < (y340.length : Int) then (if true = true then ((crc_Sum.f (([(y340.set ((Int.tmod (wrap64 ((Int.tmod a1 (l0.length : Int)) + (l0.length : Int))) (l0.length : Int)) : Int).toNat a2)] : List (List Int)))).bind fun t347 => ((crc_Sum.f (([l0] : List (List Int)))).bind fun t351 => (if (Int.tmod (wrap64 ((Int.tmod a1 (l0.length : Int)) + (l0.length : Int))) (l0.length : Int)) < (l0.length : Int) then (some ((t347 == t351) == (a2 == (rd l0 (Int.tmod (wrap64 ((Int.tmod a1 (l0.length : Int)) + (l0.length : Int))) (l0.length : Int)))))) else (none)))) else (some false)) else (none)) else (none))) else (none))) else (some false))) = some r := by first | (rw [hy336]; with_reducible exact H) | (have H2_ := (Option.bind_some _ _).symm.trans H; rw [hy336]; with_reducible exact H2_) | (have H2_ := (Option.bind_some _ _).symm.trans H; with_reducible exact H2_) | with_reducible exact H | (rw [hy336]; exact H) | exact H
      have Ny336 := Aside0.mk hy336
      clear hy336
      replace H := Option.bind_eq_some_iff.mp H
      obtain ⟨t339, A130, H⟩ := H
      replace H : (if (Go.bits .xor .u32 4294967295 x8_1) = t339 then (if (l0.length : Int) = 0 then (some true) else (if ([] : List Int).length + l0.length < 140737488355328 then ((some (([] : List Int) ++ l0 : List Int)).bind fun y340 => (if 0 ≤ (Int.tmod (wrap64 ((Int.tmod a1 (l0.length : Int)) + (l0.length : Int))) (l0.length : Int)) then (if (Int.tmod (wrap64 ((Int.tmod a1 (l0.length : Int)) + (l0.length : Int))) (l0.length : Int)) < (y340.length : Int) then (if true = true then ((crc_Sum.f (([(y340.set ((Int.tmod (wrap64 ((Int.tmod a1 (l0.length : Int)) + (l0.length : Int))) (l0.length : Int)) : Int).toNat a2)] : List (List Int)))).bind fun t347 => ((crc_Sum.f (([l0] : List (List Int)))).bind fun t351 => (if (Int.tmod (wrap64 ((Int.tmod a1 (l0.length : Int)) + (l0.length : Int))) (l0.length : Int)) < (l0.length : Int) then (some ((t347 == t351) == (a2 == (rd l0 (Int.tmod (wrap64 ((Int.tmod a1 (l0.length : Int)) + (l0.length : Int))) (l0.length : Int)))))) else (none)))) else (some false)) else (none)) else (none))) else (none))) else (some false)) = some r := H
      have A13 := Aside0.mk A130
      clear A130
      by_cases c14 : (Go.bits .xor .u32 4294967295 x8_1) = t339
      ·rw [if_pos c14] at H
       have c14b0 : ((Go.bits .xor .u32 4294967295 x8_1) == t339) = true := beq_iff_eq.mpr c14
       have c14b1 : ((Go.bits .xor .u32 4294967295 x8_1) != t339) = false := bne_eq_false_iff_eq.mpr c14
       clear c14
       by_cases c15 : (l0.length : Int) = 0
       ·rw [if_pos c15] at H
        have c15b0 : ((l0.length : Int) == 0) = true := beq_iff_eq.mpr c15
        have c15b1 : ((l0.length : Int) != 0) = false := bne_eq_false_iff_eq.mpr c15
        clear c15
        obtain rfl := Option.some.inj H
        go_wp2_with (first | ((with_reducible refine gate_dst (N := 32) rfl ?_); (try (refine gate_guard (by rfl) ?_; dsimp only)); refine Kd.N_lit (Kd.slice 5 (Kd.int .u8)) _ 22 ?hg (N' := 32) ?hd (xs := ([l0] : List (List Int))) (inner := [.slice A0 l0.length c0]) (ok := (fun k_ => (P0_ k_ ∨ w.heap.size ≤ k_))) (okp := (fun k_ => (P0_ k_ ∨ w.heap.size ≤ k_))) ?hr ?hp (fun _ hk => hk) ((show ∀ k_, wr.heap.size ≤ k_ → (fun k_ => (P0_ k_ ∨ w.heap.size ≤ k_)) k_ from fun k_ hk => (.inr (Nat.le_trans (below_size (by repeat (first | (with_reducible first | exact HB.out | apply below_alloc | apply pw_below_drewN | apply below_drew1) | exact HB.out))) hk))) _ (Nat.le_refl _)) (Below.refl _ _) (Nat.le_refl _) (by simp) ?_; (case hd => rfl); (case hg => rfl); (case hr => first | (go_simp; done) | (go_simp; rfl)); (case hp => exact (Reps.one (show Kd.FK (Kd.slice 5 (Kd.int .u8)) _ _ l0 [.slice A0 l0.length c0] from (Kd.FK_slice_mk (Kd.V_reads' (Kd.V_mono (ok' := (fun k_ => (P0_ k_ ∨ w.heap.size ≤ k_))) (HO_0.out) (fun k_ hk => hk))).2.1 (Kd.V_F (Kd.V_mono (ok' := (fun k_ => (P0_ k_ ∨ w.heap.size ≤ k_))) (HO_0.out) (fun k_ hk => hk))))) (Reps.none _ _))); intro v337 w16 ho17 hb hg_ hnew_; clear hg_ hnew_; (first | rw [← Ny336.out] at ho17 | (simp only [Int.reduceToNat] at ho17; rw [← Ny336.out] at ho17)); have n0_ := Aside0.mk (Kd.V_elder' (by (with_reducible repeat (first | apply Kd.V_alloc | apply Kd.V_drewN | apply Kd.V_drew)); exact HO_0.out) (Kd.N_base ho17) hb); have n1_ := Aside0.mk (Kd.V_elder' (by (with_reducible repeat (first | apply Kd.V_alloc | apply Kd.V_drewN | apply Kd.V_drew)); exact HO_19.out) (Kd.N_base ho17) hb); have n2_ := Aside0.mk (Kd.N_lower ho17 (below_size (by repeat (first | (with_reducible first | exact HB.out | apply below_alloc | apply pw_below_drewN | apply below_drew1) | exact HB.out)))); have n3_ := Aside0.mk (below_step (by repeat (first | (with_reducible first | exact HB.out | apply below_alloc | apply pw_below_drewN | apply below_drew1) | exact HB.out)) hb); clear HO_0; clear HO_19; clear HB; have HO_0 := n0_; have HO_19 := n1_; have HO338 := n2_; have HB := n3_; clear n0_ n1_ n2_ n3_; clear hb ho17; obtain ⟨Ao18, co18, eo18⟩ := Kd.N_slice HO338.out; subst eo18) | ((with_reducible refine gate_callee (f := 10) rfl ?_); refine goesL_ (some 33) rfl rfl Try.func10 (by kernel_rfl) rfl #[.slice Ao18 y336.length co18] rfl (by (try simp only [List.map_toArray, List.map_cons, List.map_nil]); first | done | rfl | (simp only [List.length_drop, List.length_take]; rfl)) ?_; (with_reducible refine (crc_Sum.calls _ _ y336 t339 _ ?side1 ?side2 A13.out).mono ?_); (case side1 => repeat (first | exact (Kd.N_reads' HO338.out).2.2 | (with_reducible refine Kd.C_alloc ?_ _) | (with_reducible refine Kd.C_drewN ?_ _) | (with_reducible refine Kd.C_drew ?_))); (case side2 => exact (Kd.N_reads' HO338.out).2.1); rintro e w19 ⟨rfl, hb⟩; refine ⟨_, rfl, ?_⟩; have n0_ := Aside0.mk (Kd.V_below (by (with_reducible repeat (first | apply Kd.V_alloc | apply Kd.V_drewN | apply Kd.V_drew)); exact HO_0.out) hb); have n1_ := Aside0.mk (Kd.V_below (by (with_reducible repeat (first | apply Kd.V_alloc | apply Kd.V_drewN | apply Kd.V_drew)); exact HO_19.out) hb); have n2_ := Aside0.mk (Kd.N_below (by (with_reducible repeat (first | apply Kd.N_alloc | apply Kd.N_drewN | apply Kd.N_drew)); exact HO338.out) hb); have n3_ := Aside0.mk (below_step (by repeat (first | (with_reducible first | exact HB.out | apply below_alloc | apply pw_below_drewN | apply below_drew1) | exact HB.out)) hb); clear HO_0; clear HO_19; clear HO338; clear HB; have HO_0 := n0_; have HO_19 := n1_; have HO338 := n2_; have HB := n3_; clear n0_ n1_ n2_ n3_; (try clear hb); (try clear hb2); (try clear hk); (try clear hi)))
        go_ret
        exact ⟨by first | rfl | (simp [errW_none, errW_some] <;> rfl) | (simp [*, errW_none, errW_some] <;> rfl), by repeat (first | (with_reducible first | exact HB.out | apply below_alloc | apply pw_below_drewN | apply below_drew1) | exact HB.out)⟩
       ·rw [if_neg c15] at H
        have c15b0 : ((l0.length : Int) == 0) = false := beq_eq_false_iff_ne.mpr c15
        have c15b1 : ((l0.length : Int) != 0) = true := bne_iff_ne.mpr c15
        have c15b2 : ¬ (l0 = []) := fun h_ => c15 (by rw [h_]; rfl)
        by_cases c20 : ([] : List Int).length + l0.length < 140737488355328
        ·rw [if_pos c20] at H
         have LMc20 := Aside0.mk c20
         clear c20
         obtain ⟨y340, hy340⟩ : ∃ y_ : List Int, y_ = (([] : List Int) ++ l0) := ⟨_, rfl⟩
         replace H : (if 0 ≤ (Int.tmod (wrap64 ((Int.tmod a1 (l0.length : Int)) + (l0.length : Int))) (l0.length : Int)) then (if (Int.tmod (wrap64 ((Int.tmod a1 (l0.length : Int)) + (l0.length : Int))) (l0.length : Int)) < (y340.length : Int) then (if true = true then ((crc_Sum.f (([(y340.set ((Int.tmod (wrap64 ((Int.tmod a1 (l0.length : Int)) + (l0.length : Int))) (l0.length : Int)) : Int).toNat a2)] : List (List Int)))).bind fun t347 => ((crc_Sum.f (([l0] : List (List Int)))).bind fun t351 => (if (Int.tmod (wrap64 ((Int.tmod a1 (l0.length : Int)) + (l0.length : Int))) (l0.length : Int)) < (l0.length : Int) then (some ((t347 == t351) == (a2 == (rd l0 (Int.tmod (wrap64 ((Int.tmod a1 (l0.length : Int)) + (l0.length : Int))) (l0.length : Int)))))) else (none)))) else (some false)) else (none)) else (none)) = some r := by first | (rw [hy340]; with_reducible exact H) | (have H2_ := (Option.bind_some _ _).symm.trans H; rw [hy340]; with_reducible exact H2_) | (have H2_ := (Option.bind_some _ _).symm.trans H; with_reducible exact H2_) | with_reducible exact H | (rw [hy340]; exact H) | exact H
         have Ny340 := Aside0.mk hy340
         clear hy340
         obtain ⟨ji21, hji21⟩ : ∃ j_ : Int, (Int.tmod (wrap64 ((Int.tmod a1 (l0.length : Int)) + (l0.length : Int))) (l0.length : Int)) = j_ := ⟨_, rfl⟩
         replace H : (if 0 ≤ (ji21) then (if (ji21) < (y340.length : Int) then (if true = true then ((crc_Sum.f (([(y340.set ((ji21) : Int).toNat a2)] : List (List Int)))).bind fun t347 => ((crc_Sum.f (([l0] : List (List Int)))).bind fun t351 => (if (ji21) < (l0.length : Int) then (some ((t347 == t351) == (a2 == (rd l0 (ji21))))) else (none)))) else (some false)) else (none)) else (none)) = some r := by first | (rw [hji21] at H; exact H) | (simp only [hji21] at H ⊢; exact H)
         (try rw [hji21] at A13)
         by_cases c22 : 0 ≤ (ji21)
         ·rw [if_pos c22] at H
          have c22b0 : decide (0 ≤ (ji21)) = true := decide_eq_true c22
          clear c22
          by_cases c23 : (ji21) < (y340.length : Int)
          ·rw [if_pos c23] at H
           have c23b0 : decide ((ji21) < (y340.length : Int)) = true := decide_eq_true c23
           clear c23
           obtain ⟨y343, hy343⟩ : ∃ y_ : List Int, y_ = (y340.set ((ji21) : Int).toNat a2) := ⟨_, rfl⟩
           replace H : (if true = true then ((crc_Sum.f (([y343] : List (List Int)))).bind fun t347 => ((crc_Sum.f (([l0] : List (List Int)))).bind fun t351 => (if (ji21) < (l0.length : Int) then (some ((t347 == t351) == (a2 == (rd l0 (ji21))))) else (none)))) else (some false)) = some r := by first | (rw [hy343]; with_reducible exact H) | (have H2_ := (Option.bind_some _ _).symm.trans H; rw [hy343]; with_reducible exact H2_) | (have H2_ := (Option.bind_some _ _).symm.trans H; with_reducible exact H2_) | with_reducible exact H | (rw [hy343]; exact H) | exact H
           have Ny343 := Aside0.mk hy343
           clear hy343
           have H1 : ((crc_Sum.f (([y343] : List (List Int)))).bind fun t347 => ((crc_Sum.f (([l0] : List (List Int)))).bind fun t351 => (if (ji21) < (l0.length : Int) then (some ((t347 == t351) == (a2 == (rd l0 (ji21))))) else (none)))) = some r := by first | (rw [if_pos rfl] at H; exact H) | (rw [if_pos trivial] at H; exact H)
           clear H
           have H := H1
           clear H1
           obtain ⟨y344, hy344⟩ : ∃ y_ : List (List Int), y_ = (([y343] : List (List Int))) := ⟨_, rfl⟩
           replace H : ((crc_Sum.f y344).bind fun t347 => ((crc_Sum.f (([l0] : List (List Int)))).bind fun t351 => (if (ji21) < (l0.length : Int) then (some ((t347 == t351) == (a2 == (rd l0 (ji21))))) else (none)))) = some r := by first | (rw [hy344]; with_reducible exact H) | (have H2_ := (Option.bind_some _ _).symm.trans H; rw [hy344]; with_reducible exact H2_) | (have H2_ := (Option.bind_some _ _).symm.trans H; with_reducible exact H2_) | with_reducible exact H | (rw [hy344]; exact H) | exact H
           have Ny344 := Aside0.mk hy344
           clear hy344
           replace H := Option.bind_eq_some_iff.mp H
           obtain ⟨t347, A250, H⟩ := H
           replace H : ((crc_Sum.f (([l0] : List (List Int)))).bind fun t351 => (if (ji21) < (l0.length : Int) then (some ((t347 == t351) == (a2 == (rd l0 (ji21))))) else (none))) = some r := H
           have A25 := Aside0.mk A250
           clear A250
           obtain ⟨y348, hy348⟩ : ∃ y_ : List (List Int), y_ = (([l0] : List (List Int))) := ⟨_, rfl⟩
           replace H : ((crc_Sum.f y348).bind fun t351 => (if (ji21) < (l0.length : Int) then (some ((t347 == t351) == (a2 == (rd l0 (ji21))))) else (none))) = some r := by first | (rw [hy348]; with_reducible exact H) | (have H2_ := (Option.bind_some _ _).symm.trans H; rw [hy348]; with_reducible exact H2_) | (have H2_ := (Option.bind_some _ _).symm.trans H; with_reducible exact H2_) | with_reducible exact H | (rw [hy348]; exact H) | exact H
           have Ny348 := Aside0.mk hy348
           clear hy348
           replace H := Option.bind_eq_some_iff.mp H
           obtain ⟨t351, A260, H⟩ := H
           replace H : (if (ji21) < (l0.length : Int) then (some ((t347 == t351) == (a2 == (rd l0 (ji21))))) else (none)) = some r := H
           have A26 := Aside0.mk A260
           clear A260
           by_cases c27 : (ji21) < (l0.length : Int)
           ·rw [if_pos c27] at H
            have c27b0 : decide ((ji21) < (l0.length : Int)) = true := decide_eq_true c27
            clear c27
            obtain rfl := Option.some.inj H
            try go_wp2_with (first | ((with_reducible refine gate_dst (N := 32) rfl ?_); (try (refine gate_guard (by rfl) ?_; dsimp only)); refine Kd.N_lit (Kd.slice 5 (Kd.int .u8)) _ 22 ?hg (N' := 32) ?hd (xs := ([l0] : List (List Int))) (inner := [.slice A0 l0.length c0]) (ok := (fun k_ => (P0_ k_ ∨ w.heap.size ≤ k_))) (okp := (fun k_ => (P0_ k_ ∨ w.heap.size ≤ k_))) ?hr ?hp (fun _ hk => hk) ((show ∀ k_, wr.heap.size ≤ k_ → (fun k_ => (P0_ k_ ∨ w.heap.size ≤ k_)) k_ from fun k_ hk => (.inr (Nat.le_trans (below_size (by repeat (first | (with_reducible first | exact HB.out | apply below_alloc | apply pw_below_drewN | apply below_drew1) | exact HB.out))) hk))) _ (Nat.le_refl _)) (Below.refl _ _) (Nat.le_refl _) (by simp) ?_; (case hd => rfl); (case hg => rfl); (case hr => first | (go_simp; done) | (go_simp; rfl)); (case hp => exact (Reps.one (show Kd.FK (Kd.slice 5 (Kd.int .u8)) _ _ l0 [.slice A0 l0.length c0] from (Kd.FK_slice_mk (Kd.V_reads' (Kd.V_mono (ok' := (fun k_ => (P0_ k_ ∨ w.heap.size ≤ k_))) (HO_0.out) (fun k_ hk => hk))).2.1 (Kd.V_F (Kd.V_mono (ok' := (fun k_ => (P0_ k_ ∨ w.heap.size ≤ k_))) (HO_0.out) (fun k_ hk => hk))))) (Reps.none _ _))); intro v337 w28 ho29 hb hg_ hnew_; clear hg_ hnew_; (first | rw [← Ny336.out] at ho29 | (simp only [Int.reduceToNat] at ho29; rw [← Ny336.out] at ho29)); have n0_ := Aside0.mk (Kd.V_elder' (by (with_reducible repeat (first | apply Kd.V_alloc | apply Kd.V_drewN | apply Kd.V_drew)); exact HO_0.out) (Kd.N_base ho29) hb); have n1_ := Aside0.mk (Kd.V_elder' (by (with_reducible repeat (first | apply Kd.V_alloc | apply Kd.V_drewN | apply Kd.V_drew)); exact HO_19.out) (Kd.N_base ho29) hb); have n2_ := Aside0.mk (Kd.N_lower ho29 (below_size (by repeat (first | (with_reducible first | exact HB.out | apply below_alloc | apply pw_below_drewN | apply below_drew1) | exact HB.out)))); have n3_ := Aside0.mk (below_step (by repeat (first | (with_reducible first | exact HB.out | apply below_alloc | apply pw_below_drewN | apply below_drew1) | exact HB.out)) hb); clear HO_0; clear HO_19; clear HB; have HO_0 := n0_; have HO_19 := n1_; have HO338 := n2_; have HB := n3_; clear n0_ n1_ n2_ n3_; clear hb ho29; obtain ⟨Ao30, co30, eo30⟩ := Kd.N_slice HO338.out; subst eo30) | ((with_reducible refine gate_callee (f := 10) rfl ?_); refine goesL_ (some 33) rfl rfl Try.func10 (by kernel_rfl) rfl #[.slice Ao30 y336.length co30] rfl (by (try simp only [List.map_toArray, List.map_cons, List.map_nil]); first | done | rfl | (simp only [List.length_drop, List.length_take]; rfl)) ?_; (with_reducible refine (crc_Sum.calls _ _ y336 t339 _ ?side1 ?side2 A13.out).mono ?_); (case side1 => repeat (first | exact (Kd.N_reads' HO338.out).2.2 | (with_reducible refine Kd.C_alloc ?_ _) | (with_reducible refine Kd.C_drewN ?_ _) | (with_reducible refine Kd.C_drew ?_))); (case side2 => exact (Kd.N_reads' HO338.out).2.1); rintro e w31 ⟨rfl, hb⟩; refine ⟨_, rfl, ?_⟩; have n0_ := Aside0.mk (Kd.V_below (by (with_reducible repeat (first | apply Kd.V_alloc | apply Kd.V_drewN | apply Kd.V_drew)); exact HO_0.out) hb); have n1_ := Aside0.mk (Kd.V_below (by (with_reducible repeat (first | apply Kd.V_alloc | apply Kd.V_drewN | apply Kd.V_drew)); exact HO_19.out) hb); have n2_ := Aside0.mk (Kd.N_below (by (with_reducible repeat (first | apply Kd.N_alloc | apply Kd.N_drewN | apply Kd.N_drew)); exact HO338.out) hb); have n3_ := Aside0.mk (below_step (by repeat (first | (with_reducible first | exact HB.out | apply below_alloc | apply pw_below_drewN | apply below_drew1) | exact HB.out)) hb); clear HO_0; clear HO_19; clear HO338; clear HB; have HO_0 := n0_; have HO_19 := n1_; have HO338 := n2_; have HB := n3_; clear n0_ n1_ n2_ n3_; (try clear hb); (try clear hb2); (try clear hk); (try clear hi)) | ((with_reducible refine gate_builtin (b := .append) (xs := #[.const (.slice none 0 0), .tmp 49]) rfl ?_); (try (refine gate_guard (by rfl) ?_; dsimp only)); at_builtin; refine Kd.R_append_rows (Kd.int .u8) (w0 := w) w.heap.size rfl (.const (.slice none 0 0)) (.tmp 49) 22 5 (.int .u8 0) 1 rfl Try.underlying22 info5 rfl (by decide) (by omega) (.slice none 0 0) ([] : List Int) l0 _ _ _ (fun k_ => (w.heap.size ≤ k_)) (fun _ => False) rfl rfl ?aO ?aR (fun _ _ h => h) (fun _ h => h.elim) ?aF ?aB ?aS ?aL ?_; (case aR => repeat (first | exact (Kd.V_reads' HO_0.out).2.2 | (with_reducible refine Kd.C_alloc ?_ _) | (with_reducible refine Kd.C_drewN ?_ _) | (with_reducible refine Kd.C_drew ?_))); (case aB => exact (by repeat (first | (with_reducible first | exact HB.out | apply below_alloc | apply pw_below_drewN | apply below_drew1) | exact HB.out))); (case aF => exact (fun k_ hk => (Nat.le_trans (below_size (by repeat (first | (with_reducible first | exact HB.out | apply below_alloc | apply pw_below_drewN | apply below_drew1) | exact HB.out))) hk))); (case aO => exact ((Kd.R_nil _ _ _ _ (fun k_ => (w.heap.size ≤ k_))))); (case aS => exact (below_size (by repeat (first | (with_reducible first | exact HB.out | apply below_alloc | apply pw_below_drewN | apply below_drew1) | exact HB.out)))); (case aL => have := LMc20.out; omega); intro v341 w32 ho hb hg hat; rw [← Ny340.out] at ho; have n0_ := Aside0.mk (Kd.V_afterv (Kd.V_apart_nil (by (with_reducible repeat (first | apply Kd.V_alloc | apply Kd.V_drewN | apply Kd.V_drew)); exact HO_0.out)) hg hat); have n1_ := Aside0.mk (Kd.V_afterv (Kd.V_apart_nil (by (with_reducible repeat (first | apply Kd.V_alloc | apply Kd.V_drewN | apply Kd.V_drew)); exact HO_19.out)) hg hat); have n2_ := Aside0.mk (Kd.N_afterv (Kd.N_apart_nil (by (with_reducible repeat (first | apply Kd.N_alloc | apply Kd.N_drewN | apply Kd.N_drew)); exact HO338.out)) hg hat); have n3_ := Aside0.mk (hb); have n4_ := Aside0.mk (ho); clear HO_0; clear HO_19; clear HO338; clear HB; have HO_0 := n0_; have HO_19 := n1_; have HO338 := n2_; have HB := n3_; have HO342 := n4_; clear n0_ n1_ n2_ n3_ n4_; clear ho hb hg hat; have p24 : 0 ≤ ((ji21) : Int) := of_decide_eq_true (by first | (with_reducible assumption) | assumption); have q24 : ((ji21) : Int) < ((y340.length : Int) : Int) := of_decide_eq_true (by first | (with_reducible assumption) | assumption); obtain ⟨go24, co24, eo24, gb24, gl24, cl24, HG24⟩ := Kd.R_form HO342.out (by omega); (first | cases eo24 | (injection eo24 with ea_ en_ ec_; (first | subst ea_ | (injection ea_ with ea_; subst ea_)); subst ec_; clear en_)); have GB24 := Aside0.mk gb24; have GG24 := Aside0.mk HG24; clear gb24 gl24 HG24; obtain ⟨hx24_0, hf24_0⟩ := Kd.R_celln 0 HO342.out ((ji21) : Int) p24 q24; replace p24 := eq_true p24; replace q24 := eq_true q24; obtain ⟨hy33_, hz33_⟩ := Kd.R_celln 0 HO342.out ((ji21) : Int) (of_decide_eq_true (by first | (with_reducible assumption) | assumption)) (of_decide_eq_true (by first | (with_reducible assumption) | assumption)); have HP33 := Kd.R_putg HO342.out ((ji21) : Int) a2) | ((with_reducible refine gate_store (t := 5) (p := 54) rfl ?_); refine store_event (t := 5) (p := 54) (v := ?vo_w34) (w1 := (w32.setCell ⟨go24, ((ji21) : Int).toNat, none⟩ (.int .u8 a2))) ?hg ?ho ?hn ?hr ?_; (case ho => rfl); (case hg => rfl); (case hn => rfl); (case hr => first | (go_simp; done) | (go_simp; rfl)); intro w34 hw; have hg : w32.grownBy w34 (some go24) := (by rw [hw]; exact HP33.2); have hp_ : Kd.R (Kd.int .u8) 5 w34 w.heap.size (fun k_ => (w.heap.size ≤ k_)) (.slice (some ⟨go24, 0, none⟩) y340.length co24) y343 := (by rw [hw, Ny343.out]; exact HP33.1); clear HP33; have n0_ := Aside0.mk (Kd.V_afterv (v := (.slice (some ⟨go24, 0, none⟩) y340.length co24)) (v1 := (.slice (some ⟨go24, 0, none⟩) y340.length co24)) (ok := (fun k_ => (P0_ k_ ∨ w.heap.size ≤ k_) ∧ some k_ ≠ (.slice Ao30 y336.length co30 : Value).ownBlock)) (by (with_reducible repeat (first | apply Kd.V_alloc | apply Kd.V_drewN | apply Kd.V_drew)); exact HO_0.out) hg (.inl rfl)); have n1_ := Aside0.mk (Kd.V_afterv (v := (.slice (some ⟨go24, 0, none⟩) y340.length co24)) (v1 := (.slice (some ⟨go24, 0, none⟩) y340.length co24)) (ok := (fun k_ => (P0_ k_ ∨ w.heap.size ≤ k_) ∧ some k_ ≠ (.slice Ao30 y336.length co30 : Value).ownBlock)) (by (with_reducible repeat (first | apply Kd.V_alloc | apply Kd.V_drewN | apply Kd.V_drew)); exact HO_19.out) hg (.inl rfl)); have n2_ := Aside0.mk (Kd.N_afterv (v := (.slice (some ⟨go24, 0, none⟩) y340.length co24)) (v1 := (.slice (some ⟨go24, 0, none⟩) y340.length co24)) (ok := (fun k_ => (P0_ k_ ∨ w.heap.size ≤ k_))) (by (with_reducible repeat (first | apply Kd.N_alloc | apply Kd.N_drewN | apply Kd.N_drew)); exact HO338.out) hg (.inl rfl)); have n3_ := Aside0.mk (hp_); have n4_ := Aside0.mk ((by rw [hw]; exact below_set (HB.out) GB24.out : Below w.heap.size w w34)); clear HO_0; clear HO_19; clear HO338; clear HO342; clear HB; have HO_0 := n0_; have HO_19 := n1_; have HO338 := n2_; have HO342 := n3_; have HB := n4_; clear n0_ n1_ n2_ n3_ n4_; clear hg hw hp_))
            rename_i hret
            have hl0 := (Kd.V_reads' HO_0.out)
            have hl3 := (Kd.R_reads' HO342.out)
            have hc3 : Kd.C (Kd.int .u8) w34 (some ⟨go24, 0, none⟩) y340.length y343 := by rw [hl3.1]; exact hl3.2.2
            have hn3 := hl3.2.1
            clear hl3
            have hlD : ∀ W, Below w34.heap.size w34 W → gholds (.inr [y343]) (.slice (some ⟨W.heap.size, 0, none⟩) 1 1) (W.alloc (.cells #[.slice (some ⟨go24, 0, none⟩) y340.length co24] 22)) := fun W hB => one_lit W (Kd.C_below hc3 hB) hn3
            have hlA : ∀ W, Below w34.heap.size w34 W → gholds (.inr [l0]) (.slice (some ⟨W.heap.size, 0, none⟩) 1 1) (W.alloc (.cells #[.slice A0 l0.length c0] 22)) := fun W hB => one_lit W (Kd.C_below hl0.2.2 hB) hl0.2.1
            rw [Ny344.out] at A25
            rw [Ny348.out] at A26
            have S25 := A25.out
            have S26 := A26.out
            have p352 : 0 ≤ ((ji21) : Int) := of_decide_eq_true (by first | (with_reducible assumption) | assumption)
            have q352 : (ji21) < (l0.length : Int) := of_decide_eq_true (by first | (with_reducible assumption) | assumption)
            obtain ⟨ad352, e352, hx352_0⟩ := Kd.at_int (Kd.V_reads' HO_0.out).2.2 (ji21) p352 q352
            cases e352
            have hld : ∀ W, Below w34.heap.size w34 W → W.cell? (ad352.add ji21.toNat) = some (.int .u8 (rd l0 ji21)) := fun W hB => (hB.cell (World.block_lt_of_cell? _ _ hx352_0)).trans hx352_0
            clear hx352_0
            replace p352 := eq_true p352
            replace q352 := eq_true q352
            refine wp_region_grow (by kernel_rfl) (by kernel_rfl) (by kernel_rfl) (gfact [.inl (.bool true), .inl (.bool true), .inl (.slice (some ⟨go24, 0, none⟩) y340.length co24), .inr [y343], .inl (.int .u32 t347), .inl (.slice (some ad352) l0.length c0), .inr [l0], .inl (.int .u32 t351), .inl (.bool (t347 == t351)), .inl (.int .u8 a2), .inl (.slice (some ad352) l0.length c0), .inl (.int .i64 ji21), .inl (.pointer (some (ad352.add ji21.toNat))), .inl (.int .u8 (rd l0 ji21)), .inl (.bool (a2 == rd l0 ji21)), .inl (.bool ((t347 == t351) == (a2 == rd l0 ji21))), .inl (.bool ((t347 == t351) == (a2 == rd l0 ji21))), .inl (.bool ((t347 == t351) == (a2 == rd l0 ji21)))]) (fun i v W W' h hb => gholds_below h hb) ?_ ?_
            ·intro i o ho a W hfr hdep hB K hK
             clear HO_0 HO_19 HO338 HO342
             match i, ho with
             | 0, ho =>
              obtain rfl := Option.some.inj ho
              have e0 : a.eval (.tmp 7) = (.bool true) := eval_tmp ((hfr 7 (notdst (by kernel_rfl))).trans rfl)
              exact step_move ((.bool true)) (.tmp 7) (wanted_none _ rfl) (by first | exact .inl rfl | exact .inr rfl) e0 (hK _ _ rfl (Below.refl _ _))
             | 1, ho =>
              obtain rfl := Option.some.inj ho
              obtain ⟨v0, hv0, ev0⟩ := get_dep hdep 0 55 (by kernel_rfl) rfl
              have e0 : a.eval (.tmp 55) = (.bool true) := (eval_tmp hv0).trans ev0
              exact step_move ((.bool true)) (.tmp 55) (wanted_none _ rfl) (by first | exact .inl rfl | exact .inr rfl) e0 (hK _ _ rfl (Below.refl _ _))
             | 2, ho =>
              obtain rfl := Option.some.inj ho
              obtain ⟨vg, hg, eg⟩ := get_dep hdep 1 56 (by kernel_rfl) rfl
              obtain rfl : vg = .bool true := eg
              have e0 : a.eval (.tmp 11) = (.slice (some ⟨go24, 0, none⟩) y340.length co24) := eval_tmp ((hfr 11 (notdst (by kernel_rfl))).trans rfl)
              exact step_move ((.slice (some ⟨go24, 0, none⟩) y340.length co24)) (.tmp 11) (wanted_some 1 56 true rfl rfl hg) (by first | exact .inl rfl | exact .inr rfl) e0 (hK _ _ rfl (Below.refl _ _))
             | 3, ho =>
              obtain rfl := Option.some.inj ho
              obtain ⟨vg, hg, eg⟩ := get_dep hdep 1 56 (by kernel_rfl) rfl
              obtain rfl : vg = .bool true := eg
              obtain ⟨v0, hv0, ev0⟩ := get_dep hdep 2 57 (by kernel_rfl) rfl
              have e0 : a.eval (.tmp 57) = (.slice (some ⟨go24, 0, none⟩) y340.length co24) := (eval_tmp hv0).trans ev0
              exact step_lit1 27 22 (.tmp 57) ((.slice (some ⟨go24, 0, none⟩) y340.length co24)) (wanted_some 1 56 true rfl rfl hg) rfl e0 (by go_simp) (hK _ _ (hlD W hB) (below_alloc (Below.refl _ _) _))
             | 4, ho =>
              obtain rfl := Option.some.inj ho
              obtain ⟨vg, hg, eg⟩ := get_dep hdep 1 56 (by kernel_rfl) rfl
              obtain rfl : vg = .bool true := eg
              obtain ⟨v0, hv0, ⟨Ab, cb, rfl, hcb, hC⟩⟩ := get_dep hdep 3 58 (by kernel_rfl) rfl
              have e0 : a.eval (.tmp 58) = .slice Ab 1 cb := eval_tmp hv0
              refine goes_ Try.func10 (by kernel_rfl) rfl #[.slice Ab 1 cb] (wanted_some 1 56 true rfl rfl hg) rfl rfl (by simp [e0]) ?_
              refine (crc_Sum.calls _ _ _ _ _ hC hcb S25).mono ?_
              rintro e w1 ⟨rfl, hb⟩
              exact ⟨_, rfl, hK _ _ rfl hb⟩
             | 5, ho =>
              obtain rfl := Option.some.inj ho
              obtain ⟨vg, hg, eg⟩ := get_dep hdep 1 56 (by kernel_rfl) rfl
              obtain rfl : vg = .bool true := eg
              have e0 : a.eval (.tmp 0) = (.slice (some ad352) l0.length c0) := eval_tmp ((hfr 0 (notdst (by kernel_rfl))).trans rfl)
              exact step_move ((.slice (some ad352) l0.length c0)) (.tmp 0) (wanted_some 1 56 true rfl rfl hg) (by first | exact .inl rfl | exact .inr rfl) e0 (hK _ _ rfl (Below.refl _ _))
             | 6, ho =>
              obtain rfl := Option.some.inj ho
              obtain ⟨vg, hg, eg⟩ := get_dep hdep 1 56 (by kernel_rfl) rfl
              obtain rfl : vg = .bool true := eg
              obtain ⟨v0, hv0, ev0⟩ := get_dep hdep 5 60 (by kernel_rfl) rfl
              have e0 : a.eval (.tmp 60) = (.slice (some ad352) l0.length c0) := (eval_tmp hv0).trans ev0
              exact step_lit1 27 22 (.tmp 60) ((.slice (some ad352) l0.length c0)) (wanted_some 1 56 true rfl rfl hg) rfl e0 (by go_simp) (hK _ _ (hlA W hB) (below_alloc (Below.refl _ _) _))
             | 7, ho =>
              obtain rfl := Option.some.inj ho
              obtain ⟨vg, hg, eg⟩ := get_dep hdep 1 56 (by kernel_rfl) rfl
              obtain rfl : vg = .bool true := eg
              obtain ⟨v0, hv0, ⟨Ab, cb, rfl, hcb, hC⟩⟩ := get_dep hdep 6 61 (by kernel_rfl) rfl
              have e0 : a.eval (.tmp 61) = .slice Ab 1 cb := eval_tmp hv0
              refine goes_ Try.func10 (by kernel_rfl) rfl #[.slice Ab 1 cb] (wanted_some 1 56 true rfl rfl hg) rfl rfl (by simp [e0]) ?_
              refine (crc_Sum.calls _ _ _ _ _ hC hcb S26).mono ?_
              rintro e w1 ⟨rfl, hb⟩
              exact ⟨_, rfl, hK _ _ rfl hb⟩
             | 8, ho =>
              obtain rfl := Option.some.inj ho
              obtain ⟨vg, hg, eg⟩ := get_dep hdep 1 56 (by kernel_rfl) rfl
              obtain rfl : vg = .bool true := eg
              obtain ⟨v0, hv0, ev0⟩ := get_dep hdep 4 59 (by kernel_rfl) rfl
              have e0 : a.eval (.tmp 59) = (.int .u32 t347) := (eval_tmp hv0).trans ev0
              obtain ⟨v1, hv1, ev1⟩ := get_dep hdep 7 62 (by kernel_rfl) rfl
              have e1 : a.eval (.tmp 62) = (.int .u32 t351) := (eval_tmp hv1).trans ev1
              exact step_bin .eql 24 24 (.tmp 59) (.tmp 62) ((.int .u32 t347)) ((.int .u32 t351)) ((.bool (t347 == t351))) (wanted_some 1 56 true rfl rfl hg) rfl e0 e1 (by go_simp) (hK _ _ rfl (Below.refl _ _))
             | 9, ho =>
              obtain rfl := Option.some.inj ho
              obtain ⟨vg, hg, eg⟩ := get_dep hdep 1 56 (by kernel_rfl) rfl
              obtain rfl : vg = .bool true := eg
              have e0 : a.eval (.tmp 2) = (.int .u8 a2) := eval_tmp ((hfr 2 (notdst (by kernel_rfl))).trans rfl)
              exact step_move ((.int .u8 a2)) (.tmp 2) (wanted_some 1 56 true rfl rfl hg) (by first | exact .inl rfl | exact .inr rfl) e0 (hK _ _ rfl (Below.refl _ _))
             | 10, ho =>
              obtain rfl := Option.some.inj ho
              obtain ⟨vg, hg, eg⟩ := get_dep hdep 1 56 (by kernel_rfl) rfl
              obtain rfl : vg = .bool true := eg
              have e0 : a.eval (.tmp 0) = (.slice (some ad352) l0.length c0) := eval_tmp ((hfr 0 (notdst (by kernel_rfl))).trans rfl)
              exact step_move ((.slice (some ad352) l0.length c0)) (.tmp 0) (wanted_some 1 56 true rfl rfl hg) (by first | exact .inl rfl | exact .inr rfl) e0 (hK _ _ rfl (Below.refl _ _))
             | 11, ho =>
              obtain rfl := Option.some.inj ho
              obtain ⟨vg, hg, eg⟩ := get_dep hdep 1 56 (by kernel_rfl) rfl
              obtain rfl : vg = .bool true := eg
              have e0 : a.eval (.tmp 1) = (.int .i64 ji21) := eval_tmp ((hfr 1 (notdst (by kernel_rfl))).trans rfl)
              exact step_move ((.int .i64 ji21)) (.tmp 1) (wanted_some 1 56 true rfl rfl hg) (by first | exact .inl rfl | exact .inr rfl) e0 (hK _ _ rfl (Below.refl _ _))
             | 12, ho =>
              obtain rfl := Option.some.inj ho
              obtain ⟨vg, hg, eg⟩ := get_dep hdep 1 56 (by kernel_rfl) rfl
              obtain rfl : vg = .bool true := eg
              obtain ⟨v0, hv0, ev0⟩ := get_dep hdep 10 65 (by kernel_rfl) rfl
              have e0 : a.eval (.tmp 65) = (.slice (some ad352) l0.length c0) := (eval_tmp hv0).trans ev0
              obtain ⟨v1, hv1, ev1⟩ := get_dep hdep 11 66 (by kernel_rfl) rfl
              have e1 : a.eval (.tmp 66) = (.int .i64 ji21) := (eval_tmp hv1).trans ev1
              exact step_index 22 (.tmp 65) (.tmp 66) ((.slice (some ad352) l0.length c0)) ((.int .i64 ji21)) ((.pointer (some (ad352.add ji21.toNat)))) (wanted_some 1 56 true rfl rfl hg) rfl e0 e1 (by go_simp) (hK _ _ rfl (Below.refl _ _))
             | 13, ho =>
              obtain rfl := Option.some.inj ho
              obtain ⟨vg, hg, eg⟩ := get_dep hdep 1 56 (by kernel_rfl) rfl
              obtain rfl : vg = .bool true := eg
              obtain ⟨v0, hv0, ev0⟩ := get_dep hdep 12 67 (by kernel_rfl) rfl
              have e0 : a.eval (.tmp 67) = (.pointer (some (ad352.add ji21.toNat))) := (eval_tmp hv0).trans ev0
              have hx_ := hld W hB
              exact step_load 5 (.tmp 67) ((.pointer (some (ad352.add ji21.toNat)))) ((.int .u8 (rd l0 ji21))) (wanted_some 1 56 true rfl rfl hg) rfl e0 (by go_simp) (hK _ _ rfl (Below.refl _ _))
             | 14, ho =>
              obtain rfl := Option.some.inj ho
              obtain ⟨vg, hg, eg⟩ := get_dep hdep 1 56 (by kernel_rfl) rfl
              obtain rfl : vg = .bool true := eg
              obtain ⟨v0, hv0, ev0⟩ := get_dep hdep 9 64 (by kernel_rfl) rfl
              have e0 : a.eval (.tmp 64) = (.int .u8 a2) := (eval_tmp hv0).trans ev0
              obtain ⟨v1, hv1, ev1⟩ := get_dep hdep 13 68 (by kernel_rfl) rfl
              have e1 : a.eval (.tmp 68) = (.int .u8 (rd l0 ji21)) := (eval_tmp hv1).trans ev1
              exact step_bin .eql 5 5 (.tmp 64) (.tmp 68) ((.int .u8 a2)) ((.int .u8 (rd l0 ji21))) ((.bool (a2 == rd l0 ji21))) (wanted_some 1 56 true rfl rfl hg) rfl e0 e1 (by go_simp) (hK _ _ rfl (Below.refl _ _))
             | 15, ho =>
              obtain rfl := Option.some.inj ho
              obtain ⟨vg, hg, eg⟩ := get_dep hdep 1 56 (by kernel_rfl) rfl
              obtain rfl : vg = .bool true := eg
              obtain ⟨v0, hv0, ev0⟩ := get_dep hdep 8 63 (by kernel_rfl) rfl
              have e0 : a.eval (.tmp 63) = (.bool (t347 == t351)) := (eval_tmp hv0).trans ev0
              obtain ⟨v1, hv1, ev1⟩ := get_dep hdep 14 69 (by kernel_rfl) rfl
              have e1 : a.eval (.tmp 69) = (.bool (a2 == rd l0 ji21)) := (eval_tmp hv1).trans ev1
              exact step_bin .eql 4 4 (.tmp 63) (.tmp 69) ((.bool (t347 == t351))) ((.bool (a2 == rd l0 ji21))) ((.bool ((t347 == t351) == (a2 == rd l0 ji21)))) (wanted_some 1 56 true rfl rfl hg) rfl e0 e1 (by go_simp) (hK _ _ rfl (Below.refl _ _))
             | 16, ho =>
              obtain rfl := Option.some.inj ho
              obtain ⟨v0, hv0, ev0⟩ := get_dep hdep 1 56 (by kernel_rfl) rfl
              have e0 : a.eval (.tmp 56) = (.bool true) := (eval_tmp hv0).trans ev0
              obtain ⟨v1, hv1, ev1⟩ := get_dep hdep 15 70 (by kernel_rfl) rfl
              have e1 : a.eval (.tmp 70) = (.bool ((t347 == t351) == (a2 == rd l0 ji21))) := (eval_tmp hv1).trans ev1
              exact step_pick true (.tmp 56) (.tmp 70) (.const (.bool false)) ((.bool ((t347 == t351) == (a2 == rd l0 ji21)))) (.bool false) (wanted_none _ rfl) rfl e0 e1 rfl (hK _ _ rfl (Below.refl _ _))
             | 17, ho =>
              obtain rfl := Option.some.inj ho
              obtain ⟨v0, hv0, ev0⟩ := get_dep hdep 16 71 (by kernel_rfl) rfl
              have e0 : a.eval (.tmp 71) = (.bool ((t347 == t351) == (a2 == rd l0 ji21))) := (eval_tmp hv0).trans ev0
              exact step_move ((.bool ((t347 == t351) == (a2 == rd l0 ji21)))) (.tmp 71) (wanted_none _ rfl) (by first | exact .inl rfl | exact .inr rfl) e0 (hK _ _ rfl (Below.refl _ _))
             | n + 18, ho => exact absurd ho (by simp)
            ·intro a W hdf hfr hv hB
             obtain ⟨v, h6, e6⟩ := hv 17 6 rfl
             obtain rfl : v = (.bool ((t347 == t351) == (a2 == rd l0 ji21))) := e6
             refine hret _ _ (wp_ret ?_)
             exact bodyPost_ret ((results_tmp (t := 6) rfl _ _ _).trans (congrArg (fun v_ => Result.ok v_ W) (eval_tmp h6))) (hdf.trans rfl) ⟨rfl, below_step HB.out hB⟩
           ·rw [if_neg c27] at H
            exact absurd H (by simp)
          ·rw [if_neg c23] at H
           exact absurd H (by simp)
         ·rw [if_neg c22] at H
          exact absurd H (by simp)
        ·rw [if_neg c20] at H
         exact absurd H (by simp)
      ·rw [if_neg c14] at H
       have c14b0 : ((Go.bits .xor .u32 4294967295 x8_1) == t339) = false := beq_eq_false_iff_ne.mpr c14
       have c14b1 : ((Go.bits .xor .u32 4294967295 x8_1) != t339) = true := bne_iff_ne.mpr c14
       obtain rfl := Option.some.inj H
       go_wp2_with (first | ((with_reducible refine gate_dst (N := 32) rfl ?_); (try (refine gate_guard (by rfl) ?_; dsimp only)); refine Kd.N_lit (Kd.slice 5 (Kd.int .u8)) _ 22 ?hg (N' := 32) ?hd (xs := ([l0] : List (List Int))) (inner := [.slice A0 l0.length c0]) (ok := (fun k_ => (P0_ k_ ∨ w.heap.size ≤ k_))) (okp := (fun k_ => (P0_ k_ ∨ w.heap.size ≤ k_))) ?hr ?hp (fun _ hk => hk) ((show ∀ k_, wr.heap.size ≤ k_ → (fun k_ => (P0_ k_ ∨ w.heap.size ≤ k_)) k_ from fun k_ hk => (.inr (Nat.le_trans (below_size (by repeat (first | (with_reducible first | exact HB.out | apply below_alloc | apply pw_below_drewN | apply below_drew1) | exact HB.out))) hk))) _ (Nat.le_refl _)) (Below.refl _ _) (Nat.le_refl _) (by simp) ?_; (case hd => rfl); (case hg => rfl); (case hr => first | (go_simp; done) | (go_simp; rfl)); (case hp => exact (Reps.one (show Kd.FK (Kd.slice 5 (Kd.int .u8)) _ _ l0 [.slice A0 l0.length c0] from (Kd.FK_slice_mk (Kd.V_reads' (Kd.V_mono (ok' := (fun k_ => (P0_ k_ ∨ w.heap.size ≤ k_))) (HO_0.out) (fun k_ hk => hk))).2.1 (Kd.V_F (Kd.V_mono (ok' := (fun k_ => (P0_ k_ ∨ w.heap.size ≤ k_))) (HO_0.out) (fun k_ hk => hk))))) (Reps.none _ _))); intro v337 w45 ho46 hb hg_ hnew_; clear hg_ hnew_; (first | rw [← Ny336.out] at ho46 | (simp only [Int.reduceToNat] at ho46; rw [← Ny336.out] at ho46)); have n0_ := Aside0.mk (Kd.V_elder' (by (with_reducible repeat (first | apply Kd.V_alloc | apply Kd.V_drewN | apply Kd.V_drew)); exact HO_0.out) (Kd.N_base ho46) hb); have n1_ := Aside0.mk (Kd.V_elder' (by (with_reducible repeat (first | apply Kd.V_alloc | apply Kd.V_drewN | apply Kd.V_drew)); exact HO_19.out) (Kd.N_base ho46) hb); have n2_ := Aside0.mk (Kd.N_lower ho46 (below_size (by repeat (first | (with_reducible first | exact HB.out | apply below_alloc | apply pw_below_drewN | apply below_drew1) | exact HB.out)))); have n3_ := Aside0.mk (below_step (by repeat (first | (with_reducible first | exact HB.out | apply below_alloc | apply pw_below_drewN | apply below_drew1) | exact HB.out)) hb); clear HO_0; clear HO_19; clear HB; have HO_0 := n0_; have HO_19 := n1_; have HO338 := n2_; have HB := n3_; clear n0_ n1_ n2_ n3_; clear hb ho46; obtain ⟨Ao47, co47, eo47⟩ := Kd.N_slice HO338.out; subst eo47) | ((with_reducible refine gate_callee (f := 10) rfl ?_); refine goesL_ (some 33) rfl rfl Try.func10 (by kernel_rfl) rfl #[.slice Ao47 y336.length co47] rfl (by (try simp only [List.map_toArray, List.map_cons, List.map_nil]); first | done | rfl | (simp only [List.length_drop, List.length_take]; rfl)) ?_; (with_reducible refine (crc_Sum.calls _ _ y336 t339 _ ?side1 ?side2 A13.out).mono ?_); (case side1 => repeat (first | exact (Kd.N_reads' HO338.out).2.2 | (with_reducible refine Kd.C_alloc ?_ _) | (with_reducible refine Kd.C_drewN ?_ _) | (with_reducible refine Kd.C_drew ?_))); (case side2 => exact (Kd.N_reads' HO338.out).2.1); rintro e w48 ⟨rfl, hb⟩; refine ⟨_, rfl, ?_⟩; have n0_ := Aside0.mk (Kd.V_below (by (with_reducible repeat (first | apply Kd.V_alloc | apply Kd.V_drewN | apply Kd.V_drew)); exact HO_0.out) hb); have n1_ := Aside0.mk (Kd.V_below (by (with_reducible repeat (first | apply Kd.V_alloc | apply Kd.V_drewN | apply Kd.V_drew)); exact HO_19.out) hb); have n2_ := Aside0.mk (Kd.N_below (by (with_reducible repeat (first | apply Kd.N_alloc | apply Kd.N_drewN | apply Kd.N_drew)); exact HO338.out) hb); have n3_ := Aside0.mk (below_step (by repeat (first | (with_reducible first | exact HB.out | apply below_alloc | apply pw_below_drewN | apply below_drew1) | exact HB.out)) hb); clear HO_0; clear HO_19; clear HO338; clear HB; have HO_0 := n0_; have HO_19 := n1_; have HO338 := n2_; have HB := n3_; clear n0_ n1_ n2_ n3_; (try clear hb); (try clear hb2); (try clear hk); (try clear hi)))
       go_ret
       exact ⟨by first | rfl | (simp [errW_none, errW_some] <;> rfl) | (simp [*, errW_none, errW_some] <;> rfl), by repeat (first | (with_reducible first | exact HB.out | apply below_alloc | apply pw_below_drewN | apply below_drew1) | exact HB.out)⟩
 ·replace c5 := Bool.eq_false_iff.mpr c5
  subst c5
  have H1 : (some false) = some r := by rw [if_neg (show ¬ (false = true) by decide)] at H; exact H
  clear H
  have H := H1
  clear H1
  obtain rfl := Option.some.inj H
  go_enter Try.func5, Try.ntmps5
  go_wp2_with (first | ((with_reducible refine gate_callee (f := 9) rfl ?_); refine goesL_ (some 12) rfl rfl Try.func9 (by kernel_rfl) rfl #[] rfl (by (try simp only [List.map_toArray, List.map_cons, List.map_nil]); first | done | rfl | (simp only [List.length_drop, List.length_take]; rfl)) ?_; (with_reducible refine (squelchlaw02_live.calls  false _ A4.out).mono ?_); rintro e w49 ⟨rfl, hb⟩; refine ⟨_, rfl, ?_⟩; have n0_ := Aside0.mk (Kd.V_below (by (with_reducible repeat (first | apply Kd.V_alloc | apply Kd.V_drewN | apply Kd.V_drew)); exact HO0.out) hb); have n1_ := Aside0.mk (below_step (by repeat (first | (with_reducible first | exact HB.out | apply below_alloc | apply pw_below_drewN | apply below_drew1) | exact HB.out)) hb); clear HO0; clear HB; have HO0 := n0_; have HB := n1_; clear n0_ n1_; (try clear hb); (try clear hb2); (try clear hk); (try clear hi)))
  go_ret
  exact ⟨by first | rfl | (simp [errW_none, errW_some] <;> rfl) | (simp [*, errW_none, errW_some] <;> rfl), by repeat (first | (with_reducible first | exact HB.out | apply below_alloc | apply pw_below_drewN | apply below_drew1) | exact HB.out)⟩

def squelchlaw02_CrcFolds.Pure : Prop := ∀ (l0 : List Int) (a1 : Int) (a2 : Int), (l0.length * 1 ≤ 140737488351232 ∧ l0.length ≤ 9223372036854775807 ∧ ∀ y0_ ∈ l0, (Lit.int .u8 y0_).wf = true) → (Lit.int .i64 a1).wf = true → (Lit.int .u8 a2).wf = true → ∃ k, squelchlaw02_CrcFolds.f k l0 a1 a2 = some true

end Go.Proofs.Ytfjcehjdendjnaa.PA
-- slim
