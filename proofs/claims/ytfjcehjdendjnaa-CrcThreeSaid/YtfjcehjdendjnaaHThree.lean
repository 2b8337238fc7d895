-- Written for this claim by this session's own printer (wip/patch_print.py over the kit's print).
import Derived.Test.YtfjcehjdendjnaaPAx0
import Derived.Test.YtfjcehjdendjnaaHSum
import Derived.Test.YtfjcehjdendjnaaHLive
import Derived.Test.YtfjcehjdendjnaaGrow
namespace Go.Proofs.Ytfjcehjdendjnaa.PA
open Go.RowKit Go.Proofs.YtfjcehjdendjnaaW.PrintWords Go.Proofs.YtfjcehjdendjnaaW.PrintLast Go.Proofs.YtfjcehjdendjnaaW.PrintMore
attribute [local go_sem] max2_int min2_int max_two min_two max_three min_three max_four min_four   -- for this text's walks alone
set_option linter.unusedVariables false
set_option linter.unusedSimpArgs false

/-! ### squelchlaw02_CrcThree: function 3 -/
def squelchlaw02_CrcThree.l0 : Nat → List Int → List Int → List Int → Bool → Int → List Int → Int → Int → Option (Bool)
 | 0, _, _, _, _, _, _, _, _ => none
 | k + 1, x0, x1, x2, x7, x8, x9, x24, x25 => if x25 < x24 then (if 0 ≤ x25 then (if x25 < (x0.length : Int) then (if x25 < (x1.length : Int) then (if x25 < (x2.length : Int) then (if x9.length < 140737488355328 then (squelchlaw02_CrcThree.l0 k x0 x1 x2 x7 x8 (x9 ++ [Go.bits .xor .u8 (Go.bits .xor .u8 (rd x0 x25) (rd x1 x25)) (rd x2 x25)]) x24 (wrap64 (x25 + 1))) else (none)) else (none)) else (none)) else (none)) else (none)) else (if x7 = true then (if 0 ≤ x8 then (if x8 ≤ (x0.length : Int) then ((crc_Sum.f (([(x0.take (x8 : Int).toNat)] : List (List Int)))).bind fun t310 => (if x8 ≤ (x1.length : Int) then ((crc_Sum.f (([(x1.take (x8 : Int).toNat)] : List (List Int)))).bind fun t319 => (if x8 ≤ (x2.length : Int) then ((crc_Sum.f (([(x2.take (x8 : Int).toNat)] : List (List Int)))).bind fun t328 => ((crc_Sum.f (([x9] : List (List Int)))).bind fun t332 => (some ((Go.bits .xor .u32 (Go.bits .xor .u32 t310 t319) t328) == t332)))) else (none))) else (none))) else (none)) else (none)) else (some false))
def squelchlaw02_CrcThree.f (k : Nat) (l0 : List Int) (l1 : List Int) (l2 : List Int) : Option (Bool) := (squelchlaw02_live.f).bind fun t295 => (if t295 = true then (if (mn (mn (l0.length : Int) (l1.length : Int)) (l2.length : Int)) > 5000 then (some t295) else (squelchlaw02_CrcThree.l0 k l0 l1 l2 t295 (mn (mn (l0.length : Int) (l1.length : Int)) (l2.length : Int)) ([] : List Int) (mn (mn (l0.length : Int) (l1.length : Int)) (l2.length : Int)) 0)) else (some false))
theorem squelchlaw02_CrcThree.mono_l : ∀ k, (∀ y0 y1 y2 y3 y4 y5 y6 y7, LeO (squelchlaw02_CrcThree.l0 k y0 y1 y2 y3 y4 y5 y6 y7) (squelchlaw02_CrcThree.l0 (k + 1) y0 y1 y2 y3 y4 y5 y6 y7))
 | 0 => fun _ _ _ _ _ _ _ _ r h => by simp [squelchlaw02_CrcThree.l0] at h
 | k + 1 => by
  have ih0 := squelchlaw02_CrcThree.mono_l k
  ·intro y0 y1 y2 y3 y4 y5 y6 y7
   unfold squelchlaw02_CrcThree.l0
   repeat' first
   | (with_reducible exact ih0 _ _ _ _ _ _ _ _)
   | (with_reducible exact LeO.refl _)
   | (with_reducible exact LeO.none _)
   | (with_reducible refine LeO.ite ?_ ?_)
   | (with_reducible refine LeO.bind ?_ (fun _ => ?_))
   | exact ih0 _ _ _ _ _ _ _ _
   | exact LeO.none _
   | refine LeO.ite ?_ ?_
   | refine LeO.bind ?_ (fun _ => ?_)
theorem squelchlaw02_CrcThree.mono : ∀ a0 a1 a2 k, LeO (squelchlaw02_CrcThree.f k a0 a1 a2) (squelchlaw02_CrcThree.f (k + 1) a0 a1 a2) := by
 intro a0 a1 a2 k
 have ih0 := squelchlaw02_CrcThree.mono_l k
 unfold squelchlaw02_CrcThree.f
 repeat' first
   | (with_reducible exact ih0 _ _ _ _ _ _ _ _)
   | (with_reducible exact LeO.refl _)
   | (with_reducible exact LeO.none _)
   | (with_reducible refine LeO.ite ?_ ?_)
   | (with_reducible refine LeO.bind ?_ (fun _ => ?_))
   | exact ih0 _ _ _ _ _ _ _ _
   | exact LeO.none _
   | refine LeO.ite ?_ ?_
   | refine LeO.bind ?_ (fun _ => ?_)
def squelchlaw02_CrcThree.T11 : Bool × List (List Nat × List Nat) := (true, [([], []), ([], []), ([], []), ([1, 2], [1, 2]), ([3], [3]), ([], []), ([], []), ([5, 6], [5, 6]), ([7], [7]), ([4, 8], [4, 8]), ([], []), ([], []), ([10, 11], [10, 11]), ([12], [12]), ([9, 13], [9, 13]), ([14], [14]), ([0, 15], [0, 15]), ([16, 16, 0, 1, 2, 3, 4, 5, 6, 7, 8, 9, 10, 11, 12, 13, 14, 15, 16], [0, 16])])
def squelchlaw02_CrcThree.B11 : List Nat := [0, 0, 0, 6, 14, 0, 0, 96, 224, 510, 0, 0, 3072, 7168, 16382, 32766, 65535, 131071]
theorem squelchlaw02_CrcThree.tab11 : rtab .any (opsOf Try.f3 11) = squelchlaw02_CrcThree.T11 := by kernel_rfl
theorem squelchlaw02_CrcThree.bits11 : waitsOk squelchlaw02_CrcThree.T11.2 squelchlaw02_CrcThree.B11 = true := by kernel_rfl
def squelchlaw02_CrcThree.T13 : Bool × List (List Nat × List Nat) := (true, [([], []), ([0], [0]), ([1], [1]), ([1], [1]), ([2, 3, 1], [1, 2, 3]), ([4, 1], [1, 4]), ([5, 1, 1], [1, 5]), ([1], [1]), ([1], [1]), ([7, 8, 1], [1, 7, 8]), ([9, 1], [1, 9]), ([10, 6, 1], [1, 10]), ([6, 11, 1], [1, 6, 11]), ([1], [1]), ([1], [1]), ([13, 14, 1], [1, 13, 14]), ([15, 1], [1, 15]), ([16, 11, 1], [1, 16]), ([12, 17, 1], [1, 12, 17]), ([1], [1]), ([19, 1], [1, 19]), ([20, 17, 1], [1, 20]), ([18, 21, 1], [1, 18, 21]), ([1, 22], [1, 22]), ([23, 21, 0, 1, 2, 3, 4, 5, 6, 7, 8, 9, 10, 11, 12, 13, 14, 15, 16, 17, 18, 19, 20, 21, 22, 23], [23])])
def squelchlaw02_CrcThree.B13 : List Nat := [0, 1, 3, 3, 15, 31, 63, 3, 3, 387, 899, 2047, 4095, 3, 3, 24579, 57347, 126975, 262143, 3, 524291, 1830911, 4194303, 8388607, 16777215]
theorem squelchlaw02_CrcThree.tab13 : rtab .any (opsOf Try.f3 13) = squelchlaw02_CrcThree.T13 := by kernel_rfl
theorem squelchlaw02_CrcThree.bits13 : waitsOk squelchlaw02_CrcThree.T13.2 squelchlaw02_CrcThree.B13 = true := by kernel_rfl
set_option maxHeartbeats 8000000 in
set_option maxRecDepth 100000 in
theorem squelchlaw02_CrcThree.calls (k : Nat) (P0_ : Nat → Prop) (A0 : Option Addr) (c0 : Nat) (l0 : List Int) (P1_ : Nat → Prop) (A1 : Option Addr) (c1 : Nat) (l1 : List Int) (P2_ : Nat → Prop) (A2 : Option Addr) (c2 : Nat) (l2 : List Int) (r : Bool) (w : World) (hs0 : Kd.V (Kd.int .u8) 5 w w.heap.size (fun k_ => P0_ k_) (.slice A0 l0.length c0) l0) (hs1 : Kd.V (Kd.int .u8) 5 w w.heap.size (fun k_ => P1_ k_) (.slice A1 l1.length c1) l1) (hs2 : Kd.V (Kd.int .u8) 5 w w.heap.size (fun k_ => P2_ k_) (.slice A2 l2.length c2) l2) (h : squelchlaw02_CrcThree.f k l0 l1 l2 = some r) :
  Calls Try.prog 3 #[.slice A0 l0.length c0, .slice A1 l1.length c1, .slice A2 l2.length c2] w fun e w' => e = .returned (.bool r) ∧ Below w.heap.size w w' := by
 have HO0 := aM (show Kd.V (Kd.int .u8) 5 w w.heap.size (fun k_ => ((P0_ k_ ∨ P1_ k_ ∨ P2_ k_) ∨ w.heap.size ≤ k_)) (.slice A0 l0.length c0) l0 from Kd.V_mono hs0 (fun k_ hk => .inl (.inl hk)))
 have HO1 := aM (show Kd.V (Kd.int .u8) 5 w w.heap.size (fun k_ => ((P0_ k_ ∨ P1_ k_ ∨ P2_ k_) ∨ w.heap.size ≤ k_)) (.slice A1 l1.length c1) l1 from Kd.V_mono hs1 (fun k_ hk => .inl (.inr (.inl hk))))
 have HO2 := aM (show Kd.V (Kd.int .u8) 5 w w.heap.size (fun k_ => ((P0_ k_ ∨ P1_ k_ ∨ P2_ k_) ∨ w.heap.size ≤ k_)) (.slice A2 l2.length c2) l2 from Kd.V_mono hs2 (fun k_ hk => .inl (.inr (.inr hk))))
 have HB := aM (Below.refl w.heap.size w)
 have H : ((squelchlaw02_live.f).bind fun t295 => (if t295 = true then (if (mn (mn (l0.length : Int) (l1.length : Int)) (l2.length : Int)) > 5000 then (some t295) else (squelchlaw02_CrcThree.l0 k l0 l1 l2 t295 (mn (mn (l0.length : Int) (l1.length : Int)) (l2.length : Int)) ([] : List Int) (mn (mn (l0.length : Int) (l1.length : Int)) (l2.length : Int)) 0)) else (some false))) = some r := h
 clear h
 replace H := Option.bind_eq_some_iff.mp H
 obtain ⟨t295, A40, H⟩ := H
 replace H : (if t295 = true then (if (mn (mn (l0.length : Int) (l1.length : Int)) (l2.length : Int)) > 5000 then (some t295) else (squelchlaw02_CrcThree.l0 k l0 l1 l2 t295 (mn (mn (l0.length : Int) (l1.length : Int)) (l2.length : Int)) ([] : List Int) (mn (mn (l0.length : Int) (l1.length : Int)) (l2.length : Int)) 0)) else (some false)) = some r := H
 have A4 := aM A40
 clear A40
 by_cases c5 : t295 = true
 ·subst c5
  have H1 : (if (mn (mn (l0.length : Int) (l1.length : Int)) (l2.length : Int)) > 5000 then (some true) else (squelchlaw02_CrcThree.l0 k l0 l1 l2 true (mn (mn (l0.length : Int) (l1.length : Int)) (l2.length : Int)) ([] : List Int) (mn (mn (l0.length : Int) (l1.length : Int)) (l2.length : Int)) 0)) = some r := by rw [if_pos rfl] at H; exact H
  clear H
  have H := H1
  clear H1
  obtain ⟨ji6, hji6⟩ : ∃ j_ : Int, (mn (l0.length : Int) (l1.length : Int)) = j_ := ⟨_, rfl⟩
  replace H : (if (mn (ji6) (l2.length : Int)) > 5000 then (some true) else (squelchlaw02_CrcThree.l0 k l0 l1 l2 true (mn (ji6) (l2.length : Int)) ([] : List Int) (mn (ji6) (l2.length : Int)) 0)) = some r := by first | (rw [hji6] at H; exact H) | (simp only [hji6] at H ⊢; exact H)
  (try rw [hji6] at A4)
  (try (have hji6l : 0 ≤ ji6 := by (rw [← hji6]; unfold mn; (repeat' split) <;> omega)))
  (try (have hji6m : 0 ≤ ji6 := by omega))
  have hji6_ : (if (l1.length : Int) < (l0.length : Int) then (l1.length : Int) else (l0.length : Int)) = ji6 := hji6
  have hji6n : (if l1.length < l0.length then (l1.length : Int) else (l0.length : Int)) = ji6 := by have h_ := hji6_; simp only [Int.ofNat_lt] at h_; exact h_
  obtain ⟨ji7, hji7⟩ : ∃ j_ : Int, (mn (ji6) (l2.length : Int)) = j_ := ⟨_, rfl⟩
  replace H : (if (ji7) > 5000 then (some true) else (squelchlaw02_CrcThree.l0 k l0 l1 l2 true ji7 ([] : List Int) ji7 0)) = some r := by first | (rw [hji7] at H; exact H) | (simp only [hji7] at H ⊢; exact H)
  (try rw [hji7] at A4)
  have hji7_ : (if (l2.length : Int) < (ji6) then (l2.length : Int) else (ji6)) = ji7 := hji7
  by_cases c8 : (ji7) > 5000
  ·rw [if_pos c8] at H
   have c8b0 : decide (5000 < (ji7)) = true := decide_eq_true c8
   clear c8
   obtain rfl := Option.some.inj H
   go_enter Try.func3, Try.ntmps3
   go_wp2_with (first | ((with_reducible refine gate_callee (f := 9) rfl ?_); refine goesL_ (some 11) rfl rfl Try.func9 (by kernel_rfl) rfl #[] rfl (by (try simp only [List.map_toArray, List.map_cons, List.map_nil]); first | done | rfl | (simp only [List.length_drop, List.length_take]; rfl)) ?_; (with_reducible refine (squelchlaw02_live.calls  true _ A4.out).mono ?_); rintro e w9 ⟨rfl, hb⟩; refine ⟨_, rfl, ?_⟩; have n0_ := aM (Kd.V_below (by (with_reducible repeat (first | apply Kd.V_alloc | apply Kd.V_drewN | apply Kd.V_drew)); exact HO0.out) hb); have n1_ := aM (Kd.V_below (by (with_reducible repeat (first | apply Kd.V_alloc | apply Kd.V_drewN | apply Kd.V_drew)); exact HO1.out) hb); have n2_ := aM (Kd.V_below (by (with_reducible repeat (first | apply Kd.V_alloc | apply Kd.V_drewN | apply Kd.V_drew)); exact HO2.out) hb); have n3_ := aM (below_step (by repeat (first | (with_reducible first | exact HB.out | apply bA | apply bN | apply bD) | exact HB.out)) hb); clear HO0; clear HO1; clear HO2; clear HB; have HO0 := n0_; have HO1 := n1_; have HO2 := n2_; have HB := n3_; clear n0_ n1_ n2_ n3_; (try clear hb); (try clear hb2); (try clear hk); (try clear hi)))
   go_ret
   exact ⟨by first | rfl | (simp [errW_none, errW_some] <;> rfl) | (simp only [← hji6, ← hji7]; first | rfl | (simp [errW_none, errW_some] <;> rfl)) | (simp [*, errW_none, errW_some] <;> rfl), by repeat (first | (with_reducible first | exact HB.out | apply bA | apply bN | apply bD) | exact HB.out)⟩
  ·rw [if_neg c8] at H
   have c8b0 : decide (5000 < (ji7)) = false := decide_eq_false c8
   clear c8
   have H' := aM H
   clear H
   go_enter Try.func3, Try.ntmps3
   go_wp2_with (first | ((with_reducible refine gate_callee (f := 9) rfl ?_); refine goesL_ (some 11) rfl rfl Try.func9 (by kernel_rfl) rfl #[] rfl (by (try simp only [List.map_toArray, List.map_cons, List.map_nil]); first | done | rfl | (simp only [List.length_drop, List.length_take]; rfl)) ?_; (with_reducible refine (squelchlaw02_live.calls  true _ A4.out).mono ?_); rintro e w10 ⟨rfl, hb⟩; refine ⟨_, rfl, ?_⟩; have n0_ := aM (Kd.V_below (by (with_reducible repeat (first | apply Kd.V_alloc | apply Kd.V_drewN | apply Kd.V_drew)); exact HO0.out) hb); have n1_ := aM (Kd.V_below (by (with_reducible repeat (first | apply Kd.V_alloc | apply Kd.V_drewN | apply Kd.V_drew)); exact HO1.out) hb); have n2_ := aM (Kd.V_below (by (with_reducible repeat (first | apply Kd.V_alloc | apply Kd.V_drewN | apply Kd.V_drew)); exact HO2.out) hb); have n3_ := aM (below_step (by repeat (first | (with_reducible first | exact HB.out | apply bA | apply bN | apply bD) | exact HB.out)) hb); clear HO0; clear HO1; clear HO2; clear HB; have HO0 := n0_; have HO1 := n1_; have HO2 := n2_; have HB := n3_; clear n0_ n1_ n2_ n3_; (try clear hb); (try clear hb2); (try clear hk); (try clear hi)))
   (try simp only [Act.put, List.setIfInBounds_toArray, List.set_cons_zero, List.set_cons_succ])
   go_loopg [9, 25] k (fun kq v9 v25 w' => ∃ (x9_1 : List Int) (x25_1 : Int), v25 = .int .i64 x25_1 ∧ Aside0 (squelchlaw02_CrcThree.l0 kq l0 l1 l2 true ji7 x9_1 ji7 x25_1 = some r) ∧ Aside0 (kq ≤ k) ∧ Aside0 (Kd.V (Kd.int .u8) 5 w' w.heap.size (fun k_ => ((P0_ k_ ∨ P1_ k_ ∨ P2_ k_) ∨ w.heap.size ≤ k_) ∧ some k_ ≠ (v9 : Value).ownBlock) (.slice A0 l0.length c0) l0) ∧ Aside0 (Kd.V (Kd.int .u8) 5 w' w.heap.size (fun k_ => ((P0_ k_ ∨ P1_ k_ ∨ P2_ k_) ∨ w.heap.size ≤ k_) ∧ some k_ ≠ (v9 : Value).ownBlock) (.slice A1 l1.length c1) l1) ∧ Aside0 (Kd.V (Kd.int .u8) 5 w' w.heap.size (fun k_ => ((P0_ k_ ∨ P1_ k_ ∨ P2_ k_) ∨ w.heap.size ≤ k_) ∧ some k_ ≠ (v9 : Value).ownBlock) (.slice A2 l2.length c2) l2) ∧ Aside0 (Kd.R (Kd.int .u8) 5 w' w.heap.size (fun k_ => (w.heap.size ≤ k_)) v9 x9_1) ∧ Aside0 (Below w.heap.size w w'))
   case atStart => exact ⟨(([] : List Int)), (0), (by first | rfl | (simp; done) | (simp [*]; done)), H', ⟨Nat.le_refl _⟩, ⟨by (with_reducible repeat (first | apply Kd.V_alloc | apply Kd.V_drewN | apply Kd.V_drew)); exact Kd.V_mono HO0.out (fun _ hk => ⟨hk, (by simp [Value.ownBlock])⟩)⟩, ⟨by (with_reducible repeat (first | apply Kd.V_alloc | apply Kd.V_drewN | apply Kd.V_drew)); exact Kd.V_mono HO1.out (fun _ hk => ⟨hk, (by simp [Value.ownBlock])⟩)⟩, ⟨by (with_reducible repeat (first | apply Kd.V_alloc | apply Kd.V_drewN | apply Kd.V_drew)); exact Kd.V_mono HO2.out (fun _ hk => ⟨hk, (by simp [Value.ownBlock])⟩)⟩, ⟨by first | exact Kd.R_nil _ _ _ _ _ | exact Kd.N_nil _ _ _ _ _ | exact Kd.V_nil _ _ _ _ _ | exact Kd.Q_nil _ _ _ _ _ | exact Kd.S_nil _ _ _ _ _⟩, ⟨by repeat (first | (with_reducible first | exact HB.out | apply bA | apply bN | apply bD) | exact HB.out)⟩⟩
   case round =>
    clear H'
    try clear c1
    try clear c2
    try clear p2
    try clear c3
    try clear c5
    try clear c8
    try clear c8b0
    try clear c9
    obtain ⟨x9_1, x25_1, rfl, HA, HK1, HO_0, HO_1, HO_2, HO_9, HB⟩ := hrel
    cases gk with
    | zero => exact absurd HA.out (by simp [squelchlaw02_CrcThree.l0])
    | succ k1 =>
     have H := HA.out
     clear HA
     simp only [squelchlaw02_CrcThree.l0] at H
     by_cases c11 : x25_1 < ji7
     ·rw [if_pos c11] at H
      have c11b0 : decide (x25_1 < ji7) = true := decide_eq_true c11
      clear c11
      by_cases c12 : 0 ≤ x25_1
      ·rw [if_pos c12] at H
       have c12b0 : decide (0 ≤ x25_1) = true := decide_eq_true c12
       clear c12
       by_cases c13 : x25_1 < (l0.length : Int)
       ·rw [if_pos c13] at H
        have c13b0 : decide (x25_1 < (l0.length : Int)) = true := decide_eq_true c13
        clear c13
        by_cases c14 : x25_1 < (l1.length : Int)
        ·rw [if_pos c14] at H
         have c14b0 : decide (x25_1 < (l1.length : Int)) = true := decide_eq_true c14
         clear c14
         by_cases c15 : x25_1 < (l2.length : Int)
         ·rw [if_pos c15] at H
          have c15b0 : decide (x25_1 < (l2.length : Int)) = true := decide_eq_true c15
          clear c15
          by_cases c16 : x9_1.length < 140737488355328
          ·rw [if_pos c16] at H
           have LMc16 := aM c16
           clear c16
           obtain ⟨y299, hy299⟩ : ∃ y_ : List Int, y_ = (x9_1 ++ [Go.bits .xor .u8 (Go.bits .xor .u8 (rd l0 x25_1) (rd l1 x25_1)) (rd l2 x25_1)]) := ⟨_, rfl⟩
           replace H : (squelchlaw02_CrcThree.l0 k1 l0 l1 l2 true ji7 y299 ji7 (wrap64 (x25_1 + 1))) = some r := by first | (rw [hy299]; with_reducible exact H) | (have H2_ := (Option.bind_some _ _).symm.trans H; rw [hy299]; with_reducible exact H2_) | (have H2_ := (Option.bind_some _ _).symm.trans H; with_reducible exact H2_) | with_reducible exact H | (rw [hy299]; exact H) | exact H
           have Ny299 := aM hy299
           clear hy299
           have H' := aM H
           clear H
           try go_wp2
           have n0_ := aM (Kd.V_drew HO_0.out)
           have n1_ := aM (Kd.V_drew HO_1.out)
           have n2_ := aM (Kd.V_drew HO_2.out)
           have n3_ := aM (Kd.R_drew HO_9.out)
           have n4_ := aM (bD HB.out)
           clear HO_0
           clear HO_1
           clear HO_2
           clear HO_9
           clear HB
           have HO_0 := n0_
           have HO_1 := n1_
           have HO_2 := n2_
           have HO_9 := n3_
           have HB := n4_
           clear n0_ n1_ n2_ n3_ n4_
           have p296 : 0 ≤ (x25_1 : Int) := of_decide_eq_true (by first | (with_reducible assumption) | assumption)
           have q296 : x25_1 < (l0.length : Int) := of_decide_eq_true (by first | (with_reducible assumption) | assumption)
           obtain ⟨ad296, e296, hx296_0⟩ := Kd.at_int (Kd.V_reads' HO_0.out).2.2 x25_1 p296 q296
           cases e296
           replace p296 := eq_true p296
           replace q296 := eq_true q296
           have p297 : 0 ≤ (x25_1 : Int) := of_decide_eq_true (by first | (with_reducible assumption) | assumption)
           have q297 : x25_1 < (l1.length : Int) := of_decide_eq_true (by first | (with_reducible assumption) | assumption)
           obtain ⟨ad297, e297, hx297_0⟩ := Kd.at_int (Kd.V_reads' HO_1.out).2.2 x25_1 p297 q297
           cases e297
           replace p297 := eq_true p297
           replace q297 := eq_true q297
           have p298 : 0 ≤ (x25_1 : Int) := of_decide_eq_true (by first | (with_reducible assumption) | assumption)
           have q298 : x25_1 < (l2.length : Int) := of_decide_eq_true (by first | (with_reducible assumption) | assumption)
           obtain ⟨ad298, e298, hx298_0⟩ := Kd.at_int (Kd.V_reads' HO_2.out).2.2 x25_1 p298 q298
           cases e298
           replace p298 := eq_true p298
           replace q298 := eq_true q298
           refine start_ (n := 18) (S := fun w' => w'.cell? (ad296.add (x25_1).toNat) = some (.int .u8 (rd l0 x25_1)) ∧ w'.cell? (ad297.add (x25_1).toNat) = some (.int .u8 (rd l1 x25_1)) ∧ w'.cell? (ad298.add (x25_1).toNat) = some (.int .u8 (rd l2 x25_1))) (ds := [15, 16]) #[false, false, false, false, false, false, false, false, false, false, false, false, false, false, false, false, false, false] (by kernel_rfl) rfl rfl ⟨hx296_0, hx297_0, hx298_0⟩ (fun hHeld => ?_); refine with_tabW squelchlaw02_CrcThree.tab11 squelchlaw02_CrcThree.bits11 (fun HT_ HW_ => ?_)
           generalize wr.drew = w17 at HO_0 HO_1 HO_2 HO_9 HB hx296_0 hx297_0 hx298_0 hHeld ⊢
           refine pure_ (i := 0) (N := some 28) (v := ?_) (a' := ?_) #[true, false, false, false, false, false, false, false, false, false, false, false, false, false, false, false, false, false] rfl rfl (any_of HT_.out (by kernel_rfl)) (fun _ _ _ h => h) (Or.inl ⟨by rfl, ?_⟩) ?_ ?_
           rotate_left
           ·intro w'
            go_simp
            with_reducible rfl
           rotate_left
           ·simp only [Act.put, List.setIfInBounds_toArray, List.set_cons_zero, List.set_cons_succ, i64_w, i32_w]
            rfl
           refine pure_ (i := 1) (N := some 29) (v := ?_) (a' := ?_) #[true, true, false, false, false, false, false, false, false, false, false, false, false, false, false, false, false, false] rfl rfl (any_of HT_.out (by kernel_rfl)) (fun _ _ _ h => h) (Or.inl ⟨by rfl, ?_⟩) ?_ ?_
           rotate_left
           ·intro w'
            go_simp
            with_reducible rfl
           rotate_left
           ·simp only [Act.put, List.setIfInBounds_toArray, List.set_cons_zero, List.set_cons_succ, i64_w, i32_w]
            rfl
           refine pure_ (i := 2) (N := some 30) (v := ?_) (a' := ?_) #[true, true, true, false, false, false, false, false, false, false, false, false, false, false, false, false, false, false] rfl rfl (any_of HT_.out (by kernel_rfl)) (fun _ _ _ h => h) (Or.inl ⟨by rfl, ?_⟩) ?_ ?_
           rotate_left
           ·intro w'
            go_simp
            with_reducible rfl
           rotate_left
           ·simp only [Act.put, List.setIfInBounds_toArray, List.set_cons_zero, List.set_cons_succ, i64_w, i32_w]
            rfl
           refine pure_ (i := 3) (N := some 31) (v := ?_) (a' := ?_) #[true, true, true, true, false, false, false, false, false, false, false, false, false, false, false, false, false, false] rfl rfl (any_of HT_.out (by kernel_rfl)) (fun _ _ _ h => h) (Or.inl ⟨by rfl, ?_⟩) ?_ ?_
           rotate_left
           ·intro w'
            go_simp
            with_reducible rfl
           rotate_left
           ·simp only [Act.put, List.setIfInBounds_toArray, List.set_cons_zero, List.set_cons_succ, i64_w, i32_w]
            rfl
           refine pure_ (i := 5) (N := some 33) (v := ?_) (a' := ?_) #[true, true, true, true, false, true, false, false, false, false, false, false, false, false, false, false, false, false] rfl rfl (any_of HT_.out (by kernel_rfl)) (fun _ _ _ h => h) (Or.inl ⟨by rfl, ?_⟩) ?_ ?_
           rotate_left
           ·intro w'
            go_simp
            with_reducible rfl
           rotate_left
           ·simp only [Act.put, List.setIfInBounds_toArray, List.set_cons_zero, List.set_cons_succ, i64_w, i32_w]
            rfl
           refine pure_ (i := 6) (N := some 34) (v := ?_) (a' := ?_) #[true, true, true, true, false, true, true, false, false, false, false, false, false, false, false, false, false, false] rfl rfl (any_of HT_.out (by kernel_rfl)) (fun _ _ _ h => h) (Or.inl ⟨by rfl, ?_⟩) ?_ ?_
           rotate_left
           ·intro w'
            go_simp
            with_reducible rfl
           rotate_left
           ·simp only [Act.put, List.setIfInBounds_toArray, List.set_cons_zero, List.set_cons_succ, i64_w, i32_w]
            rfl
           refine pure_ (i := 7) (N := some 35) (v := ?_) (a' := ?_) #[true, true, true, true, false, true, true, true, false, false, false, false, false, false, false, false, false, false] rfl rfl (any_of HT_.out (by kernel_rfl)) (fun _ _ _ h => h) (Or.inl ⟨by rfl, ?_⟩) ?_ ?_
           rotate_left
           ·intro w'
            go_simp
            with_reducible rfl
           rotate_left
           ·simp only [Act.put, List.setIfInBounds_toArray, List.set_cons_zero, List.set_cons_succ, i64_w, i32_w]
            rfl
           refine pure_ (i := 10) (N := some 38) (v := ?_) (a' := ?_) #[true, true, true, true, false, true, true, true, false, false, true, false, false, false, false, false, false, false] rfl rfl (any_of HT_.out (by kernel_rfl)) (fun _ _ _ h => h) (Or.inl ⟨by rfl, ?_⟩) ?_ ?_
           rotate_left
           ·intro w'
            go_simp
            with_reducible rfl
           rotate_left
           ·simp only [Act.put, List.setIfInBounds_toArray, List.set_cons_zero, List.set_cons_succ, i64_w, i32_w]
            rfl
           refine pure_ (i := 11) (N := some 39) (v := ?_) (a' := ?_) #[true, true, true, true, false, true, true, true, false, false, true, true, false, false, false, false, false, false] rfl rfl (any_of HT_.out (by kernel_rfl)) (fun _ _ _ h => h) (Or.inl ⟨by rfl, ?_⟩) ?_ ?_
           rotate_left
           ·intro w'
            go_simp
            with_reducible rfl
           rotate_left
           ·simp only [Act.put, List.setIfInBounds_toArray, List.set_cons_zero, List.set_cons_succ, i64_w, i32_w]
            rfl
           refine pure_ (i := 12) (N := some 40) (v := ?_) (a' := ?_) #[true, true, true, true, false, true, true, true, false, false, true, true, true, false, false, false, false, false] rfl rfl (any_of HT_.out (by kernel_rfl)) (fun _ _ _ h => h) (Or.inl ⟨by rfl, ?_⟩) ?_ ?_
           rotate_left
           ·intro w'
            go_simp
            with_reducible rfl
           rotate_left
           ·simp only [Act.put, List.setIfInBounds_toArray, List.set_cons_zero, List.set_cons_succ, i64_w, i32_w]
            rfl
           refine take_ (i := 4) (N := some 32) (v := ?_) (a' := ?_) #[true, true, true, true, true, true, true, true, false, false, true, true, true, false, false, false, false, false] rfl rfl (take_ofW HT_.out HW_.out (by kernel_rfl)) (fun _ _ _ h => h) (Or.inl ⟨by rfl, ?_⟩) hHeld ?_ ?_
           rotate_left
           ·rintro w' ⟨s0, s1, s2⟩
            go_simp
            with_reducible rfl
           rotate_left
           ·simp only [Act.put, List.setIfInBounds_toArray, List.set_cons_zero, List.set_cons_succ, i64_w, i32_w]
            rfl
           refine take_ (i := 8) (N := some 36) (v := ?_) (a' := ?_) #[true, true, true, true, true, true, true, true, true, false, true, true, true, false, false, false, false, false] rfl rfl (take_ofW HT_.out HW_.out (by kernel_rfl)) (fun _ _ _ h => h) (Or.inl ⟨by rfl, ?_⟩) hHeld ?_ ?_
           rotate_left
           ·rintro w' ⟨s0, s1, s2⟩
            go_simp
            with_reducible rfl
           rotate_left
           ·simp only [Act.put, List.setIfInBounds_toArray, List.set_cons_zero, List.set_cons_succ, i64_w, i32_w]
            rfl
           refine pure_ (i := 9) (N := some 37) (v := ?_) (a' := ?_) #[true, true, true, true, true, true, true, true, true, true, true, true, true, false, false, false, false, false] rfl rfl (any_of HT_.out (by kernel_rfl)) (fun _ _ _ h => h) (Or.inl ⟨by rfl, ?_⟩) ?_ ?_
           rotate_left
           ·intro w'
            go_simp
            with_reducible rfl
           rotate_left
           ·simp only [Act.put, List.setIfInBounds_toArray, List.set_cons_zero, List.set_cons_succ, i64_w, i32_w]
            rfl
           refine take_ (i := 13) (N := some 41) (v := ?_) (a' := ?_) #[true, true, true, true, true, true, true, true, true, true, true, true, true, true, false, false, false, false] rfl rfl (take_ofW HT_.out HW_.out (by kernel_rfl)) (fun _ _ _ h => h) (Or.inl ⟨by rfl, ?_⟩) hHeld ?_ ?_
           rotate_left
           ·rintro w' ⟨s0, s1, s2⟩
            go_simp
            with_reducible rfl
           rotate_left
           ·simp only [Act.put, List.setIfInBounds_toArray, List.set_cons_zero, List.set_cons_succ, i64_w, i32_w]
            rfl
           refine pure_ (i := 14) (N := some 42) (v := ?_) (a' := ?_) #[true, true, true, true, true, true, true, true, true, true, true, true, true, true, true, false, false, false] rfl rfl (any_of HT_.out (by kernel_rfl)) (fun _ _ _ h => h) (Or.inl ⟨by rfl, ?_⟩) ?_ ?_
           rotate_left
           ·intro w'
            go_simp
            with_reducible rfl
           rotate_left
           ·simp only [Act.put, List.setIfInBounds_toArray, List.set_cons_zero, List.set_cons_succ, i64_w, i32_w]
            rfl
           refine last_ (i := 15) (N := some 43) #[true, true, true, true, true, true, true, true, true, true, true, true, true, true, true, true, false, false] rfl rfl (one_of HT_.out (by kernel_rfl)) (by decide) (fun K hK => ?_)
           refine value_ (w1 := ?_) (v := ?_) (by rfl) rfl ?_ ?_
           rotate_left 2
           ·go_simp
            constructor
            ·rfl
            ·rfl
           refine hK.out _ _ ?_
           clear hK K
           refine norm_ (a' := ?_) ?_ ?_
           rotate_left
           ·show Act.put _ (some 43) _ = _
            simp only [Act.put, List.setIfInBounds_toArray, List.set_cons_zero, List.set_cons_succ, i64_w, i32_w]
            rfl
           refine last_ (i := 16) (N := some 44) #[true, true, true, true, true, true, true, true, true, true, true, true, true, true, true, true, true, false] rfl rfl (one_of HT_.out (by kernel_rfl)) (by decide) (fun K hK => ?_)
           refine Kd.R_append_step (Kd.int .u8) (w0 := w) w.heap.size (by rfl) (.tmp 28) (.tmp 43) 22 5 (.int .u8 0) 1 rfl Try.underlying22 info5 rfl (by decide) (by omega) u9 x9_1 (Go.bits .xor .u8 (Go.bits .xor .u8 (rd l0 x25_1) (rd l1 x25_1)) (rd l2 x25_1)) [.int .u8 (Go.bits .xor .u8 (Go.bits .xor .u8 (rd l0 x25_1) (rd l1 x25_1)) (rd l2 x25_1))] (fun k_ => (w.heap.size ≤ k_)) (fun _ => False) rfl rfl ?aP (fun _ hk => hk.elim) ?aF ?aO ?aB ?aS ?aL ?_
           (case aP => exact rfl)
           (case aB => exact (by repeat (first | (with_reducible first | exact HB.out | apply bA | apply bN | apply bD) | exact HB.out)))
           (case aF => exact (fun k_ hk => (Nat.le_trans (below_size (by repeat (first | (with_reducible first | exact HB.out | apply bA | apply bN | apply bD) | exact HB.out))) hk)))
           (case aO => exact (by (with_reducible repeat (first | apply Kd.R_alloc | apply Kd.R_drewN | apply Kd.R_drew)); exact HO_9.out))
           (case aS => exact (below_size (by repeat (first | (with_reducible first | exact HB.out | apply bA | apply bN | apply bD) | exact HB.out))))
           (case aL => have := LMc16.out; omega)
           intro v300 w18 ho hb hg hat
           rw [← Ny299.out] at ho
           have n0_ := aM (Kd.V_afterv (ok := (fun k_ => ((P0_ k_ ∨ P1_ k_ ∨ P2_ k_) ∨ w.heap.size ≤ k_))) (by (with_reducible repeat (first | apply Kd.V_alloc | apply Kd.V_drewN | apply Kd.V_drew)); exact HO_0.out) hg hat)
           have n1_ := aM (Kd.V_afterv (ok := (fun k_ => ((P0_ k_ ∨ P1_ k_ ∨ P2_ k_) ∨ w.heap.size ≤ k_))) (by (with_reducible repeat (first | apply Kd.V_alloc | apply Kd.V_drewN | apply Kd.V_drew)); exact HO_1.out) hg hat)
           have n2_ := aM (Kd.V_afterv (ok := (fun k_ => ((P0_ k_ ∨ P1_ k_ ∨ P2_ k_) ∨ w.heap.size ≤ k_))) (by (with_reducible repeat (first | apply Kd.V_alloc | apply Kd.V_drewN | apply Kd.V_drew)); exact HO_2.out) hg hat)
           have n3_ := aM (hb)
           have n4_ := aM (ho)
           clear HO_0
           clear HO_1
           clear HO_2
           clear HB
           clear HO_9
           have HO_0 := n0_
           have HO_1 := n1_
           have HO_2 := n2_
           have HB := n3_
           have HO301 := n4_
           clear n0_ n1_ n2_ n3_ n4_
           clear ho hb hg hat
           refine hK.out _ _ ?_
           clear hK K
           refine norm_ (a' := ?_) ?_ ?_
           rotate_left
           ·show Act.put _ (some 44) _ = _
            simp only [Act.put, List.setIfInBounds_toArray, List.set_cons_zero, List.set_cons_succ, i64_w, i32_w]
            rfl
           refine pure_ (i := 17) (N := some 9) (v := ?_) (a' := ?_) #[true, true, true, true, true, true, true, true, true, true, true, true, true, true, true, true, true, true] rfl rfl (any_of HT_.out (by kernel_rfl)) (fun _ _ _ h => h) (Or.inl ⟨by rfl, ?_⟩) ?_ ?_
           rotate_left
           ·intro w'
            go_simp
            with_reducible rfl
           rotate_left
           ·simp only [Act.put, List.setIfInBounds_toArray, List.set_cons_zero, List.set_cons_succ, i64_w, i32_w]
            rfl
           refine done_ (done_of HT_.out (by kernel_rfl)) ?_
           try go_wp2
           go_roundg k1
           case measure => have := HK1.out; omega
           case rel => exact ⟨(y299), (wrap64 (x25_1 + 1)), (by first | rfl | (simp; done) | (simp [*]; done)), H', ⟨by have := HK1.out; omega⟩, ⟨by (with_reducible repeat (first | apply Kd.V_alloc | apply Kd.V_drewN | apply Kd.V_drew)); exact HO_0.out⟩, ⟨by (with_reducible repeat (first | apply Kd.V_alloc | apply Kd.V_drewN | apply Kd.V_drew)); exact HO_1.out⟩, ⟨by (with_reducible repeat (first | apply Kd.V_alloc | apply Kd.V_drewN | apply Kd.V_drew)); exact HO_2.out⟩, ⟨by (with_reducible repeat (first | apply Kd.R_alloc | apply Kd.R_drewN | apply Kd.R_drew)); exact HO301.out⟩, ⟨by repeat (first | (with_reducible first | exact HB.out | apply bA | apply bN | apply bD) | exact HB.out)⟩⟩
          ·rw [if_neg c16] at H
           exact absurd H (by simp)
         ·rw [if_neg c15] at H
          exact absurd H (by simp)
        ·rw [if_neg c14] at H
         exact absurd H (by simp)
       ·rw [if_neg c13] at H
        exact absurd H (by simp)
      ·rw [if_neg c12] at H
       exact absurd H (by simp)
     ·rw [if_neg c11] at H
      have c11b0 : decide (x25_1 < ji7) = false := decide_eq_false c11
      clear c11
      have H1 : (if 0 ≤ ji7 then (if ji7 ≤ (l0.length : Int) then ((crc_Sum.f (([(l0.take (ji7 : Int).toNat)] : List (List Int)))).bind fun t310 => (if ji7 ≤ (l1.length : Int) then ((crc_Sum.f (([(l1.take (ji7 : Int).toNat)] : List (List Int)))).bind fun t319 => (if ji7 ≤ (l2.length : Int) then ((crc_Sum.f (([(l2.take (ji7 : Int).toNat)] : List (List Int)))).bind fun t328 => ((crc_Sum.f (([x9_1] : List (List Int)))).bind fun t332 => (some ((Go.bits .xor .u32 (Go.bits .xor .u32 t310 t319) t328) == t332)))) else (none))) else (none))) else (none)) else (none)) = some r := by first | (rw [if_pos rfl] at H; exact H) | (rw [if_pos trivial] at H; exact H)
      clear H
      have H := H1
      clear H1
      by_cases c19 : 0 ≤ ji7
      ·rw [if_pos c19] at H
       have c19b0 := eq_true c19
       have c19b1 : decide (0 ≤ ji7) = true := decide_eq_true c19
       clear c19
       by_cases c20 : ji7 ≤ (l0.length : Int)
       ·rw [if_pos c20] at H
        have c20b0 := eq_true c20
        have c20b1 : decide (ji7 ≤ (l0.length : Int)) = true := decide_eq_true c20
        clear c20
        obtain ⟨y302, hy302⟩ : ∃ y_ : List Int, y_ = (l0.take (ji7 : Int).toNat) := ⟨_, rfl⟩
        replace H : ((crc_Sum.f (([y302] : List (List Int)))).bind fun t310 => (if ji7 ≤ (l1.length : Int) then ((crc_Sum.f (([(l1.take (ji7 : Int).toNat)] : List (List Int)))).bind fun t319 => (if ji7 ≤ (l2.length : Int) then ((crc_Sum.f (([(l2.take (ji7 : Int).toNat)] : List (List Int)))).bind fun t328 => ((crc_Sum.f (([x9_1] : List (List Int)))).bind fun t332 => (some ((Go.bits .xor .u32 (Go.bits .xor .u32 t310 t319) t328) == t332)))) else (none))) else (none))) = some r := by first | (rw [hy302]; with_reducible exact H) | (have H2_ := (Option.bind_some _ _).symm.trans H; rw [hy302]; with_reducible exact H2_) | (have H2_ := (Option.bind_some _ _).symm.trans H; with_reducible exact H2_) | with_reducible exact H | (rw [hy302]; exact H) | exact H
        have Ny302 := aM hy302
        clear hy302
        obtain ⟨y307, hy307⟩ : ∃ y_ : List (List Int), y_ = (([y302] : List (List Int))) := ⟨_, rfl⟩
        replace H : ((crc_Sum.f y307).bind fun t310 => (if ji7 ≤ (l1.length : Int) then ((crc_Sum.f (([(l1.take (ji7 : Int).toNat)] : List (List Int)))).bind fun t319 => (if ji7 ≤ (l2.length : Int) then ((crc_Sum.f (([(l2.take (ji7 : Int).toNat)] : List (List Int)))).bind fun t328 => ((crc_Sum.f (([x9_1] : List (List Int)))).bind fun t332 => (some ((Go.bits .xor .u32 (Go.bits .xor .u32 t310 t319) t328) == t332)))) else (none))) else (none))) = some r := by first | (rw [hy307]; with_reducible exact H) | (have H2_ := (Option.bind_some _ _).symm.trans H; rw [hy307]; with_reducible exact H2_) | (have H2_ := (Option.bind_some _ _).symm.trans H; with_reducible exact H2_) | with_reducible exact H | (rw [hy307]; exact H) | exact H
        have Ny307 := aM hy307
        clear hy307
        replace H := Option.bind_eq_some_iff.mp H
        obtain ⟨t310, A210, H⟩ := H
        replace H : (if ji7 ≤ (l1.length : Int) then ((crc_Sum.f (([(l1.take (ji7 : Int).toNat)] : List (List Int)))).bind fun t319 => (if ji7 ≤ (l2.length : Int) then ((crc_Sum.f (([(l2.take (ji7 : Int).toNat)] : List (List Int)))).bind fun t328 => ((crc_Sum.f (([x9_1] : List (List Int)))).bind fun t332 => (some ((Go.bits .xor .u32 (Go.bits .xor .u32 t310 t319) t328) == t332)))) else (none))) else (none)) = some r := H
        have A21 := aM A210
        clear A210
        have c22b0 := eq_true (of_decide_eq_true (by first | (with_reducible assumption) | assumption) : 0 ≤ ji7)
        by_cases c23 : ji7 ≤ (l1.length : Int)
        ·rw [if_pos c23] at H
         have c23b0 := eq_true c23
         have c23b1 : decide (ji7 ≤ (l1.length : Int)) = true := decide_eq_true c23
         clear c23
         obtain ⟨y311, hy311⟩ : ∃ y_ : List Int, y_ = (l1.take (ji7 : Int).toNat) := ⟨_, rfl⟩
         replace H : ((crc_Sum.f (([y311] : List (List Int)))).bind fun t319 => (if ji7 ≤ (l2.length : Int) then ((crc_Sum.f (([(l2.take (ji7 : Int).toNat)] : List (List Int)))).bind fun t328 => ((crc_Sum.f (([x9_1] : List (List Int)))).bind fun t332 => (some ((Go.bits .xor .u32 (Go.bits .xor .u32 t310 t319) t328) == t332)))) else (none))) = some r := by first | (rw [hy311]; with_reducible exact H) | (have H2_ := (Option.bind_some _ _).symm.trans H; rw [hy311]; with_reducible exact H2_) | (have H2_ := (Option.bind_some _ _).symm.trans H; with_reducible exact H2_) | with_reducible exact H | (rw [hy311]; exact H) | exact H
         have Ny311 := aM hy311
         clear hy311
         obtain ⟨y316, hy316⟩ : ∃ y_ : List (List Int), y_ = (([y311] : List (List Int))) := ⟨_, rfl⟩
         replace H : ((crc_Sum.f y316).bind fun t319 => (if ji7 ≤ (l2.length : Int) then ((crc_Sum.f (([(l2.take (ji7 : Int).toNat)] : List (List Int)))).bind fun t328 => ((crc_Sum.f (([x9_1] : List (List Int)))).bind fun t332 => (some ((Go.bits .xor .u32 (Go.bits .xor .u32 t310 t319) t328) == t332)))) else (none))) = some r := by first | (rw [hy316]; with_reducible exact H) | (have H2_ := (Option.bind_some _ _).symm.trans H; rw [hy316]; with_reducible exact H2_) | (have H2_ := (Option.bind_some _ _).symm.trans H; with_reducible exact H2_) | with_reducible exact H | (rw [hy316]; exact H) | exact H
         have Ny316 := aM hy316
         clear hy316
         replace H := Option.bind_eq_some_iff.mp H
         obtain ⟨t319, A240, H⟩ := H
         replace H : (if ji7 ≤ (l2.length : Int) then ((crc_Sum.f (([(l2.take (ji7 : Int).toNat)] : List (List Int)))).bind fun t328 => ((crc_Sum.f (([x9_1] : List (List Int)))).bind fun t332 => (some ((Go.bits .xor .u32 (Go.bits .xor .u32 t310 t319) t328) == t332)))) else (none)) = some r := H
         have A24 := aM A240
         clear A240
         have c25b0 := eq_true (of_decide_eq_true (by first | (with_reducible assumption) | assumption) : 0 ≤ ji7)
         by_cases c26 : ji7 ≤ (l2.length : Int)
         ·rw [if_pos c26] at H
          have c26b0 := eq_true c26
          have c26b1 : decide (ji7 ≤ (l2.length : Int)) = true := decide_eq_true c26
          clear c26
          obtain ⟨y320, hy320⟩ : ∃ y_ : List Int, y_ = (l2.take (ji7 : Int).toNat) := ⟨_, rfl⟩
          replace H : ((crc_Sum.f (([y320] : List (List Int)))).bind fun t328 => ((crc_Sum.f (([x9_1] : List (List Int)))).bind fun t332 => (some ((Go.bits .xor .u32 (Go.bits .xor .u32 t310 t319) t328) == t332)))) = some r := by first | (rw [hy320]; with_reducible exact H) | (have H2_ := (Option.bind_some _ _).symm.trans H; rw [hy320]; with_reducible exact H2_) | (have H2_ := (Option.bind_some _ _).symm.trans H; with_reducible exact H2_) | with_reducible exact H | (rw [hy320]; exact H) | exact H
          have Ny320 := aM hy320
          clear hy320
          obtain ⟨y325, hy325⟩ : ∃ y_ : List (List Int), y_ = (([y320] : List (List Int))) := ⟨_, rfl⟩
          replace H : ((crc_Sum.f y325).bind fun t328 => ((crc_Sum.f (([x9_1] : List (List Int)))).bind fun t332 => (some ((Go.bits .xor .u32 (Go.bits .xor .u32 t310 t319) t328) == t332)))) = some r := by first | (rw [hy325]; with_reducible exact H) | (have H2_ := (Option.bind_some _ _).symm.trans H; rw [hy325]; with_reducible exact H2_) | (have H2_ := (Option.bind_some _ _).symm.trans H; with_reducible exact H2_) | with_reducible exact H | (rw [hy325]; exact H) | exact H
          have Ny325 := aM hy325
          clear hy325
          replace H := Option.bind_eq_some_iff.mp H
          obtain ⟨t328, A270, H⟩ := H
          replace H : ((crc_Sum.f (([x9_1] : List (List Int)))).bind fun t332 => (some ((Go.bits .xor .u32 (Go.bits .xor .u32 t310 t319) t328) == t332))) = some r := H
          have A27 := aM A270
          clear A270
          obtain ⟨y329, hy329⟩ : ∃ y_ : List (List Int), y_ = (([x9_1] : List (List Int))) := ⟨_, rfl⟩
          replace H : ((crc_Sum.f y329).bind fun t332 => (some ((Go.bits .xor .u32 (Go.bits .xor .u32 t310 t319) t328) == t332))) = some r := by first | (rw [hy329]; with_reducible exact H) | (have H2_ := (Option.bind_some _ _).symm.trans H; rw [hy329]; with_reducible exact H2_) | (have H2_ := (Option.bind_some _ _).symm.trans H; with_reducible exact H2_) | with_reducible exact H | (rw [hy329]; exact H) | exact H
          have Ny329 := aM hy329
          clear hy329
          replace H := Option.bind_eq_some_iff.mp H
          obtain ⟨t332, A280, H⟩ := H
          replace H : (some ((Go.bits .xor .u32 (Go.bits .xor .u32 t310 t319) t328) == t332)) = some r := H
          have A28 := aM A280
          clear A280
          obtain rfl := Option.some.inj H
          obtain ⟨Ao9, co9, eo9⟩ := Kd.R_slice HO_9.out
          subst eo9
          have hl0 := (Kd.V_reads' HO_0.out)
          have hl1 := (Kd.V_reads' HO_1.out)
          have hl2 := (Kd.V_reads' HO_2.out)
          have hl9 := (Kd.R_reads' HO_9.out)
          obtain ⟨i0, hi0, _, hsz0, _⟩ := info_parts info5
          obtain ⟨HcA, HdA, HeA⟩ := print_take_of (P := Try.prog) (Value.int .u8) 0 22 5 .i64 Try.underlying22 hi0 hsz0 A0 c0 l0 ji7 (of_decide_eq_true (by first | (with_reducible assumption) | assumption)) (of_decide_eq_true (by first | (with_reducible assumption) | assumption)) hl0.2.1
          have HEA := HdA _ (Kd.reads_of_C hl0.2.2)
          have hlA : ∀ W, Below wr.heap.size wr W → gholds (.inr [l0.take (ji7 : Int).toNat]) (.slice (some ⟨W.heap.size, 0, none⟩) 1 1) (W.alloc (.cells #[.slice A0 (l0.take (ji7 : Int).toNat).length c0] 22)) := fun W hB => one_lit W (Kd.C_below (Kd.C_of_reads (h1 := fun _ => rfl) HEA) hB) HeA
          obtain ⟨HcB, HdB, HeB⟩ := print_take_of (P := Try.prog) (Value.int .u8) 0 22 5 .i64 Try.underlying22 hi0 hsz0 A1 c1 l1 ji7 (of_decide_eq_true (by first | (with_reducible assumption) | assumption)) (of_decide_eq_true (by first | (with_reducible assumption) | assumption)) hl1.2.1
          have HEB := HdB _ (Kd.reads_of_C hl1.2.2)
          have hlB : ∀ W, Below wr.heap.size wr W → gholds (.inr [l1.take (ji7 : Int).toNat]) (.slice (some ⟨W.heap.size, 0, none⟩) 1 1) (W.alloc (.cells #[.slice A1 (l1.take (ji7 : Int).toNat).length c1] 22)) := fun W hB => one_lit W (Kd.C_below (Kd.C_of_reads (h1 := fun _ => rfl) HEB) hB) HeB
          obtain ⟨HcC, HdC, HeC⟩ := print_take_of (P := Try.prog) (Value.int .u8) 0 22 5 .i64 Try.underlying22 hi0 hsz0 A2 c2 l2 ji7 (of_decide_eq_true (by first | (with_reducible assumption) | assumption)) (of_decide_eq_true (by first | (with_reducible assumption) | assumption)) hl2.2.1
          have HEC := HdC _ (Kd.reads_of_C hl2.2.2)
          have hlC : ∀ W, Below wr.heap.size wr W → gholds (.inr [l2.take (ji7 : Int).toNat]) (.slice (some ⟨W.heap.size, 0, none⟩) 1 1) (W.alloc (.cells #[.slice A2 (l2.take (ji7 : Int).toNat).length c2] 22)) := fun W hB => one_lit W (Kd.C_below (Kd.C_of_reads (h1 := fun _ => rfl) HEC) hB) HeC
          have hlD : ∀ W, Below wr.heap.size wr W → gholds (.inr [x9_1]) (.slice (some ⟨W.heap.size, 0, none⟩) 1 1) (W.alloc (.cells #[.slice Ao9 x9_1.length co9] 22)) := fun W hB => one_lit W (Kd.C_below hl9.2.2 hB) hl9.2.1
          rw [Ny307.out, Ny302.out] at A21
          rw [Ny316.out, Ny311.out] at A24
          rw [Ny325.out, Ny320.out] at A27
          rw [Ny329.out] at A28
          have S21 := A21.out
          have S24 := A24.out
          have S27 := A27.out
          have S28 := A28.out
          go_wp2
          have hB0 := HB.out
          refine wp_region_grow (by kernel_rfl) (by kernel_rfl) (by kernel_rfl) (gfact [.inl (.bool true), .inl (.bool true), .inl (.slice A0 l0.length c0), .inl (.int .i64 ji7), .inl (.slice A0 (l0.take (ji7 : Int).toNat).length c0), .inr [l0.take (ji7 : Int).toNat], .inl (.int .u32 t310), .inl (.slice A1 l1.length c1), .inl (.int .i64 ji7), .inl (.slice A1 (l1.take (ji7 : Int).toNat).length c1), .inr [l1.take (ji7 : Int).toNat], .inl (.int .u32 t319), .inl (.int .u32 (Go.bits .xor .u32 t310 t319)), .inl (.slice A2 l2.length c2), .inl (.int .i64 ji7), .inl (.slice A2 (l2.take (ji7 : Int).toNat).length c2), .inr [l2.take (ji7 : Int).toNat], .inl (.int .u32 t328), .inl (.int .u32 (Go.bits .xor .u32 (Go.bits .xor .u32 t310 t319) t328)), .inl (.slice Ao9 x9_1.length co9), .inr [x9_1], .inl (.int .u32 t332), .inl (.bool (Go.bits .xor .u32 (Go.bits .xor .u32 t310 t319) t328 == t332)), .inl (.bool (Go.bits .xor .u32 (Go.bits .xor .u32 t310 t319) t328 == t332)), .inl (.bool (Go.bits .xor .u32 (Go.bits .xor .u32 t310 t319) t328 == t332))]) (fun i v W W' h hb => gholds_below h hb) ?_ ?_
          ·intro i o ho a W hfr hdep hB K hK
           clear HO_0 HO_1 HO_2 HO_9
           match i, ho with
           | 0, ho =>
            obtain rfl := Option.some.inj ho
            have e0 : a.eval (.tmp 7) = (.bool true) := eval_tmp ((hfr 7 (notdst (by kernel_rfl))).trans rfl)
            exact step_move ((.bool true)) (.tmp 7) (wanted_none _ rfl) (by first | exact .inl rfl | exact .inr rfl) e0 (hK _ _ rfl (Below.refl _ _))
           | 1, ho =>
            obtain rfl := Option.some.inj ho
            obtain ⟨v0, hv0, ev0⟩ := get_dep hdep 0 46 (by kernel_rfl) rfl
            have e0 : a.eval (.tmp 46) = (.bool true) := (eval_tmp hv0).trans ev0
            exact step_move ((.bool true)) (.tmp 46) (wanted_none _ rfl) (by first | exact .inl rfl | exact .inr rfl) e0 (hK _ _ rfl (Below.refl _ _))
           | 2, ho =>
            obtain rfl := Option.some.inj ho
            obtain ⟨vg, hg, eg⟩ := get_dep hdep 1 47 (by kernel_rfl) rfl
            obtain rfl : vg = .bool true := eg
            have e0 : a.eval (.tmp 0) = (.slice A0 l0.length c0) := eval_tmp ((hfr 0 (notdst (by kernel_rfl))).trans rfl)
            exact step_move ((.slice A0 l0.length c0)) (.tmp 0) (wanted_some 1 47 true rfl rfl hg) (by first | exact .inl rfl | exact .inr rfl) e0 (hK _ _ rfl (Below.refl _ _))
           | 3, ho =>
            obtain rfl := Option.some.inj ho
            obtain ⟨vg, hg, eg⟩ := get_dep hdep 1 47 (by kernel_rfl) rfl
            obtain rfl : vg = .bool true := eg
            have e0 : a.eval (.tmp 8) = (.int .i64 ji7) := eval_tmp ((hfr 8 (notdst (by kernel_rfl))).trans rfl)
            exact step_move ((.int .i64 ji7)) (.tmp 8) (wanted_some 1 47 true rfl rfl hg) (by first | exact .inl rfl | exact .inr rfl) e0 (hK _ _ rfl (Below.refl _ _))
           | 4, ho =>
            obtain rfl := Option.some.inj ho
            obtain ⟨vg, hg, eg⟩ := get_dep hdep 1 47 (by kernel_rfl) rfl
            obtain rfl : vg = .bool true := eg
            obtain ⟨v0, hv0, ev0⟩ := get_dep hdep 2 48 (by kernel_rfl) rfl
            have e0 : a.eval (.tmp 48) = (.slice A0 l0.length c0) := (eval_tmp hv0).trans ev0
            obtain ⟨v1, hv1, ev1⟩ := get_dep hdep 3 49 (by kernel_rfl) rfl
            have e1 : a.eval (.tmp 49) = (.int .i64 ji7) := (eval_tmp hv1).trans ev1
            exact step_cut 22 (.tmp 48) (.tmp 49) _ _ _ (.int .i64 ji7) ((.slice A0 (l0.take (ji7 : Int).toNat).length c0)) (wanted_some 1 47 true rfl rfl hg) rfl e0 e1 (by have hc_ := HcA W; go_simp) (hK _ _ rfl (Below.refl _ _))
           | 5, ho =>
            obtain rfl := Option.some.inj ho
            obtain ⟨vg, hg, eg⟩ := get_dep hdep 1 47 (by kernel_rfl) rfl
            obtain rfl : vg = .bool true := eg
            obtain ⟨v0, hv0, ev0⟩ := get_dep hdep 4 50 (by kernel_rfl) rfl
            have e0 : a.eval (.tmp 50) = (.slice A0 (l0.take (ji7 : Int).toNat).length c0) := (eval_tmp hv0).trans ev0
            exact step_lit1 27 22 (.tmp 50) ((.slice A0 (l0.take (ji7 : Int).toNat).length c0)) (wanted_some 1 47 true rfl rfl hg) rfl e0 (by go_simp) (hK _ _ (hlA W (hB)) (below_alloc (Below.refl _ _) _))
           | 6, ho =>
            obtain rfl := Option.some.inj ho
            obtain ⟨vg, hg, eg⟩ := get_dep hdep 1 47 (by kernel_rfl) rfl
            obtain rfl : vg = .bool true := eg
            obtain ⟨v0, hv0, ⟨Ab, cb, rfl, hcb, hC⟩⟩ := get_dep hdep 5 51 (by kernel_rfl) rfl
            have e0 : a.eval (.tmp 51) = .slice Ab 1 cb := eval_tmp hv0
            refine goes_ Try.func10 (by kernel_rfl) rfl #[.slice Ab 1 cb] (wanted_some 1 47 true rfl rfl hg) rfl rfl (by simp [e0]) ?_
            refine (crc_Sum.calls _ _ _ _ _ hC hcb S21).mono ?_
            rintro e w1 ⟨rfl, hb⟩
            exact ⟨_, rfl, hK _ _ rfl hb⟩
           | 7, ho =>
            obtain rfl := Option.some.inj ho
            obtain ⟨vg, hg, eg⟩ := get_dep hdep 1 47 (by kernel_rfl) rfl
            obtain rfl : vg = .bool true := eg
            have e0 : a.eval (.tmp 1) = (.slice A1 l1.length c1) := eval_tmp ((hfr 1 (notdst (by kernel_rfl))).trans rfl)
            exact step_move ((.slice A1 l1.length c1)) (.tmp 1) (wanted_some 1 47 true rfl rfl hg) (by first | exact .inl rfl | exact .inr rfl) e0 (hK _ _ rfl (Below.refl _ _))
           | 8, ho =>
            obtain rfl := Option.some.inj ho
            obtain ⟨vg, hg, eg⟩ := get_dep hdep 1 47 (by kernel_rfl) rfl
            obtain rfl : vg = .bool true := eg
            have e0 : a.eval (.tmp 8) = (.int .i64 ji7) := eval_tmp ((hfr 8 (notdst (by kernel_rfl))).trans rfl)
            exact step_move ((.int .i64 ji7)) (.tmp 8) (wanted_some 1 47 true rfl rfl hg) (by first | exact .inl rfl | exact .inr rfl) e0 (hK _ _ rfl (Below.refl _ _))
           | 9, ho =>
            obtain rfl := Option.some.inj ho
            obtain ⟨vg, hg, eg⟩ := get_dep hdep 1 47 (by kernel_rfl) rfl
            obtain rfl : vg = .bool true := eg
            obtain ⟨v0, hv0, ev0⟩ := get_dep hdep 7 53 (by kernel_rfl) rfl
            have e0 : a.eval (.tmp 53) = (.slice A1 l1.length c1) := (eval_tmp hv0).trans ev0
            obtain ⟨v1, hv1, ev1⟩ := get_dep hdep 8 54 (by kernel_rfl) rfl
            have e1 : a.eval (.tmp 54) = (.int .i64 ji7) := (eval_tmp hv1).trans ev1
            exact step_cut 22 (.tmp 53) (.tmp 54) _ _ _ (.int .i64 ji7) ((.slice A1 (l1.take (ji7 : Int).toNat).length c1)) (wanted_some 1 47 true rfl rfl hg) rfl e0 e1 (by have hc_ := HcB W; go_simp) (hK _ _ rfl (Below.refl _ _))
           | 10, ho =>
            obtain rfl := Option.some.inj ho
            obtain ⟨vg, hg, eg⟩ := get_dep hdep 1 47 (by kernel_rfl) rfl
            obtain rfl : vg = .bool true := eg
            obtain ⟨v0, hv0, ev0⟩ := get_dep hdep 9 55 (by kernel_rfl) rfl
            have e0 : a.eval (.tmp 55) = (.slice A1 (l1.take (ji7 : Int).toNat).length c1) := (eval_tmp hv0).trans ev0
            exact step_lit1 27 22 (.tmp 55) ((.slice A1 (l1.take (ji7 : Int).toNat).length c1)) (wanted_some 1 47 true rfl rfl hg) rfl e0 (by go_simp) (hK _ _ (hlB W (hB)) (below_alloc (Below.refl _ _) _))
           | 11, ho =>
            obtain rfl := Option.some.inj ho
            obtain ⟨vg, hg, eg⟩ := get_dep hdep 1 47 (by kernel_rfl) rfl
            obtain rfl : vg = .bool true := eg
            obtain ⟨v0, hv0, ⟨Ab, cb, rfl, hcb, hC⟩⟩ := get_dep hdep 10 56 (by kernel_rfl) rfl
            have e0 : a.eval (.tmp 56) = .slice Ab 1 cb := eval_tmp hv0
            refine goes_ Try.func10 (by kernel_rfl) rfl #[.slice Ab 1 cb] (wanted_some 1 47 true rfl rfl hg) rfl rfl (by simp [e0]) ?_
            refine (crc_Sum.calls _ _ _ _ _ hC hcb S24).mono ?_
            rintro e w1 ⟨rfl, hb⟩
            exact ⟨_, rfl, hK _ _ rfl hb⟩
           | 12, ho =>
            obtain rfl := Option.some.inj ho
            obtain ⟨vg, hg, eg⟩ := get_dep hdep 1 47 (by kernel_rfl) rfl
            obtain rfl : vg = .bool true := eg
            obtain ⟨v0, hv0, ev0⟩ := get_dep hdep 6 52 (by kernel_rfl) rfl
            have e0 : a.eval (.tmp 52) = (.int .u32 t310) := (eval_tmp hv0).trans ev0
            obtain ⟨v1, hv1, ev1⟩ := get_dep hdep 11 57 (by kernel_rfl) rfl
            have e1 : a.eval (.tmp 57) = (.int .u32 t319) := (eval_tmp hv1).trans ev1
            exact step_bin .xor 24 24 (.tmp 52) (.tmp 57) ((.int .u32 t310)) ((.int .u32 t319)) ((.int .u32 (Go.bits .xor .u32 t310 t319))) (wanted_some 1 47 true rfl rfl hg) rfl e0 e1 (by go_simp) (hK _ _ rfl (Below.refl _ _))
           | 13, ho =>
            obtain rfl := Option.some.inj ho
            obtain ⟨vg, hg, eg⟩ := get_dep hdep 1 47 (by kernel_rfl) rfl
            obtain rfl : vg = .bool true := eg
            have e0 : a.eval (.tmp 2) = (.slice A2 l2.length c2) := eval_tmp ((hfr 2 (notdst (by kernel_rfl))).trans rfl)
            exact step_move ((.slice A2 l2.length c2)) (.tmp 2) (wanted_some 1 47 true rfl rfl hg) (by first | exact .inl rfl | exact .inr rfl) e0 (hK _ _ rfl (Below.refl _ _))
           | 14, ho =>
            obtain rfl := Option.some.inj ho
            obtain ⟨vg, hg, eg⟩ := get_dep hdep 1 47 (by kernel_rfl) rfl
            obtain rfl : vg = .bool true := eg
            have e0 : a.eval (.tmp 8) = (.int .i64 ji7) := eval_tmp ((hfr 8 (notdst (by kernel_rfl))).trans rfl)
            exact step_move ((.int .i64 ji7)) (.tmp 8) (wanted_some 1 47 true rfl rfl hg) (by first | exact .inl rfl | exact .inr rfl) e0 (hK _ _ rfl (Below.refl _ _))
           | 15, ho =>
            obtain rfl := Option.some.inj ho
            obtain ⟨vg, hg, eg⟩ := get_dep hdep 1 47 (by kernel_rfl) rfl
            obtain rfl : vg = .bool true := eg
            obtain ⟨v0, hv0, ev0⟩ := get_dep hdep 13 59 (by kernel_rfl) rfl
            have e0 : a.eval (.tmp 59) = (.slice A2 l2.length c2) := (eval_tmp hv0).trans ev0
            obtain ⟨v1, hv1, ev1⟩ := get_dep hdep 14 60 (by kernel_rfl) rfl
            have e1 : a.eval (.tmp 60) = (.int .i64 ji7) := (eval_tmp hv1).trans ev1
            exact step_cut 22 (.tmp 59) (.tmp 60) _ _ _ (.int .i64 ji7) ((.slice A2 (l2.take (ji7 : Int).toNat).length c2)) (wanted_some 1 47 true rfl rfl hg) rfl e0 e1 (by have hc_ := HcC W; go_simp) (hK _ _ rfl (Below.refl _ _))
           | 16, ho =>
            obtain rfl := Option.some.inj ho
            obtain ⟨vg, hg, eg⟩ := get_dep hdep 1 47 (by kernel_rfl) rfl
            obtain rfl : vg = .bool true := eg
            obtain ⟨v0, hv0, ev0⟩ := get_dep hdep 15 61 (by kernel_rfl) rfl
            have e0 : a.eval (.tmp 61) = (.slice A2 (l2.take (ji7 : Int).toNat).length c2) := (eval_tmp hv0).trans ev0
            exact step_lit1 27 22 (.tmp 61) ((.slice A2 (l2.take (ji7 : Int).toNat).length c2)) (wanted_some 1 47 true rfl rfl hg) rfl e0 (by go_simp) (hK _ _ (hlC W (hB)) (below_alloc (Below.refl _ _) _))
           | 17, ho =>
            obtain rfl := Option.some.inj ho
            obtain ⟨vg, hg, eg⟩ := get_dep hdep 1 47 (by kernel_rfl) rfl
            obtain rfl : vg = .bool true := eg
            obtain ⟨v0, hv0, ⟨Ab, cb, rfl, hcb, hC⟩⟩ := get_dep hdep 16 62 (by kernel_rfl) rfl
            have e0 : a.eval (.tmp 62) = .slice Ab 1 cb := eval_tmp hv0
            refine goes_ Try.func10 (by kernel_rfl) rfl #[.slice Ab 1 cb] (wanted_some 1 47 true rfl rfl hg) rfl rfl (by simp [e0]) ?_
            refine (crc_Sum.calls _ _ _ _ _ hC hcb S27).mono ?_
            rintro e w1 ⟨rfl, hb⟩
            exact ⟨_, rfl, hK _ _ rfl hb⟩
           | 18, ho =>
            obtain rfl := Option.some.inj ho
            obtain ⟨vg, hg, eg⟩ := get_dep hdep 1 47 (by kernel_rfl) rfl
            obtain rfl : vg = .bool true := eg
            obtain ⟨v0, hv0, ev0⟩ := get_dep hdep 12 58 (by kernel_rfl) rfl
            have e0 : a.eval (.tmp 58) = (.int .u32 (Go.bits .xor .u32 t310 t319)) := (eval_tmp hv0).trans ev0
            obtain ⟨v1, hv1, ev1⟩ := get_dep hdep 17 63 (by kernel_rfl) rfl
            have e1 : a.eval (.tmp 63) = (.int .u32 t328) := (eval_tmp hv1).trans ev1
            exact step_bin .xor 24 24 (.tmp 58) (.tmp 63) ((.int .u32 (Go.bits .xor .u32 t310 t319))) ((.int .u32 t328)) ((.int .u32 (Go.bits .xor .u32 (Go.bits .xor .u32 t310 t319) t328))) (wanted_some 1 47 true rfl rfl hg) rfl e0 e1 (by go_simp) (hK _ _ rfl (Below.refl _ _))
           | 19, ho =>
            obtain rfl := Option.some.inj ho
            obtain ⟨vg, hg, eg⟩ := get_dep hdep 1 47 (by kernel_rfl) rfl
            obtain rfl : vg = .bool true := eg
            have e0 : a.eval (.tmp 9) = (.slice Ao9 x9_1.length co9) := eval_tmp ((hfr 9 (notdst (by kernel_rfl))).trans rfl)
            exact step_move ((.slice Ao9 x9_1.length co9)) (.tmp 9) (wanted_some 1 47 true rfl rfl hg) (by first | exact .inl rfl | exact .inr rfl) e0 (hK _ _ rfl (Below.refl _ _))
           | 20, ho =>
            obtain rfl := Option.some.inj ho
            obtain ⟨vg, hg, eg⟩ := get_dep hdep 1 47 (by kernel_rfl) rfl
            obtain rfl : vg = .bool true := eg
            obtain ⟨v0, hv0, ev0⟩ := get_dep hdep 19 65 (by kernel_rfl) rfl
            have e0 : a.eval (.tmp 65) = (.slice Ao9 x9_1.length co9) := (eval_tmp hv0).trans ev0
            exact step_lit1 27 22 (.tmp 65) ((.slice Ao9 x9_1.length co9)) (wanted_some 1 47 true rfl rfl hg) rfl e0 (by go_simp) (hK _ _ (hlD W (hB)) (below_alloc (Below.refl _ _) _))
           | 21, ho =>
            obtain rfl := Option.some.inj ho
            obtain ⟨vg, hg, eg⟩ := get_dep hdep 1 47 (by kernel_rfl) rfl
            obtain rfl : vg = .bool true := eg
            obtain ⟨v0, hv0, ⟨Ab, cb, rfl, hcb, hC⟩⟩ := get_dep hdep 20 66 (by kernel_rfl) rfl
            have e0 : a.eval (.tmp 66) = .slice Ab 1 cb := eval_tmp hv0
            refine goes_ Try.func10 (by kernel_rfl) rfl #[.slice Ab 1 cb] (wanted_some 1 47 true rfl rfl hg) rfl rfl (by simp [e0]) ?_
            refine (crc_Sum.calls _ _ _ _ _ hC hcb S28).mono ?_
            rintro e w1 ⟨rfl, hb⟩
            exact ⟨_, rfl, hK _ _ rfl hb⟩
           | 22, ho =>
            obtain rfl := Option.some.inj ho
            obtain ⟨vg, hg, eg⟩ := get_dep hdep 1 47 (by kernel_rfl) rfl
            obtain rfl : vg = .bool true := eg
            obtain ⟨v0, hv0, ev0⟩ := get_dep hdep 18 64 (by kernel_rfl) rfl
            have e0 : a.eval (.tmp 64) = (.int .u32 (Go.bits .xor .u32 (Go.bits .xor .u32 t310 t319) t328)) := (eval_tmp hv0).trans ev0
            obtain ⟨v1, hv1, ev1⟩ := get_dep hdep 21 67 (by kernel_rfl) rfl
            have e1 : a.eval (.tmp 67) = (.int .u32 t332) := (eval_tmp hv1).trans ev1
            exact step_bin .eql 24 24 (.tmp 64) (.tmp 67) ((.int .u32 (Go.bits .xor .u32 (Go.bits .xor .u32 t310 t319) t328))) ((.int .u32 t332)) ((.bool (Go.bits .xor .u32 (Go.bits .xor .u32 t310 t319) t328 == t332))) (wanted_some 1 47 true rfl rfl hg) rfl e0 e1 (by go_simp) (hK _ _ rfl (Below.refl _ _))
           | 23, ho =>
            obtain rfl := Option.some.inj ho
            obtain ⟨v0, hv0, ev0⟩ := get_dep hdep 1 47 (by kernel_rfl) rfl
            have e0 : a.eval (.tmp 47) = (.bool true) := (eval_tmp hv0).trans ev0
            obtain ⟨v1, hv1, ev1⟩ := get_dep hdep 22 68 (by kernel_rfl) rfl
            have e1 : a.eval (.tmp 68) = (.bool (Go.bits .xor .u32 (Go.bits .xor .u32 t310 t319) t328 == t332)) := (eval_tmp hv1).trans ev1
            exact step_pick true (.tmp 47) (.tmp 68) (.const (.bool false)) ((.bool (Go.bits .xor .u32 (Go.bits .xor .u32 t310 t319) t328 == t332))) (.bool false) (wanted_none _ rfl) rfl e0 e1 rfl (hK _ _ rfl (Below.refl _ _))
           | 24, ho =>
            obtain rfl := Option.some.inj ho
            obtain ⟨v0, hv0, ev0⟩ := get_dep hdep 23 69 (by kernel_rfl) rfl
            have e0 : a.eval (.tmp 69) = (.bool (Go.bits .xor .u32 (Go.bits .xor .u32 t310 t319) t328 == t332)) := (eval_tmp hv0).trans ev0
            exact step_move ((.bool (Go.bits .xor .u32 (Go.bits .xor .u32 t310 t319) t328 == t332))) (.tmp 69) (wanted_none _ rfl) (by first | exact .inl rfl | exact .inr rfl) e0 (hK _ _ rfl (Below.refl _ _))
           | n + 25, ho => exact absurd ho (by simp)
          ·rename_i hret
           intro a W hdf hfr hv hB
           obtain ⟨v, h6, e6⟩ := hv 24 6 rfl
           obtain rfl : v = (.bool (Go.bits .xor .u32 (Go.bits .xor .u32 t310 t319) t328 == t332)) := e6
           refine hret _ _ (wp_ret ?_)
           exact bodyPost_ret ((results_tmp (t := 6) rfl _ _ _).trans (congrArg (fun v_ => Result.ok v_ W) (eval_tmp h6))) (hdf.trans rfl) ⟨rfl, below_step HB.out hB⟩
         ·rw [if_neg c26] at H
          exact absurd H (by simp)
        ·rw [if_neg c23] at H
         exact absurd H (by simp)
       ·rw [if_neg c20] at H
        exact absurd H (by simp)
      ·rw [if_neg c19] at H
       exact absurd H (by simp)
 ·replace c5 := Bool.eq_false_iff.mpr c5
  subst c5
  have H1 : (some false) = some r := by rw [if_neg (show ¬ (false = true) by decide)] at H; exact H
  clear H
  have H := H1
  clear H1
  obtain rfl := Option.some.inj H
  go_enter Try.func3, Try.ntmps3
  go_wp2_with (first | ((with_reducible refine gate_callee (f := 9) rfl ?_); refine goesL_ (some 11) rfl rfl Try.func9 (by kernel_rfl) rfl #[] rfl (by (try simp only [List.map_toArray, List.map_cons, List.map_nil]); first | done | rfl | (simp only [List.length_drop, List.length_take]; rfl)) ?_; (with_reducible refine (squelchlaw02_live.calls  false _ A4.out).mono ?_); rintro e w51 ⟨rfl, hb⟩; refine ⟨_, rfl, ?_⟩; have n0_ := aM (Kd.V_below (by (with_reducible repeat (first | apply Kd.V_alloc | apply Kd.V_drewN | apply Kd.V_drew)); exact HO0.out) hb); have n1_ := aM (Kd.V_below (by (with_reducible repeat (first | apply Kd.V_alloc | apply Kd.V_drewN | apply Kd.V_drew)); exact HO1.out) hb); have n2_ := aM (Kd.V_below (by (with_reducible repeat (first | apply Kd.V_alloc | apply Kd.V_drewN | apply Kd.V_drew)); exact HO2.out) hb); have n3_ := aM (below_step (by repeat (first | (with_reducible first | exact HB.out | apply bA | apply bN | apply bD) | exact HB.out)) hb); clear HO0; clear HO1; clear HO2; clear HB; have HO0 := n0_; have HO1 := n1_; have HO2 := n2_; have HB := n3_; clear n0_ n1_ n2_ n3_; (try clear hb); (try clear hb2); (try clear hk); (try clear hi)))
  go_ret
  exact ⟨by first | rfl | (simp [errW_none, errW_some] <;> rfl) | (simp [*, errW_none, errW_some] <;> rfl), by repeat (first | (with_reducible first | exact HB.out | apply bA | apply bN | apply bD) | exact HB.out)⟩

def squelchlaw02_CrcThree.Pure : Prop := ∀ (l0 : List Int) (l1 : List Int) (l2 : List Int), (l0.length * 1 ≤ 140737488351232 ∧ l0.length ≤ 9223372036854775807 ∧ ∀ y0_ ∈ l0, (Lit.int .u8 y0_).wf = true) → (l1.length * 1 ≤ 140737488351232 ∧ l1.length ≤ 9223372036854775807 ∧ ∀ y0_ ∈ l1, (Lit.int .u8 y0_).wf = true) → (l2.length * 1 ≤ 140737488351232 ∧ l2.length ≤ 9223372036854775807 ∧ ∀ y0_ ∈ l2, (Lit.int .u8 y0_).wf = true) → ∃ k, squelchlaw02_CrcThree.f k l0 l1 l2 = some true

end Go.Proofs.Ytfjcehjdendjnaa.PA
-- slim
