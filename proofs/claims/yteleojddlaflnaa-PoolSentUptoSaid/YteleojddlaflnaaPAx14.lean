-- Written for this claim by this session's own printer (wip/patch_print.py over the kit's print).
import Derived.Test.YteleojddlaflnaaPAx0
import Derived.Test.YteleojddlaflnaaPAx3
import Derived.Test.YteleojddlaflnaaPAx5
import Derived.Test.YteleojddlaflnaaPAx12
import Derived.Test.YteleojddlaflnaaPAx13
namespace Go.Proofs.Yteleojddlaflnaa.PA
open Go.RowKit Go.Proofs.YteleojddlaflnaaW.PrintWords Go.Proofs.YteleojddlaflnaaW.PrintLast Go.Proofs.YteleojddlaflnaaW.PrintMore
attribute [local go_sem] max2_int min2_int max_two min_two max_three min_three max_four min_four   -- for this text's walks alone
set_option linter.unusedVariables false
set_option linter.unusedSimpArgs false

/-! ### squelchlaw21_PoolSent: function 4 -/
mutual
def squelchlaw21_PoolSent.l0 : Nat → Bool → List (S31) → List (S42) → Int → Int → Int → List (S31) → Option (Bool)
 | 0, _, _, _, _, _, _, _ => none
 | k + 1, x5, x8, x35, x36, x37, x437000, x437001 => if x37 < x36 then (if 0 ≤ x37 then (if x37 < (x35.length : Int) then ((squelchlaw21_few.f k x437000 x437001 ((rd_T42 x35 x37).f3)).bind fun t439 => (if t439 = true then (if ((rd_T42 x35 x37).f0) = 5 then (squelchlaw21_PoolSent.l0 k x5 x8 x35 x36 (wrap64 (x37 + 1)) x437000 x437001) else ((squelchlaw21_body.f k x437000 x437001 ((rd_T42 x35 x37).f0) ((rd_T42 x35 x37).f1) ((rd_T42 x35 x37).f2) ((rd_T42 x35 x37).f3)).bind fun bt440 => (if bt440.2.2.2.2.2 = 0 then (if ((rd_T42 x35 x37).f0) = 0 then (if (bt440.2.2.2.2.1.length : Int) = 1 then (if 0 < (bt440.2.2.2.2.1.length : Int) then (if (rd bt440.2.2.2.2.1 0) < 0 then (some false) else (if (rd bt440.2.2.2.2.1 0) > (((rd_T42 x35 x37).f3).length : Int) then (some false) else (if (bt440.2.1.length : Int) = (wrap64 ((x437001.length : Int) + (rd bt440.2.2.2.2.1 0))) then (if 0 ≤ (rd bt440.2.2.2.2.1 0) then (if (rd bt440.2.2.2.2.1 0) ≤ (((rd_T42 x35 x37).f3).length : Int) then ((some (((rd_T42 x35 x37).f3).take ((rd bt440.2.2.2.2.1 0) : Int).toNat : List (S31))).bind fun y458 => (if x8.length + y458.length < 4398046511104 then (squelchlaw21_PoolSent.j1 k x5 (x8 ++ y458) x35 x36 x37 ((rd_T42 x35 x37).f0) ((rd_T42 x35 x37).f1) ((rd_T42 x35 x37).f2) ((rd_T42 x35 x37).f3) bt440.1 bt440.2.1 bt440.2.2.1 bt440.2.2.2.1) else (none))) else (none)) else (none)) else (some false)))) else (none)) else (some false)) else (squelchlaw21_PoolSent.j1 k x5 x8 x35 x36 x37 ((rd_T42 x35 x37).f0) ((rd_T42 x35 x37).f1) ((rd_T42 x35 x37).f2) ((rd_T42 x35 x37).f3) bt440.1 bt440.2.1 bt440.2.2.1 bt440.2.2.2.1)) else (squelchlaw21_PoolSent.l0 k x5 x8 x35 x36 (wrap64 (x37 + 1)) x437000 x437001)))) else (some x5))) else (none)) else (none)) else (some x5)
def squelchlaw21_PoolSent.j1 : Nat → Bool → List (S31) → List (S42) → Int → Int → Int → Int → Int → List (S31) → Int → List (S31) → Int → List Int → Option (Bool)
 | 0, _, _, _, _, _, _, _, _, _, _, _, _, _ => none
 | k + 1, x5, x8, x35, x36, x37, x439000, x439001, x439002, x439003, x453000, x453001, x454000, x454001 => if x439000 = 1 then ((squelchlaw21_among.f k x8 x454000 x454001).bind fun t466 => (squelchlaw21_PoolSent.j2 k x5 x8 x35 x36 x37 (!t466) x453000 x453001)) else (squelchlaw21_PoolSent.j2 k x5 x8 x35 x36 x37 false x453000 x453001)
def squelchlaw21_PoolSent.j2 : Nat → Bool → List (S31) → List (S42) → Int → Int → Bool → Int → List (S31) → Option (Bool)
 | 0, _, _, _, _, _, _, _, _ => none
 | k + 1, x5, x8, x35, x36, x37, x110, x453000, x453001 => if x110 = true then (some false) else (squelchlaw21_PoolSent.l1 k x5 x8 x35 x36 x37 x453001 (x453001.length : Int) 0 x453000 x453001)
def squelchlaw21_PoolSent.l1 : Nat → Bool → List (S31) → List (S42) → Int → Int → List (S31) → Int → Int → Int → List (S31) → Option (Bool)
 | 0, _, _, _, _, _, _, _, _, _, _ => none
 | k + 1, x5, x8, x35, x36, x37, x112, x113, x114, x453000, x453001 => if x114 < x113 then (if 0 ≤ x114 then (if x114 < (x112.length : Int) then ((squelchlaw21_among.f k x8 ((rd_T31 x112 x114).f0) ((rd_T31 x112 x114).f1)).bind fun t469 => (if t469 = true then (squelchlaw21_PoolSent.l1 k x5 x8 x35 x36 x37 x112 x113 (wrap64 (x114 + 1)) x453000 x453001) else (some false))) else (none)) else (none)) else (if (x453001.length : Int) > x453000 then (some false) else (squelchlaw21_PoolSent.l0 k x5 x8 x35 x36 (wrap64 (x37 + 1)) x453000 x453001))
end
def squelchlaw21_PoolSent.f (k : Nat) (a0 : Int) (l1 : List (S42)) : Option (Bool) := (squelchlaw21_live.f k).bind fun t430 => (if t430 = true then (if (l1.length : Int) > 100 then (some t430) else ((pool_New.f k (wrap64 (1 + (Int.tmod (wrap64 ((Int.tmod a0 256) + 256)) 256)))).bind fun bt431 => (if bt431.2.2 = 0 then (squelchlaw21_PoolSent.l0 k t430 ([] : List (S31)) l1 (l1.length : Int) 0 bt431.1 bt431.2.1) else (some false)))) else (some false))
theorem squelchlaw21_PoolSent.mono_l : ∀ k, (∀ y0 y1 y2 y3 y4 y5 y6, LeO (squelchlaw21_PoolSent.l0 k y0 y1 y2 y3 y4 y5 y6) (squelchlaw21_PoolSent.l0 (k + 1) y0 y1 y2 y3 y4 y5 y6)) ∧ (∀ y0 y1 y2 y3 y4 y5 y6 y7 y8 y9 y10 y11 y12, LeO (squelchlaw21_PoolSent.j1 k y0 y1 y2 y3 y4 y5 y6 y7 y8 y9 y10 y11 y12) (squelchlaw21_PoolSent.j1 (k + 1) y0 y1 y2 y3 y4 y5 y6 y7 y8 y9 y10 y11 y12)) ∧ (∀ y0 y1 y2 y3 y4 y5 y6 y7, LeO (squelchlaw21_PoolSent.j2 k y0 y1 y2 y3 y4 y5 y6 y7) (squelchlaw21_PoolSent.j2 (k + 1) y0 y1 y2 y3 y4 y5 y6 y7)) ∧ (∀ y0 y1 y2 y3 y4 y5 y6 y7 y8 y9, LeO (squelchlaw21_PoolSent.l1 k y0 y1 y2 y3 y4 y5 y6 y7 y8 y9) (squelchlaw21_PoolSent.l1 (k + 1) y0 y1 y2 y3 y4 y5 y6 y7 y8 y9))
 | 0 => ⟨fun _ _ _ _ _ _ _ r h => by simp [squelchlaw21_PoolSent.l0] at h, fun _ _ _ _ _ _ _ _ _ _ _ _ _ r h => by simp [squelchlaw21_PoolSent.j1] at h, fun _ _ _ _ _ _ _ _ r h => by simp [squelchlaw21_PoolSent.j2] at h, fun _ _ _ _ _ _ _ _ _ _ r h => by simp [squelchlaw21_PoolSent.l1] at h⟩
 | k + 1 => by
  obtain ⟨ih0, ih1, ih2, ih3⟩ := squelchlaw21_PoolSent.mono_l k
  refine ⟨?_, ?_, ?_, ?_⟩
  ·intro y0 y1 y2 y3 y4 y5 y6
   unfold squelchlaw21_PoolSent.l0
   repeat' first
   | (with_reducible exact ih0 _ _ _ _ _ _ _)
   | (with_reducible exact ih1 _ _ _ _ _ _ _ _ _ _ _ _ _)
   | (with_reducible exact ih2 _ _ _ _ _ _ _ _)
   | (with_reducible exact ih3 _ _ _ _ _ _ _ _ _ _)
   | (with_reducible exact pool_New.mono _ _)
   | (with_reducible exact squelchlaw21_among.mono _ _ _ _)
   | (with_reducible exact squelchlaw21_body.mono _ _ _ _ _ _ _)
   | (with_reducible exact squelchlaw21_few.mono _ _ _ _)
   | (with_reducible exact squelchlaw21_live.mono _)
   | (with_reducible exact LeO.refl _)
   | (with_reducible exact LeO.none _)
   | (with_reducible refine LeO.ite ?_ ?_)
   | (with_reducible refine LeO.bind ?_ (fun _ => ?_))
   | exact ih0 _ _ _ _ _ _ _
   | exact ih1 _ _ _ _ _ _ _ _ _ _ _ _ _
   | exact ih2 _ _ _ _ _ _ _ _
   | exact ih3 _ _ _ _ _ _ _ _ _ _
   | exact pool_New.mono _ _
   | exact squelchlaw21_among.mono _ _ _ _
   | exact squelchlaw21_body.mono _ _ _ _ _ _ _
   | exact squelchlaw21_few.mono _ _ _ _
   | exact squelchlaw21_live.mono _
   | exact LeO.none _
   | refine LeO.ite ?_ ?_
   | refine LeO.bind ?_ (fun _ => ?_)
  ·intro y0 y1 y2 y3 y4 y5 y6 y7 y8 y9 y10 y11 y12
   unfold squelchlaw21_PoolSent.j1
   repeat' first
   | (with_reducible exact ih0 _ _ _ _ _ _ _)
   | (with_reducible exact ih1 _ _ _ _ _ _ _ _ _ _ _ _ _)
   | (with_reducible exact ih2 _ _ _ _ _ _ _ _)
   | (with_reducible exact ih3 _ _ _ _ _ _ _ _ _ _)
   | (with_reducible exact pool_New.mono _ _)
   | (with_reducible exact squelchlaw21_among.mono _ _ _ _)
   | (with_reducible exact squelchlaw21_body.mono _ _ _ _ _ _ _)
   | (with_reducible exact squelchlaw21_few.mono _ _ _ _)
   | (with_reducible exact squelchlaw21_live.mono _)
   | (with_reducible exact LeO.refl _)
   | (with_reducible exact LeO.none _)
   | (with_reducible refine LeO.ite ?_ ?_)
   | (with_reducible refine LeO.bind ?_ (fun _ => ?_))
   | exact ih0 _ _ _ _ _ _ _
   | exact ih1 _ _ _ _ _ _ _ _ _ _ _ _ _
   | exact ih2 _ _ _ _ _ _ _ _
   | exact ih3 _ _ _ _ _ _ _ _ _ _
   | exact pool_New.mono _ _
   | exact squelchlaw21_among.mono _ _ _ _
   | exact squelchlaw21_body.mono _ _ _ _ _ _ _
   | exact squelchlaw21_few.mono _ _ _ _
   | exact squelchlaw21_live.mono _
   | exact LeO.none _
   | refine LeO.ite ?_ ?_
   | refine LeO.bind ?_ (fun _ => ?_)
  ·intro y0 y1 y2 y3 y4 y5 y6 y7
   unfold squelchlaw21_PoolSent.j2
   repeat' first
   | (with_reducible exact ih0 _ _ _ _ _ _ _)
   | (with_reducible exact ih1 _ _ _ _ _ _ _ _ _ _ _ _ _)
   | (with_reducible exact ih2 _ _ _ _ _ _ _ _)
   | (with_reducible exact ih3 _ _ _ _ _ _ _ _ _ _)
   | (with_reducible exact pool_New.mono _ _)
   | (with_reducible exact squelchlaw21_among.mono _ _ _ _)
   | (with_reducible exact squelchlaw21_body.mono _ _ _ _ _ _ _)
   | (with_reducible exact squelchlaw21_few.mono _ _ _ _)
   | (with_reducible exact squelchlaw21_live.mono _)
   | (with_reducible exact LeO.refl _)
   | (with_reducible exact LeO.none _)
   | (with_reducible refine LeO.ite ?_ ?_)
   | (with_reducible refine LeO.bind ?_ (fun _ => ?_))
   | exact ih0 _ _ _ _ _ _ _
   | exact ih1 _ _ _ _ _ _ _ _ _ _ _ _ _
   | exact ih2 _ _ _ _ _ _ _ _
   | exact ih3 _ _ _ _ _ _ _ _ _ _
   | exact pool_New.mono _ _
   | exact squelchlaw21_among.mono _ _ _ _
   | exact squelchlaw21_body.mono _ _ _ _ _ _ _
   | exact squelchlaw21_few.mono _ _ _ _
   | exact squelchlaw21_live.mono _
   | exact LeO.none _
   | refine LeO.ite ?_ ?_
   | refine LeO.bind ?_ (fun _ => ?_)
  ·intro y0 y1 y2 y3 y4 y5 y6 y7 y8 y9
   unfold squelchlaw21_PoolSent.l1
   repeat' first
   | (with_reducible exact ih0 _ _ _ _ _ _ _)
   | (with_reducible exact ih1 _ _ _ _ _ _ _ _ _ _ _ _ _)
   | (with_reducible exact ih2 _ _ _ _ _ _ _ _)
   | (with_reducible exact ih3 _ _ _ _ _ _ _ _ _ _)
   | (with_reducible exact pool_New.mono _ _)
   | (with_reducible exact squelchlaw21_among.mono _ _ _ _)
   | (with_reducible exact squelchlaw21_body.mono _ _ _ _ _ _ _)
   | (with_reducible exact squelchlaw21_few.mono _ _ _ _)
   | (with_reducible exact squelchlaw21_live.mono _)
   | (with_reducible exact LeO.refl _)
   | (with_reducible exact LeO.none _)
   | (with_reducible refine LeO.ite ?_ ?_)
   | (with_reducible refine LeO.bind ?_ (fun _ => ?_))
   | exact ih0 _ _ _ _ _ _ _
   | exact ih1 _ _ _ _ _ _ _ _ _ _ _ _ _
   | exact ih2 _ _ _ _ _ _ _ _
   | exact ih3 _ _ _ _ _ _ _ _ _ _
   | exact pool_New.mono _ _
   | exact squelchlaw21_among.mono _ _ _ _
   | exact squelchlaw21_body.mono _ _ _ _ _ _ _
   | exact squelchlaw21_few.mono _ _ _ _
   | exact squelchlaw21_live.mono _
   | exact LeO.none _
   | refine LeO.ite ?_ ?_
   | refine LeO.bind ?_ (fun _ => ?_)
theorem squelchlaw21_PoolSent.mono : ∀ a0 a1 k, LeO (squelchlaw21_PoolSent.f k a0 a1) (squelchlaw21_PoolSent.f (k + 1) a0 a1) := by
 intro a0 a1 k
 obtain ⟨ih0, ih1, ih2, ih3⟩ := squelchlaw21_PoolSent.mono_l k
 unfold squelchlaw21_PoolSent.f
 repeat' first
   | (with_reducible exact ih0 _ _ _ _ _ _ _)
   | (with_reducible exact ih1 _ _ _ _ _ _ _ _ _ _ _ _ _)
   | (with_reducible exact ih2 _ _ _ _ _ _ _ _)
   | (with_reducible exact ih3 _ _ _ _ _ _ _ _ _ _)
   | (with_reducible exact pool_New.mono _ _)
   | (with_reducible exact squelchlaw21_among.mono _ _ _ _)
   | (with_reducible exact squelchlaw21_body.mono _ _ _ _ _ _ _)
   | (with_reducible exact squelchlaw21_few.mono _ _ _ _)
   | (with_reducible exact squelchlaw21_live.mono _)
   | (with_reducible exact LeO.refl _)
   | (with_reducible exact LeO.none _)
   | (with_reducible refine LeO.ite ?_ ?_)
   | (with_reducible refine LeO.bind ?_ (fun _ => ?_))
   | exact ih0 _ _ _ _ _ _ _
   | exact ih1 _ _ _ _ _ _ _ _ _ _ _ _ _
   | exact ih2 _ _ _ _ _ _ _ _
   | exact ih3 _ _ _ _ _ _ _ _ _ _
   | exact pool_New.mono _ _
   | exact squelchlaw21_among.mono _ _ _ _
   | exact squelchlaw21_body.mono _ _ _ _ _ _ _
   | exact squelchlaw21_few.mono _ _ _ _
   | exact squelchlaw21_live.mono _
   | exact LeO.none _
   | refine LeO.ite ?_ ?_
   | refine LeO.bind ?_ (fun _ => ?_)
def squelchlaw21_PoolSent.T19 : Bool × List (List Nat × List Nat) := (true, [([], []), ([0], [0]), ([1], [1]), ([2], [2]), ([3], [3]), ([4, 3], [3, 4]), ([5, 3], [3, 5]), ([6, 3], [3, 6]), ([3, 7], [3, 7]), ([8, 3], [8]), ([9], [9]), ([10, 9], [9, 10]), ([11, 9], [9, 11]), ([9], [9]), ([13, 9], [9, 13]), ([14, 9], [9, 14]), ([12, 15, 9], [9, 12, 15]), ([9, 16], [9, 16]), ([17, 9], [17]), ([18], [18]), ([19, 18], [18, 19]), ([20, 18], [18, 20]), ([18], [18]), ([22, 18], [18, 22]), ([23, 18], [18, 23]), ([18], [18]), ([25, 18], [18, 25]), ([26, 18], [18, 26]), ([24, 27, 18], [18, 24, 27]), ([21, 28, 18], [18, 21, 28]), ([18, 29], [18, 29])])
def squelchlaw21_PoolSent.B19 : List Nat := [0, 1, 3, 7, 15, 31, 63, 127, 255, 511, 1023, 2047, 4095, 1023, 9215, 25599, 65535, 131071, 262143, 524287, 1048575, 2097151, 524287, 4718591, 13107199, 524287, 34078719, 101187583, 264765439, 536870911, 1073741823]
theorem squelchlaw21_PoolSent.tab19 : rtab .any (opsOf Try.f4 19) = squelchlaw21_PoolSent.T19 := by kernel_rfl
theorem squelchlaw21_PoolSent.bits19 : waitsOk squelchlaw21_PoolSent.T19.2 squelchlaw21_PoolSent.B19 = true := by kernel_rfl
def squelchlaw21_PoolSent.T21 : Bool × List (List Nat × List Nat) := (true, [([], []), ([], []), ([1], [1]), ([], []), ([3], [3]), ([4], [4]), ([2, 5], [2, 5]), ([0, 6], [0, 6]), ([7, 7, 0, 1, 2, 3, 4, 5, 6, 7], [0, 7])])
def squelchlaw21_PoolSent.B21 : List Nat := [0, 0, 2, 0, 8, 24, 62, 127, 255]
theorem squelchlaw21_PoolSent.tab21 : rtab .any (opsOf Try.f4 21) = squelchlaw21_PoolSent.T21 := by kernel_rfl
theorem squelchlaw21_PoolSent.bits21 : waitsOk squelchlaw21_PoolSent.T21.2 squelchlaw21_PoolSent.B21 = true := by kernel_rfl
set_option maxHeartbeats 8000000 in
set_option maxRecDepth 100000 in
theorem squelchlaw21_PoolSent.calls (k : Nat) (a0 : Int) (P1_ : Nat → Prop) (A1 : Option Addr) (c1 : Nat) (l1 : List (S42)) (r : Bool) (w : World) (hs1 : Kd.V k42 42 w w.heap.size (fun k_ => P1_ k_) (.slice A1 l1.length c1) l1) (h : squelchlaw21_PoolSent.f k a0 l1 = some r) (hr_ : r = true) :
  Calls Try.prog 4 #[.int .i64 a0, .slice A1 l1.length c1] w fun e w' => e = .returned (.bool r) ∧ Below w.heap.size w w' := by
 have HR_ := aM hr_
 clear hr_
 have hu24 := Try.underlying24
 have hu42 := Try.underlying42
 have hu31 := Try.underlying31
 have HO1 := aM (show Kd.V k42 42 w w.heap.size (fun k_ => (P1_ k_ ∨ w.heap.size ≤ k_)) (.slice A1 l1.length c1) l1 from Kd.V_mono hs1 (fun k_ hk => .inl hk))
 have HB := aM (Below.refl w.heap.size w)
 have H : ((squelchlaw21_live.f k).bind fun t430 => (if t430 = true then (if (l1.length : Int) > 100 then (some t430) else ((pool_New.f k (wrap64 (1 + (Int.tmod (wrap64 ((Int.tmod a0 256) + 256)) 256)))).bind fun bt431 => (if bt431.2.2 = 0 then (squelchlaw21_PoolSent.l0 k t430 ([] : List (S31)) l1 (l1.length : Int) 0 bt431.1 bt431.2.1) else (some false)))) else (some false))) = some r := h
 clear h
 replace H := Option.bind_eq_some_iff.mp H
 obtain ⟨t430, A30, H⟩ := H
 replace H : (if t430 = true then (if (l1.length : Int) > 100 then (some t430) else ((pool_New.f k (wrap64 (1 + (Int.tmod (wrap64 ((Int.tmod a0 256) + 256)) 256)))).bind fun bt431 => (if bt431.2.2 = 0 then (squelchlaw21_PoolSent.l0 k t430 ([] : List (S31)) l1 (l1.length : Int) 0 bt431.1 bt431.2.1) else (some false)))) else (some false)) = some r := H
 have A3 := aM A30
 clear A30
 by_cases c4 : t430 = true
 ·subst c4
  have H1 : (if (l1.length : Int) > 100 then (some true) else ((pool_New.f k (wrap64 (1 + (Int.tmod (wrap64 ((Int.tmod a0 256) + 256)) 256)))).bind fun bt431 => (if bt431.2.2 = 0 then (squelchlaw21_PoolSent.l0 k true ([] : List (S31)) l1 (l1.length : Int) 0 bt431.1 bt431.2.1) else (some false)))) = some r := by rw [if_pos rfl] at H; exact H
  clear H
  have H := H1
  clear H1
  by_cases c5 : (l1.length : Int) > 100
  ·rw [if_pos c5] at H
   have c5b0 : decide (100 < (l1.length : Int)) = true := decide_eq_true c5
   have c5b1 : decide (100 < l1.length) = true := decide_eq_true (by omega)
   clear c5
   obtain rfl := Option.some.inj H
   go_enter Try.func4, Try.ntmps4
   go_wp2_with (first | ((with_reducible refine gate_callee (f := 7) rfl ?_); refine goesL_ (some 17) rfl rfl Try.func7 (by kernel_rfl) rfl #[] rfl (by (try simp only [List.map_toArray, List.map_cons, List.map_nil]); first | done | rfl | (simp only [List.length_drop, List.length_take]; rfl)) ?_; (with_reducible refine (squelchlaw21_live.calls k  true _ A3.out).mono ?_); rintro e w6 ⟨rfl, hb⟩; refine ⟨_, rfl, ?_⟩; have n0_ := aM (Kd.V_below (by (with_reducible repeat (first | apply Kd.V_alloc | apply Kd.V_drewN | apply Kd.V_drew)); exact HO1.out) hb); have n1_ := aM (below_step (by repeat (first | (with_reducible first | exact HB.out | apply bA | apply bN | apply bD) | exact HB.out)) hb); clear HO1; clear HB; have HO1 := n0_; have HB := n1_; clear n0_ n1_; (try clear hb); (try clear hb2); (try clear hk); (try clear hi)))
   go_ret
   exact ⟨by first | rfl | (simp [errW_none, errW_some] <;> rfl) | (simp [*, errW_none, errW_some] <;> rfl) | (simp [wrap64]; done), by repeat (first | (with_reducible first | exact HB.out | apply bA | apply bN | apply bD) | exact HB.out)⟩
  ·rw [if_neg c5] at H
   have c5b0 : decide (100 < (l1.length : Int)) = false := decide_eq_false c5
   have c5b1 : decide (100 < l1.length) = false := decide_eq_false (by omega)
   clear c5
   replace H := Option.bind_eq_some_iff.mp H
   obtain ⟨⟨t431, t432, t435⟩, A70, H⟩ := H
   replace H : (if t435 = 0 then (squelchlaw21_PoolSent.l0 k true ([] : List (S31)) l1 (l1.length : Int) 0 t431 t432) else (some false)) = some r := H
   have A7 := aM A70
   clear A70
   by_cases c8 : t435 = 0
   ·rw [if_pos c8] at H
    have c8b0 : (t435 == 0) = true := beq_iff_eq.mpr c8
    have c8b1 : (t435 != 0) = false := bne_eq_false_iff_eq.mpr c8
    clear c8
    have H' := aM H
    clear H
    go_enter Try.func4, Try.ntmps4
    go_wp2_with (first | ((with_reducible refine gate_callee (f := 7) rfl ?_); refine goesL_ (some 17) rfl rfl Try.func7 (by kernel_rfl) rfl #[] rfl (by (try simp only [List.map_toArray, List.map_cons, List.map_nil]); first | done | rfl | (simp only [List.length_drop, List.length_take]; rfl)) ?_; (with_reducible refine (squelchlaw21_live.calls k  true _ A3.out).mono ?_); rintro e w9 ⟨rfl, hb⟩; refine ⟨_, rfl, ?_⟩; have n0_ := aM (Kd.V_below (by (with_reducible repeat (first | apply Kd.V_alloc | apply Kd.V_drewN | apply Kd.V_drew)); exact HO1.out) hb); have n1_ := aM (below_step (by repeat (first | (with_reducible first | exact HB.out | apply bA | apply bN | apply bD) | exact HB.out)) hb); clear HO1; clear HB; have HO1 := n0_; have HB := n1_; clear n0_ n1_; (try clear hb); (try clear hb2); (try clear hk); (try clear hi)) | ((with_reducible refine gate_callee (f := 13) rfl ?_); refine goesL_ (some 30) rfl rfl Try.func13 (by kernel_rfl) rfl #[.int .i64 (wrap64 (1 + (Int.tmod (wrap64 ((Int.tmod a0 256) + 256)) 256)))] rfl (by (try simp only [List.map_toArray, List.map_cons, List.map_nil]); first | done | rfl | (simp only [List.length_drop, List.length_take]; rfl)) ?_; (with_reducible refine (pool_New.calls k (wrap64 (1 + (Int.tmod (wrap64 ((Int.tmod a0 256) + 256)) 256))) t431 t432 t435 _ A7.out).mono ?_); rintro e w10 ⟨v433, rfl, ho0, hb⟩; refine ⟨_, rfl, ?_⟩; have n0_ := aM (Kd.V_elder' (by (with_reducible repeat (first | apply Kd.V_alloc | apply Kd.V_drewN | apply Kd.V_drew)); exact HO1.out) (by first | exact Kd.N_base ho0 | exact Kd.S_base ho0) hb); have n1_ := aM (Kd.N_lower (Kd.N_mono (ok' := fun k_ => (P1_ k_ ∨ w.heap.size ≤ k_)) (Kd.S_N (Kd.S_bound ho0)) (fun k_ hk_ => (.inr (Nat.le_trans (below_size (by repeat (first | (with_reducible first | exact HB.out | apply bA | apply bN | apply bD) | exact HB.out))) hk_.2.1)))) (below_size (by repeat (first | (with_reducible first | exact HB.out | apply bA | apply bN | apply bD) | exact HB.out)))); have n2_ := aM (below_step (by repeat (first | (with_reducible first | exact HB.out | apply bA | apply bN | apply bD) | exact HB.out)) hb); clear HO1; clear HB; have HO1 := n0_; have HO434 := n1_; have HB := n2_; clear n0_ n1_ n2_; (try clear hb); (try clear hb2); (try clear hk); (try clear hi); (try clear ho0)) | ((with_reducible refine gate_dst (N := 6) rfl ?_); (try (refine gate_guard (by rfl) ?_; dsimp only)); refine box_event ?hg (N := 6) ?hd (cs := #[.int .i64 0, .slice none 0 0]) (t := 24) ?hr ?_; (case hd => rfl); (case hg => rfl); (case hr => first | (go_simp; done) | (go_simp; rfl)); intro gb436 hg w11 hbox hb; have n0_ := aM (Kd.V_below (Kd.V_elderB (by (with_reducible repeat (first | apply Kd.V_alloc | apply Kd.V_drewN | apply Kd.V_drew)); exact HO1.out) gb436 (Nat.le_of_eq hg.symm)) hb); have n1_ := aM (Kd.N_below (Kd.N_elderB (by (with_reducible repeat (first | apply Kd.N_alloc | apply Kd.N_drewN | apply Kd.N_drew)); exact HO434.out) gb436 (Nat.le_of_eq hg.symm)) hb); have n2_ := aM (below_step (by repeat (first | (with_reducible first | exact HB.out | apply bA | apply bN | apply bD) | exact HB.out)) hb); have n3_ := aM (hbox); have n4_ := aM ((by rw [hg]; exact (below_size (by repeat (first | (with_reducible first | exact HB.out | apply bA | apply bN | apply bD) | exact HB.out))) : w.heap.size ≤ gb436)); have n5_ := aM ((by rw [hg]; exact (below_size (by repeat (first | (with_reducible first | exact HB.out | apply bA | apply bN | apply bD) | exact HB.out))) : w.heap.size ≤ gb436)); clear HO1; clear HO434; clear HB; have HO1 := n0_; have HO434 := n1_; have HB := n2_; have BK436 := n3_; have GW436 := n4_; have GE436 := n5_; clear n0_ n1_ n2_ n3_ n4_ n5_; clear hb hbox hg; have hcz12_0 : w11.cell? ⟨gb436, 0, none⟩ = some (.int .i64 0) := (blk_cell BK436.out 0).trans rfl; have hcz12_1 : w11.cell? ⟨gb436, 1, none⟩ = some (.slice none 0 0) := (blk_cell BK436.out 1).trans rfl; have hfz12_0 := blk_frozen BK436.out 0; have hfz12_1 := blk_frozen BK436.out 1; obtain ⟨Ao13, co13, eo13⟩ := Kd.N_slice HO434.out; subst eo13))
    (try simp only [Act.put, List.setIfInBounds_toArray, List.set_cons_zero, List.set_cons_succ])
    go_loopg [8, 37] k (fun kq v8 v37 w' => ∃ (x8_1 : List (S31)) (x37_1 : Int) (x437000_1 : Int) (x437001_1 : List (S31)) (u437001 : Value), v37 = .int .i64 x37_1 ∧ Aside0 (squelchlaw21_PoolSent.l0 kq true x8_1 l1 (l1.length : Int) x37_1 x437000_1 x437001_1 = some r) ∧ Aside0 (kq ≤ k) ∧ Aside0 (Kd.N k31 31 w' w.heap.size (fun k_ => (P1_ k_ ∨ w.heap.size ≤ k_) ∧ k_ ≠ gb436) v8 x8_1) ∧ Aside0 (Kd.V k42 42 w' w.heap.size (fun k_ => (P1_ k_ ∨ w.heap.size ≤ k_) ∧ some k_ ≠ (v8 : Value).ownBlock ∧ k_ ≠ gb436) (.slice A1 l1.length c1) l1) ∧ Aside0 (Kd.V k31 31 w' w.heap.size (fun k_ => (P1_ k_ ∨ w.heap.size ≤ k_) ∧ some k_ ≠ (v8 : Value).ownBlock ∧ k_ ≠ gb436) u437001 x437001_1) ∧ Aside0 (w'.heap[gb436]? = some (.cells #[.int .i64 x437000_1, u437001] 24 (0, 0))) ∧ Aside0 (Below w.heap.size w w'))
    case atStart => exact ⟨(([] : List (S31))), (0), (t431), (t432), (.slice Ao13 t432.length co13), (by first | rfl | (simp; done) | (simp [*]; done)), H', ⟨Nat.le_refl _⟩, ⟨by first | exact Kd.S_nil _ _ _ _ _ | exact Kd.N_nil _ _ _ _ _ | exact Kd.V_nil _ _ _ _ _ | exact Kd.Q_nil _ _ _ _ _ | exact Kd.R_nil _ _ _ _ _⟩, ⟨by (with_reducible repeat (first | apply Kd.V_alloc | apply Kd.V_drewN | apply Kd.V_drew)); exact Kd.V_mono (Kd.V_far (p := ⟨gb436, 1, none⟩) (Kd.V_far (p := ⟨gb436, 0, none⟩) (Kd.V_mono HO1.out (fun k_ hk => (⟨hk, hk.2⟩ : _ ∧ k_ ≠ gb436))) (fun _ hk => hk.2) (.int .i64 t431)) (fun _ hk => hk.2) (.slice Ao13 t432.length co13)) (fun _ hk => ⟨hk.1.1.1, ⟨(by simp [Value.ownBlock]), hk.1.2⟩⟩)⟩, ⟨Kd.N_V (by (with_reducible repeat (first | apply Kd.N_alloc | apply Kd.N_drewN | apply Kd.N_drew)); exact Kd.N_mono (Kd.N_far (p := ⟨gb436, 1, none⟩) (Kd.N_far (p := ⟨gb436, 0, none⟩) (Kd.N_mono HO434.out (fun k_ hk => (⟨hk, hk.2⟩ : _ ∧ k_ ≠ gb436))) (fun _ hk => hk.2) (.int .i64 t431)) (fun _ hk => hk.2) (.slice Ao13 t432.length co13)) (fun _ hk => ⟨hk.1.1, ⟨(by simp [Value.ownBlock]), hk.1.2⟩⟩))⟩, ⟨by (with_reducible repeat (first | refine kN ?_ _ | refine kD ?_ | refine kA ?_ _)); refine blk_put (cs := #[.int .i64 t431, .slice none 0 0]) ?_ 1 _ rfl; (with_reducible repeat (first | refine kN ?_ _ | refine kD ?_ | refine kA ?_ _)); refine blk_put (cs := #[.int .i64 0, .slice none 0 0]) ?_ 0 _ rfl; (with_reducible repeat (first | refine kN ?_ _ | refine kD ?_ | refine kA ?_ _)); exact BK436.out⟩, ⟨by repeat (first | (with_reducible first | exact HB.out | apply bA | apply bN | apply bD | refine bS ?_ GE436.out) | exact HB.out)⟩⟩
    case round =>
     clear H'
     try clear c1
     try clear p2
     try clear c4
     try clear c5
     try clear c5b0
     try clear c5b1
     try clear p6
     try clear c7
     try clear c8
     try clear c8b0
     try clear c8b1
     try clear c13
     try clear hcz12_0
     try clear hcz12_1
     try clear hfz12_0
     try clear hfz12_1
     obtain ⟨x8_1, x37_1, x437000_1, x437001_1, u437001, rfl, HA, HK1, HO_8, HO_35, HO_437001, BK436, HB⟩ := hrel
     cases gk with
     | zero => exact absurd HA.out (by simp [squelchlaw21_PoolSent.l0])
     | succ k1 =>
      have H := HA.out
      clear HA
      simp only [squelchlaw21_PoolSent.l0] at H
      by_cases c14 : x37_1 < (l1.length : Int)
      ·rw [if_pos c14] at H
       have c14b0 : decide (x37_1 < (l1.length : Int)) = true := decide_eq_true c14
       clear c14
       by_cases c15 : 0 ≤ x37_1
       ·rw [if_pos c15] at H
        have c15b0 : decide (0 ≤ x37_1) = true := decide_eq_true c15
        clear c15
        by_cases c16 : x37_1 < (l1.length : Int)
        ·rw [if_pos c16] at H
         have c16b0 : decide (x37_1 < (l1.length : Int)) = true := decide_eq_true c16
         clear c16
         replace H := Option.bind_eq_some_iff.mp H
         obtain ⟨t439, A170, H⟩ := H
         replace H : (if t439 = true then (if ((rd_T42 l1 x37_1).f0) = 5 then (squelchlaw21_PoolSent.l0 k1 true x8_1 l1 (l1.length : Int) (wrap64 (x37_1 + 1)) x437000_1 x437001_1) else ((squelchlaw21_body.f k1 x437000_1 x437001_1 ((rd_T42 l1 x37_1).f0) ((rd_T42 l1 x37_1).f1) ((rd_T42 l1 x37_1).f2) ((rd_T42 l1 x37_1).f3)).bind fun bt440 => (if bt440.2.2.2.2.2 = 0 then (if ((rd_T42 l1 x37_1).f0) = 0 then (if (bt440.2.2.2.2.1.length : Int) = 1 then (if 0 < (bt440.2.2.2.2.1.length : Int) then (if (rd bt440.2.2.2.2.1 0) < 0 then (some false) else (if (rd bt440.2.2.2.2.1 0) > (((rd_T42 l1 x37_1).f3).length : Int) then (some false) else (if (bt440.2.1.length : Int) = (wrap64 ((x437001_1.length : Int) + (rd bt440.2.2.2.2.1 0))) then (if 0 ≤ (rd bt440.2.2.2.2.1 0) then (if (rd bt440.2.2.2.2.1 0) ≤ (((rd_T42 l1 x37_1).f3).length : Int) then ((some (((rd_T42 l1 x37_1).f3).take ((rd bt440.2.2.2.2.1 0) : Int).toNat : List (S31))).bind fun y458 => (if x8_1.length + y458.length < 4398046511104 then (squelchlaw21_PoolSent.j1 k1 true (x8_1 ++ y458) l1 (l1.length : Int) x37_1 ((rd_T42 l1 x37_1).f0) ((rd_T42 l1 x37_1).f1) ((rd_T42 l1 x37_1).f2) ((rd_T42 l1 x37_1).f3) bt440.1 bt440.2.1 bt440.2.2.1 bt440.2.2.2.1) else (none))) else (none)) else (none)) else (some false)))) else (none)) else (some false)) else (squelchlaw21_PoolSent.j1 k1 true x8_1 l1 (l1.length : Int) x37_1 ((rd_T42 l1 x37_1).f0) ((rd_T42 l1 x37_1).f1) ((rd_T42 l1 x37_1).f2) ((rd_T42 l1 x37_1).f3) bt440.1 bt440.2.1 bt440.2.2.1 bt440.2.2.2.1)) else (squelchlaw21_PoolSent.l0 k1 true x8_1 l1 (l1.length : Int) (wrap64 (x37_1 + 1)) x437000_1 x437001_1)))) else (some true)) = some r := H
         have A17 := aM A170
         clear A170
         by_cases c18 : t439 = true
         ·subst c18
          have H1 : (if ((rd_T42 l1 x37_1).f0) = 5 then (squelchlaw21_PoolSent.l0 k1 true x8_1 l1 (l1.length : Int) (wrap64 (x37_1 + 1)) x437000_1 x437001_1) else ((squelchlaw21_body.f k1 x437000_1 x437001_1 ((rd_T42 l1 x37_1).f0) ((rd_T42 l1 x37_1).f1) ((rd_T42 l1 x37_1).f2) ((rd_T42 l1 x37_1).f3)).bind fun bt440 => (if bt440.2.2.2.2.2 = 0 then (if ((rd_T42 l1 x37_1).f0) = 0 then (if (bt440.2.2.2.2.1.length : Int) = 1 then (if 0 < (bt440.2.2.2.2.1.length : Int) then (if (rd bt440.2.2.2.2.1 0) < 0 then (some false) else (if (rd bt440.2.2.2.2.1 0) > (((rd_T42 l1 x37_1).f3).length : Int) then (some false) else (if (bt440.2.1.length : Int) = (wrap64 ((x437001_1.length : Int) + (rd bt440.2.2.2.2.1 0))) then (if 0 ≤ (rd bt440.2.2.2.2.1 0) then (if (rd bt440.2.2.2.2.1 0) ≤ (((rd_T42 l1 x37_1).f3).length : Int) then ((some (((rd_T42 l1 x37_1).f3).take ((rd bt440.2.2.2.2.1 0) : Int).toNat : List (S31))).bind fun y458 => (if x8_1.length + y458.length < 4398046511104 then (squelchlaw21_PoolSent.j1 k1 true (x8_1 ++ y458) l1 (l1.length : Int) x37_1 ((rd_T42 l1 x37_1).f0) ((rd_T42 l1 x37_1).f1) ((rd_T42 l1 x37_1).f2) ((rd_T42 l1 x37_1).f3) bt440.1 bt440.2.1 bt440.2.2.1 bt440.2.2.2.1) else (none))) else (none)) else (none)) else (some false)))) else (none)) else (some false)) else (squelchlaw21_PoolSent.j1 k1 true x8_1 l1 (l1.length : Int) x37_1 ((rd_T42 l1 x37_1).f0) ((rd_T42 l1 x37_1).f1) ((rd_T42 l1 x37_1).f2) ((rd_T42 l1 x37_1).f3) bt440.1 bt440.2.1 bt440.2.2.1 bt440.2.2.2.1)) else (squelchlaw21_PoolSent.l0 k1 true x8_1 l1 (l1.length : Int) (wrap64 (x37_1 + 1)) x437000_1 x437001_1)))) = some r := by rw [if_pos rfl] at H; exact H
          clear H
          have H := H1
          clear H1
          by_cases c19 : ((rd_T42 l1 x37_1).f0) = 5
          ·rw [if_pos c19] at H
           have c19b0 : (((rd_T42 l1 x37_1).f0) == 5) = true := beq_iff_eq.mpr c19
           have c19b1 : (((rd_T42 l1 x37_1).f0) != 5) = false := bne_eq_false_iff_eq.mpr c19
           clear c19
           have H' := aM H
           clear H
           have p437 : 0 ≤ (x37_1 : Int) := of_decide_eq_true (by first | (with_reducible assumption) | assumption)
           have q437 : x37_1 < (l1.length : Int) := of_decide_eq_true (by first | (with_reducible assumption) | assumption)
           obtain ⟨ad437, A437_3, c437_3, e437, hx437_0, hx437_1, hx437_2, hx437_3, hl437_3, hi437_3⟩ := at_T42 (Kd.V_reads' HO_35.out).2.2 x37_1 p437 q437
           cases e437
           obtain ⟨ce437, hce437, hMe437, hcc437⟩ := Kd.V_get HO_35.out z42 x37_1 p437 (by first | exact q437 | exact of_decide_eq_true (by first | (with_reducible assumption) | assumption) | (have e_ := (Kd.V_reads' HO_35.out).1; omega))
           obtain ⟨ua437_3, uc437_3, rfl, ul437_3, ge437_3⟩ := k42_openF hMe437
           have hv437_3 := hcc437 3 _ rfl
           rw [add_field _ _ 3 (by omega)] at hv437_3
           replace hv437_3 := Option.some.inj (hv437_3.symm.trans hx437_3)
           injection hv437_3 with hva_ hvn_ hvc_
           rw [hva_] at ge437_3
           rw [hvc_] at ul437_3
           have HL437_3 := aM (show Kd.V k31 31 _ w.heap.size _ _ ((rd_T42 l1 x37_1).f3) from Kd.V_mk ul437_3 ge437_3)
           clear hva_ hvn_ hvc_ ge437_3 ul437_3
           clear hcc437 hce437
           have HR437_3 := aM hi437_3
           have HC437_3 := aM hl437_3
           clear hi437_3 hl437_3
           replace p437 := eq_true p437
           replace q437 := eq_true q437
           go_wp2_with (first | ((with_reducible refine gate_dst (N := 10) rfl ?_); (try (refine gate_guard (by rfl) ?_; dsimp only)); refine box_event ?hg (N := 10) ?hd (cs := #[.int .i64 0, .int .i64 0, .int .i64 0, .slice none 0 0]) (t := 42) ?hr ?_; (case hd => rfl); (case hg => rfl); (case hr => first | (go_simp; done) | (go_simp; rfl)); intro gb438 hg w20 hbox hb; have n0_ := aM (Kd.N_below (Kd.N_elderB (by (with_reducible repeat (first | apply Kd.N_alloc | apply Kd.N_drewN | apply Kd.N_drew)); exact HO_8.out) gb438 (Nat.le_of_eq hg.symm)) hb); have n1_ := aM (Kd.V_below (Kd.V_elderB (by (with_reducible repeat (first | apply Kd.V_alloc | apply Kd.V_drewN | apply Kd.V_drew)); exact HO_35.out) gb438 (Nat.le_of_eq hg.symm)) hb); have n2_ := aM (Kd.V_below (Kd.V_elderB (by (with_reducible repeat (first | apply Kd.V_alloc | apply Kd.V_drewN | apply Kd.V_drew)); exact HO_437001.out) gb438 (Nat.le_of_eq hg.symm)) hb); have n3_ := aM (Kd.V_below (Kd.V_elderB (by (with_reducible repeat (first | apply Kd.V_alloc | apply Kd.V_drewN | apply Kd.V_drew)); exact HL437_3.out) gb438 (Nat.le_of_eq hg.symm)) hb); have n4_ := aM (blk_below (g := gb436) (o := .cells #[.int .i64 x437000_1, u437001] 24 (0, 0)) (by (with_reducible repeat (first | refine kN ?_ _ | refine kD ?_ | refine kA ?_ _)); exact BK436.out) hb); have n5_ := aM (Kd.C_below (by repeat (first | (with_reducible exact (Kd.V_reads' HL437_3.out).2.2) | (with_reducible refine Kd.C_alloc ?_ _) | (with_reducible refine Kd.C_drewN ?_ _) | (with_reducible refine Kd.C_drew ?_) | exact (Kd.V_reads' HL437_3.out).2.2)) hb); have n6_ := aM (below_step (by repeat (first | (with_reducible first | exact HB.out | apply bA | apply bN | apply bD | refine bS ?_ GE436.out) | exact HB.out)) hb); have n7_ := aM (hbox); have n8_ := aM ((by rw [hg]; exact (below_size (by repeat (first | (with_reducible first | exact HB.out | apply bA | apply bN | apply bD | refine bS ?_ GE436.out) | exact HB.out))) : w.heap.size ≤ gb438)); have n9_ := aM ((by rw [hg]; exact (below_size (by repeat (first | (with_reducible first | exact HB.out | apply bA | apply bN | apply bD | refine bS ?_ GE436.out) | exact HB.out))) : w.heap.size ≤ gb438)); have n10_ := aM ((by rw [hg]; exact Nat.ne_of_lt (blk_lt (g := gb436) (o := .cells #[.int .i64 x437000_1, u437001] 24 (0, 0)) (by (with_reducible repeat (first | refine kN ?_ _ | refine kD ?_ | refine kA ?_ _)); exact BK436.out)) : gb436 ≠ gb438)); have n11_ := aM ((by rw [hg]; exact Nat.ne_of_gt (blk_lt (g := gb436) (o := .cells #[.int .i64 x437000_1, u437001] 24 (0, 0)) (by (with_reducible repeat (first | refine kN ?_ _ | refine kD ?_ | refine kA ?_ _)); exact BK436.out)) : gb438 ≠ gb436)); clear HO_8; clear HO_35; clear HO_437001; clear HL437_3; clear BK436; clear HR437_3; clear HB; have HO_8 := n0_; have HO_35 := n1_; have HO_437001 := n2_; have HL437_3 := n3_; have BK436 := n4_; have HR437_3 := n5_; have HB := n6_; have BK438 := n7_; have GW438 := n8_; have GE438 := n9_; have NB436_438 := n10_; have NB438_436 := n11_; clear n0_ n1_ n2_ n3_ n4_ n5_ n6_ n7_ n8_ n9_ n10_ n11_; clear hb hbox hg; have hnb21 := NB438_436.out; have hnc21 := NB436_438.out; have hcz22_0 : w20.cell? ⟨gb438, 0, none⟩ = some (.int .i64 0) := (blk_cell BK438.out 0).trans rfl; have hcz22_1 : w20.cell? ⟨gb438, 1, none⟩ = some (.int .i64 0) := (blk_cell BK438.out 1).trans rfl; have hcz22_2 : w20.cell? ⟨gb438, 2, none⟩ = some (.int .i64 0) := (blk_cell BK438.out 2).trans rfl; have hcz22_3 : w20.cell? ⟨gb438, 3, none⟩ = some (.slice none 0 0) := (blk_cell BK438.out 3).trans rfl; have hfz22_0 := blk_frozen BK438.out 0; have hfz22_1 := blk_frozen BK438.out 1; have hfz22_2 := blk_frozen BK438.out 2; have hfz22_3 := blk_frozen BK438.out 3) | ((with_reducible refine gate_store (t := 42) (p := 10) rfl ?_); refine store_event (t := 42) (p := 10) (v := ?vo_w23) (w1 := ((((w20.setCell ⟨gb438, 0, none⟩ (.int .i64 ((rd_T42 l1 x37_1).f0))).setCell ⟨gb438, 1, none⟩ (.int .i64 ((rd_T42 l1 x37_1).f1))).setCell ⟨gb438, 2, none⟩ (.int .i64 ((rd_T42 l1 x37_1).f2))).setCell ⟨gb438, 3, none⟩ (.slice A437_3 ((rd_T42 l1 x37_1).f3).length c437_3))) ?hg ?ho ?hn ?hr ?_; (case ho => rfl); (case hg => rfl); (case hn => rfl); (case hr => first | (go_simp; done) | (go_simp; rfl)); intro w23 hw; have n0_ : Aside0 (Kd.N k31 31 w23 w.heap.size (fun k_ => (P1_ k_ ∨ w.heap.size ≤ k_) ∧ k_ ≠ gb436 ∧ k_ ≠ gb438) u8 x8_1) := ⟨(by rw [hw]; exact (by (with_reducible repeat (first | apply Kd.N_alloc | apply Kd.N_drewN | apply Kd.N_drew)); exact Kd.N_mono (Kd.N_far (p := ⟨gb438, 3, none⟩) (Kd.N_far (p := ⟨gb438, 2, none⟩) (Kd.N_far (p := ⟨gb438, 1, none⟩) (Kd.N_far (p := ⟨gb438, 0, none⟩) (Kd.N_mono HO_8.out (fun k_ hk => (⟨hk, hk.2⟩ : _ ∧ k_ ≠ gb438))) (fun _ hk => hk.2) (.int .i64 ((rd_T42 l1 x37_1).f0))) (fun _ hk => hk.2) (.int .i64 ((rd_T42 l1 x37_1).f1))) (fun _ hk => hk.2) (.int .i64 ((rd_T42 l1 x37_1).f2))) (fun _ hk => hk.2) (.slice A437_3 ((rd_T42 l1 x37_1).f3).length c437_3)) (fun _ hk => ⟨hk.1.1.1, ⟨hk.1.1.2, hk.1.2⟩⟩)))⟩; have n1_ : Aside0 (Kd.V k42 42 w23 w.heap.size (fun k_ => (P1_ k_ ∨ w.heap.size ≤ k_) ∧ some k_ ≠ (u8 : Value).ownBlock ∧ k_ ≠ gb436 ∧ k_ ≠ gb438) (.slice (some ad437) l1.length c1) l1) := ⟨(by rw [hw]; exact (by (with_reducible repeat (first | apply Kd.V_alloc | apply Kd.V_drewN | apply Kd.V_drew)); exact Kd.V_mono (Kd.V_far (p := ⟨gb438, 3, none⟩) (Kd.V_far (p := ⟨gb438, 2, none⟩) (Kd.V_far (p := ⟨gb438, 1, none⟩) (Kd.V_far (p := ⟨gb438, 0, none⟩) (Kd.V_mono HO_35.out (fun k_ hk => (⟨hk, hk.2⟩ : _ ∧ k_ ≠ gb438))) (fun _ hk => hk.2) (.int .i64 ((rd_T42 l1 x37_1).f0))) (fun _ hk => hk.2) (.int .i64 ((rd_T42 l1 x37_1).f1))) (fun _ hk => hk.2) (.int .i64 ((rd_T42 l1 x37_1).f2))) (fun _ hk => hk.2) (.slice A437_3 ((rd_T42 l1 x37_1).f3).length c437_3)) (fun _ hk => ⟨hk.1.1.1, ⟨hk.1.1.2.1, ⟨hk.1.1.2.2, hk.1.2⟩⟩⟩)))⟩; have n2_ : Aside0 (Kd.V k31 31 w23 w.heap.size (fun k_ => (P1_ k_ ∨ w.heap.size ≤ k_) ∧ some k_ ≠ (u8 : Value).ownBlock ∧ k_ ≠ gb436 ∧ k_ ≠ gb438) u437001 x437001_1) := ⟨(by rw [hw]; exact (by (with_reducible repeat (first | apply Kd.V_alloc | apply Kd.V_drewN | apply Kd.V_drew)); exact Kd.V_mono (Kd.V_far (p := ⟨gb438, 3, none⟩) (Kd.V_far (p := ⟨gb438, 2, none⟩) (Kd.V_far (p := ⟨gb438, 1, none⟩) (Kd.V_far (p := ⟨gb438, 0, none⟩) (Kd.V_mono HO_437001.out (fun k_ hk => (⟨hk, hk.2⟩ : _ ∧ k_ ≠ gb438))) (fun _ hk => hk.2) (.int .i64 ((rd_T42 l1 x37_1).f0))) (fun _ hk => hk.2) (.int .i64 ((rd_T42 l1 x37_1).f1))) (fun _ hk => hk.2) (.int .i64 ((rd_T42 l1 x37_1).f2))) (fun _ hk => hk.2) (.slice A437_3 ((rd_T42 l1 x37_1).f3).length c437_3)) (fun _ hk => ⟨hk.1.1.1, ⟨hk.1.1.2.1, ⟨hk.1.1.2.2, hk.1.2⟩⟩⟩)))⟩; have n3_ : Aside0 (Kd.V k31 31 w23 w.heap.size (fun k_ => (P1_ k_ ∨ w.heap.size ≤ k_) ∧ some k_ ≠ (u8 : Value).ownBlock ∧ k_ ≠ gb436 ∧ k_ ≠ gb438) (.slice A437_3 ((rd_T42 l1 x37_1).f3).length c437_3) ((rd_T42 l1 x37_1).f3)) := ⟨(by rw [hw]; exact (by (with_reducible repeat (first | apply Kd.V_alloc | apply Kd.V_drewN | apply Kd.V_drew)); exact Kd.V_mono (Kd.V_far (p := ⟨gb438, 3, none⟩) (Kd.V_far (p := ⟨gb438, 2, none⟩) (Kd.V_far (p := ⟨gb438, 1, none⟩) (Kd.V_far (p := ⟨gb438, 0, none⟩) (Kd.V_mono HL437_3.out (fun k_ hk => (⟨hk, hk.2⟩ : _ ∧ k_ ≠ gb438))) (fun _ hk => hk.2) (.int .i64 ((rd_T42 l1 x37_1).f0))) (fun _ hk => hk.2) (.int .i64 ((rd_T42 l1 x37_1).f1))) (fun _ hk => hk.2) (.int .i64 ((rd_T42 l1 x37_1).f2))) (fun _ hk => hk.2) (.slice A437_3 ((rd_T42 l1 x37_1).f3).length c437_3)) (fun _ hk => ⟨hk.1.1.1, ⟨hk.1.1.2.1, ⟨hk.1.1.2.2, hk.1.2⟩⟩⟩)))⟩; have n4_ : Aside0 (w23.heap[gb436]? = some (.cells #[.int .i64 x437000_1, u437001] 24 (0, 0))) := ⟨(by rw [hw]; exact (by (with_reducible repeat (first | refine kN ?_ _ | refine kD ?_ | refine kA ?_ _)); refine blk_far ?_ NB436_438.out _; (with_reducible repeat (first | refine kN ?_ _ | refine kD ?_ | refine kA ?_ _)); refine blk_far ?_ NB436_438.out _; (with_reducible repeat (first | refine kN ?_ _ | refine kD ?_ | refine kA ?_ _)); refine blk_far ?_ NB436_438.out _; (with_reducible repeat (first | refine kN ?_ _ | refine kD ?_ | refine kA ?_ _)); refine blk_far ?_ NB436_438.out _; (with_reducible repeat (first | refine kN ?_ _ | refine kD ?_ | refine kA ?_ _)); exact BK436.out))⟩; have n5_ : Aside0 (w23.heap[gb438]? = some (.cells #[.int .i64 ((rd_T42 l1 x37_1).f0), .int .i64 ((rd_T42 l1 x37_1).f1), .int .i64 ((rd_T42 l1 x37_1).f2), .slice A437_3 ((rd_T42 l1 x37_1).f3).length c437_3] 42 (0, 0))) := ⟨(by rw [hw]; exact (by (with_reducible repeat (first | refine kN ?_ _ | refine kD ?_ | refine kA ?_ _)); refine blk_put (cs := #[.int .i64 ((rd_T42 l1 x37_1).f0), .int .i64 ((rd_T42 l1 x37_1).f1), .int .i64 ((rd_T42 l1 x37_1).f2), .slice none 0 0]) ?_ 3 _ rfl; (with_reducible repeat (first | refine kN ?_ _ | refine kD ?_ | refine kA ?_ _)); refine blk_put (cs := #[.int .i64 ((rd_T42 l1 x37_1).f0), .int .i64 ((rd_T42 l1 x37_1).f1), .int .i64 0, .slice none 0 0]) ?_ 2 _ rfl; (with_reducible repeat (first | refine kN ?_ _ | refine kD ?_ | refine kA ?_ _)); refine blk_put (cs := #[.int .i64 ((rd_T42 l1 x37_1).f0), .int .i64 0, .int .i64 0, .slice none 0 0]) ?_ 1 _ rfl; (with_reducible repeat (first | refine kN ?_ _ | refine kD ?_ | refine kA ?_ _)); refine blk_put (cs := #[.int .i64 0, .int .i64 0, .int .i64 0, .slice none 0 0]) ?_ 0 _ rfl; (with_reducible repeat (first | refine kN ?_ _ | refine kD ?_ | refine kA ?_ _)); exact BK438.out))⟩; have n6_ : Aside0 (Below w.heap.size w w23) := ⟨(by rw [hw]; exact (by repeat (first | (with_reducible first | exact HB.out | apply bA | apply bN | apply bD | refine bS ?_ GE436.out | refine bS ?_ GE438.out) | exact HB.out)))⟩; clear hw; clear HO_8; clear HO_35; clear HO_437001; clear HL437_3; clear BK436; clear BK438; clear HB; have HO_8 := n0_; have HO_35 := n1_; have HO_437001 := n2_; have HL437_3 := n3_; have BK436 := n4_; have BK438 := n5_; have HB := n6_; clear n0_ n1_ n2_ n3_ n4_ n5_ n6_; have hcz24_0 : w23.cell? ⟨gb436, 0, none⟩ = some (.int .i64 x437000_1) := (blk_cell BK436.out 0).trans rfl; have hcz24_1 : w23.cell? ⟨gb436, 1, none⟩ = some (u437001) := (blk_cell BK436.out 1).trans rfl; have hfz24_0 := blk_frozen BK436.out 0; have hfz24_1 := blk_frozen BK436.out 1; have hcz25_0 : w23.cell? ⟨gb438, 0, none⟩ = some (.int .i64 ((rd_T42 l1 x37_1).f0)) := (blk_cell BK438.out 0).trans rfl; have hcz25_1 : w23.cell? ⟨gb438, 1, none⟩ = some (.int .i64 ((rd_T42 l1 x37_1).f1)) := (blk_cell BK438.out 1).trans rfl; have hcz25_2 : w23.cell? ⟨gb438, 2, none⟩ = some (.int .i64 ((rd_T42 l1 x37_1).f2)) := (blk_cell BK438.out 2).trans rfl; have hcz25_3 : w23.cell? ⟨gb438, 3, none⟩ = some (.slice A437_3 ((rd_T42 l1 x37_1).f3).length c437_3) := (blk_cell BK438.out 3).trans rfl; have hfz25_0 := blk_frozen BK438.out 0; have hfz25_1 := blk_frozen BK438.out 1; have hfz25_2 := blk_frozen BK438.out 2; have hfz25_3 := blk_frozen BK438.out 3; obtain ⟨Ao26, co26, eo26⟩ := Kd.V_slice HO_437001.out; subst eo26) | ((with_reducible refine (squelchlaw21_few.calls k1 x437000_1 (fun k_ => ((P1_ k_ ∨ w.heap.size ≤ k_) ∧ (some k_ ≠ (u8 : Value).ownBlock ∧ (k_ ≠ gb436 ∧ k_ ≠ gb438)))) _ _ x437001_1 (fun k_ => ((P1_ k_ ∨ w.heap.size ≤ k_) ∧ (some k_ ≠ (u8 : Value).ownBlock ∧ (k_ ≠ gb436 ∧ k_ ≠ gb438)))) _ _ ((rd_T42 l1 x37_1).f3) true _ ?side1 ?side2 A17.out).mono ?_); (case side1 => exact HO_437001.out); (case side2 => exact HL437_3.out); rintro e w27 ⟨rfl, hb⟩; dsimp only; have n0_ := aM (Kd.N_below (by (with_reducible repeat (first | apply Kd.N_alloc | apply Kd.N_drewN | apply Kd.N_drew)); exact HO_8.out) hb); have n1_ := aM (Kd.V_below (by (with_reducible repeat (first | apply Kd.V_alloc | apply Kd.V_drewN | apply Kd.V_drew)); exact HO_35.out) hb); have n2_ := aM (Kd.V_below (by (with_reducible repeat (first | apply Kd.V_alloc | apply Kd.V_drewN | apply Kd.V_drew)); exact HO_437001.out) hb); have n3_ := aM (Kd.V_below (by (with_reducible repeat (first | apply Kd.V_alloc | apply Kd.V_drewN | apply Kd.V_drew)); exact HL437_3.out) hb); have n4_ := aM (blk_below (g := gb436) (o := .cells #[.int .i64 x437000_1, .slice Ao26 x437001_1.length co26] 24 (0, 0)) (by (with_reducible repeat (first | refine kN ?_ _ | refine kD ?_ | refine kA ?_ _)); exact BK436.out) hb); have n5_ := aM (Kd.C_below (by repeat (first | (with_reducible exact (Kd.V_reads' HL437_3.out).2.2) | (with_reducible refine Kd.C_alloc ?_ _) | (with_reducible refine Kd.C_drewN ?_ _) | (with_reducible refine Kd.C_drew ?_) | exact (Kd.V_reads' HL437_3.out).2.2)) hb); have n6_ := aM (blk_below (g := gb438) (o := .cells #[.int .i64 ((rd_T42 l1 x37_1).f0), .int .i64 ((rd_T42 l1 x37_1).f1), .int .i64 ((rd_T42 l1 x37_1).f2), .slice A437_3 ((rd_T42 l1 x37_1).f3).length c437_3] 42 (0, 0)) (by (with_reducible repeat (first | refine kN ?_ _ | refine kD ?_ | refine kA ?_ _)); exact BK438.out) hb); have n7_ := aM (below_step (by repeat (first | (with_reducible first | exact HB.out | apply bA | apply bN | apply bD | refine bS ?_ GE436.out | refine bS ?_ GE438.out) | exact HB.out)) hb); clear HO_8; clear HO_35; clear HO_437001; clear HL437_3; clear BK436; clear HR437_3; clear BK438; clear HB; have HO_8 := n0_; have HO_35 := n1_; have HO_437001 := n2_; have HL437_3 := n3_; have BK436 := n4_; have HR437_3 := n5_; have BK438 := n6_; have HB := n7_; clear n0_ n1_ n2_ n3_ n4_ n5_ n6_ n7_; (try clear hb); (try clear hb2); (try clear hk); (try clear hi); have hcz28_0 : w27.cell? ⟨gb438, 0, none⟩ = some (.int .i64 ((rd_T42 l1 x37_1).f0)) := (blk_cell BK438.out 0).trans rfl; have hcz28_1 : w27.cell? ⟨gb438, 1, none⟩ = some (.int .i64 ((rd_T42 l1 x37_1).f1)) := (blk_cell BK438.out 1).trans rfl; have hcz28_2 : w27.cell? ⟨gb438, 2, none⟩ = some (.int .i64 ((rd_T42 l1 x37_1).f2)) := (blk_cell BK438.out 2).trans rfl; have hcz28_3 : w27.cell? ⟨gb438, 3, none⟩ = some (.slice A437_3 ((rd_T42 l1 x37_1).f3).length c437_3) := (blk_cell BK438.out 3).trans rfl; have hfz28_0 := blk_frozen BK438.out 0; have hfz28_1 := blk_frozen BK438.out 1; have hfz28_2 := blk_frozen BK438.out 2; have hfz28_3 := blk_frozen BK438.out 3))
           go_roundg k1
           case measure => have := HK1.out; omega
           case rel => exact ⟨(x8_1), (wrap64 (x37_1 + 1)), (x437000_1), (x437001_1), (.slice Ao26 x437001_1.length co26), (by first | rfl | (simp; done) | (simp [*]; done)), H', ⟨by have := HK1.out; omega⟩, ⟨by (with_reducible repeat (first | apply Kd.N_alloc | apply Kd.N_drewN | apply Kd.N_drew)); exact Kd.N_mono HO_8.out (fun _ hk => ⟨hk.1, hk.2.1⟩)⟩, ⟨by (with_reducible repeat (first | apply Kd.V_alloc | apply Kd.V_drewN | apply Kd.V_drew)); exact Kd.V_mono HO_35.out (fun _ hk => ⟨hk.1, ⟨hk.2.1, hk.2.2.1⟩⟩)⟩, ⟨by (with_reducible repeat (first | apply Kd.V_alloc | apply Kd.V_drewN | apply Kd.V_drew)); exact Kd.V_mono HO_437001.out (fun _ hk => ⟨hk.1, ⟨hk.2.1, hk.2.2.1⟩⟩)⟩, ⟨by (with_reducible repeat (first | refine kN ?_ _ | refine kD ?_ | refine kA ?_ _)); exact BK436.out⟩, ⟨by repeat (first | (with_reducible first | exact HB.out | apply bA | apply bN | apply bD | refine bS ?_ GE436.out | refine bS ?_ GE438.out) | exact HB.out)⟩⟩
          ·rw [if_neg c19] at H
           have c19b0 : (((rd_T42 l1 x37_1).f0) == 5) = false := beq_eq_false_iff_ne.mpr c19
           have c19b1 : (((rd_T42 l1 x37_1).f0) != 5) = true := bne_iff_ne.mpr c19
           replace H := Option.bind_eq_some_iff.mp H
           obtain ⟨⟨t440, t441, t444, t445, t448, t451⟩, A290, H⟩ := H
           replace H : (if t451 = 0 then (if ((rd_T42 l1 x37_1).f0) = 0 then (if (t448.length : Int) = 1 then (if 0 < (t448.length : Int) then (if (rd t448 0) < 0 then (some false) else (if (rd t448 0) > (((rd_T42 l1 x37_1).f3).length : Int) then (some false) else (if (t441.length : Int) = (wrap64 ((x437001_1.length : Int) + (rd t448 0))) then (if 0 ≤ (rd t448 0) then (if (rd t448 0) ≤ (((rd_T42 l1 x37_1).f3).length : Int) then ((some (((rd_T42 l1 x37_1).f3).take ((rd t448 0) : Int).toNat : List (S31))).bind fun y458 => (if x8_1.length + y458.length < 4398046511104 then (squelchlaw21_PoolSent.j1 k1 true (x8_1 ++ y458) l1 (l1.length : Int) x37_1 ((rd_T42 l1 x37_1).f0) ((rd_T42 l1 x37_1).f1) ((rd_T42 l1 x37_1).f2) ((rd_T42 l1 x37_1).f3) t440 t441 t444 t445) else (none))) else (none)) else (none)) else (some false)))) else (none)) else (some false)) else (squelchlaw21_PoolSent.j1 k1 true x8_1 l1 (l1.length : Int) x37_1 ((rd_T42 l1 x37_1).f0) ((rd_T42 l1 x37_1).f1) ((rd_T42 l1 x37_1).f2) ((rd_T42 l1 x37_1).f3) t440 t441 t444 t445)) else (squelchlaw21_PoolSent.l0 k1 true x8_1 l1 (l1.length : Int) (wrap64 (x37_1 + 1)) x437000_1 x437001_1)) = some r := H
           have A29 := aM A290
           clear A290
           by_cases c30 : t451 = 0
           ·rw [if_pos c30] at H
            have c30b0 : (t451 == 0) = true := beq_iff_eq.mpr c30
            have c30b1 : (t451 != 0) = false := bne_eq_false_iff_eq.mpr c30
            clear c30
            have HC31 := aM H
            clear H
            have p437 : 0 ≤ (x37_1 : Int) := of_decide_eq_true (by first | (with_reducible assumption) | assumption)
            have q437 : x37_1 < (l1.length : Int) := of_decide_eq_true (by first | (with_reducible assumption) | assumption)
            obtain ⟨ad437, A437_3, c437_3, e437, hx437_0, hx437_1, hx437_2, hx437_3, hl437_3, hi437_3⟩ := at_T42 (Kd.V_reads' HO_35.out).2.2 x37_1 p437 q437
            cases e437
            obtain ⟨ce437, hce437, hMe437, hcc437⟩ := Kd.V_get HO_35.out z42 x37_1 p437 (by first | exact q437 | exact of_decide_eq_true (by first | (with_reducible assumption) | assumption) | (have e_ := (Kd.V_reads' HO_35.out).1; omega))
            obtain ⟨ua437_3, uc437_3, rfl, ul437_3, ge437_3⟩ := k42_openF hMe437
            have hv437_3 := hcc437 3 _ rfl
            rw [add_field _ _ 3 (by omega)] at hv437_3
            replace hv437_3 := Option.some.inj (hv437_3.symm.trans hx437_3)
            injection hv437_3 with hva_ hvn_ hvc_
            rw [hva_] at ge437_3
            rw [hvc_] at ul437_3
            have HL437_3 := aM (show Kd.V k31 31 _ w.heap.size _ _ ((rd_T42 l1 x37_1).f3) from Kd.V_mk ul437_3 ge437_3)
            clear hva_ hvn_ hvc_ ge437_3 ul437_3
            clear hcc437 hce437
            have HR437_3 := aM hi437_3
            have HC437_3 := aM hl437_3
            clear hi437_3 hl437_3
            replace p437 := eq_true p437
            replace q437 := eq_true q437
            go_upto_if 62 with (first | ((with_reducible refine gate_dst (N := 10) rfl ?_); (try (refine gate_guard (by rfl) ?_; dsimp only)); refine box_event ?hg (N := 10) ?hd (cs := #[.int .i64 0, .int .i64 0, .int .i64 0, .slice none 0 0]) (t := 42) ?hr ?_; (case hd => rfl); (case hg => rfl); (case hr => first | (go_simp; done) | (go_simp; rfl)); intro gb438 hg w32 hbox hb; have n0_ := aM (Kd.N_below (Kd.N_elderB (by (with_reducible repeat (first | apply Kd.N_alloc | apply Kd.N_drewN | apply Kd.N_drew)); exact HO_8.out) gb438 (Nat.le_of_eq hg.symm)) hb); have n1_ := aM (Kd.V_below (Kd.V_elderB (by (with_reducible repeat (first | apply Kd.V_alloc | apply Kd.V_drewN | apply Kd.V_drew)); exact HO_35.out) gb438 (Nat.le_of_eq hg.symm)) hb); have n2_ := aM (Kd.V_below (Kd.V_elderB (by (with_reducible repeat (first | apply Kd.V_alloc | apply Kd.V_drewN | apply Kd.V_drew)); exact HO_437001.out) gb438 (Nat.le_of_eq hg.symm)) hb); have n3_ := aM (Kd.V_below (Kd.V_elderB (by (with_reducible repeat (first | apply Kd.V_alloc | apply Kd.V_drewN | apply Kd.V_drew)); exact HL437_3.out) gb438 (Nat.le_of_eq hg.symm)) hb); have n4_ := aM (blk_below (g := gb436) (o := .cells #[.int .i64 x437000_1, u437001] 24 (0, 0)) (by (with_reducible repeat (first | refine kN ?_ _ | refine kD ?_ | refine kA ?_ _)); exact BK436.out) hb); have n5_ := aM (Kd.C_below (by repeat (first | (with_reducible exact (Kd.V_reads' HL437_3.out).2.2) | (with_reducible refine Kd.C_alloc ?_ _) | (with_reducible refine Kd.C_drewN ?_ _) | (with_reducible refine Kd.C_drew ?_) | exact (Kd.V_reads' HL437_3.out).2.2)) hb); have n6_ := aM (below_step (by repeat (first | (with_reducible first | exact HB.out | apply bA | apply bN | apply bD | refine bS ?_ GE436.out) | exact HB.out)) hb); have n7_ := aM (hbox); have n8_ := aM ((by rw [hg]; exact (below_size (by repeat (first | (with_reducible first | exact HB.out | apply bA | apply bN | apply bD | refine bS ?_ GE436.out) | exact HB.out))) : w.heap.size ≤ gb438)); have n9_ := aM ((by rw [hg]; exact (below_size (by repeat (first | (with_reducible first | exact HB.out | apply bA | apply bN | apply bD | refine bS ?_ GE436.out) | exact HB.out))) : w.heap.size ≤ gb438)); have n10_ := aM ((by rw [hg]; exact Nat.ne_of_lt (blk_lt (g := gb436) (o := .cells #[.int .i64 x437000_1, u437001] 24 (0, 0)) (by (with_reducible repeat (first | refine kN ?_ _ | refine kD ?_ | refine kA ?_ _)); exact BK436.out)) : gb436 ≠ gb438)); have n11_ := aM ((by rw [hg]; exact Nat.ne_of_gt (blk_lt (g := gb436) (o := .cells #[.int .i64 x437000_1, u437001] 24 (0, 0)) (by (with_reducible repeat (first | refine kN ?_ _ | refine kD ?_ | refine kA ?_ _)); exact BK436.out)) : gb438 ≠ gb436)); clear HO_8; clear HO_35; clear HO_437001; clear HL437_3; clear BK436; clear HR437_3; clear HB; have HO_8 := n0_; have HO_35 := n1_; have HO_437001 := n2_; have HL437_3 := n3_; have BK436 := n4_; have HR437_3 := n5_; have HB := n6_; have BK438 := n7_; have GW438 := n8_; have GE438 := n9_; have NB436_438 := n10_; have NB438_436 := n11_; clear n0_ n1_ n2_ n3_ n4_ n5_ n6_ n7_ n8_ n9_ n10_ n11_; clear hb hbox hg; have hnb33 := NB438_436.out; have hnc33 := NB436_438.out; have hcz34_0 : w32.cell? ⟨gb438, 0, none⟩ = some (.int .i64 0) := (blk_cell BK438.out 0).trans rfl; have hcz34_1 : w32.cell? ⟨gb438, 1, none⟩ = some (.int .i64 0) := (blk_cell BK438.out 1).trans rfl; have hcz34_2 : w32.cell? ⟨gb438, 2, none⟩ = some (.int .i64 0) := (blk_cell BK438.out 2).trans rfl; have hcz34_3 : w32.cell? ⟨gb438, 3, none⟩ = some (.slice none 0 0) := (blk_cell BK438.out 3).trans rfl; have hfz34_0 := blk_frozen BK438.out 0; have hfz34_1 := blk_frozen BK438.out 1; have hfz34_2 := blk_frozen BK438.out 2; have hfz34_3 := blk_frozen BK438.out 3) | ((with_reducible refine gate_store (t := 42) (p := 10) rfl ?_); refine store_event (t := 42) (p := 10) (v := ?vo_w35) (w1 := ((((w32.setCell ⟨gb438, 0, none⟩ (.int .i64 ((rd_T42 l1 x37_1).f0))).setCell ⟨gb438, 1, none⟩ (.int .i64 ((rd_T42 l1 x37_1).f1))).setCell ⟨gb438, 2, none⟩ (.int .i64 ((rd_T42 l1 x37_1).f2))).setCell ⟨gb438, 3, none⟩ (.slice A437_3 ((rd_T42 l1 x37_1).f3).length c437_3))) ?hg ?ho ?hn ?hr ?_; (case ho => rfl); (case hg => rfl); (case hn => rfl); (case hr => first | (go_simp; done) | (go_simp; rfl)); intro w35 hw; have n0_ : Aside0 (Kd.N k31 31 w35 w.heap.size (fun k_ => (P1_ k_ ∨ w.heap.size ≤ k_) ∧ k_ ≠ gb436 ∧ k_ ≠ gb438) u8 x8_1) := ⟨(by rw [hw]; exact (by (with_reducible repeat (first | apply Kd.N_alloc | apply Kd.N_drewN | apply Kd.N_drew)); exact Kd.N_mono (Kd.N_far (p := ⟨gb438, 3, none⟩) (Kd.N_far (p := ⟨gb438, 2, none⟩) (Kd.N_far (p := ⟨gb438, 1, none⟩) (Kd.N_far (p := ⟨gb438, 0, none⟩) (Kd.N_mono HO_8.out (fun k_ hk => (⟨hk, hk.2⟩ : _ ∧ k_ ≠ gb438))) (fun _ hk => hk.2) (.int .i64 ((rd_T42 l1 x37_1).f0))) (fun _ hk => hk.2) (.int .i64 ((rd_T42 l1 x37_1).f1))) (fun _ hk => hk.2) (.int .i64 ((rd_T42 l1 x37_1).f2))) (fun _ hk => hk.2) (.slice A437_3 ((rd_T42 l1 x37_1).f3).length c437_3)) (fun _ hk => ⟨hk.1.1.1, ⟨hk.1.1.2, hk.1.2⟩⟩)))⟩; have n1_ : Aside0 (Kd.V k42 42 w35 w.heap.size (fun k_ => (P1_ k_ ∨ w.heap.size ≤ k_) ∧ some k_ ≠ (u8 : Value).ownBlock ∧ k_ ≠ gb436 ∧ k_ ≠ gb438) (.slice (some ad437) l1.length c1) l1) := ⟨(by rw [hw]; exact (by (with_reducible repeat (first | apply Kd.V_alloc | apply Kd.V_drewN | apply Kd.V_drew)); exact Kd.V_mono (Kd.V_far (p := ⟨gb438, 3, none⟩) (Kd.V_far (p := ⟨gb438, 2, none⟩) (Kd.V_far (p := ⟨gb438, 1, none⟩) (Kd.V_far (p := ⟨gb438, 0, none⟩) (Kd.V_mono HO_35.out (fun k_ hk => (⟨hk, hk.2⟩ : _ ∧ k_ ≠ gb438))) (fun _ hk => hk.2) (.int .i64 ((rd_T42 l1 x37_1).f0))) (fun _ hk => hk.2) (.int .i64 ((rd_T42 l1 x37_1).f1))) (fun _ hk => hk.2) (.int .i64 ((rd_T42 l1 x37_1).f2))) (fun _ hk => hk.2) (.slice A437_3 ((rd_T42 l1 x37_1).f3).length c437_3)) (fun _ hk => ⟨hk.1.1.1, ⟨hk.1.1.2.1, ⟨hk.1.1.2.2, hk.1.2⟩⟩⟩)))⟩; have n2_ : Aside0 (Kd.V k31 31 w35 w.heap.size (fun k_ => (P1_ k_ ∨ w.heap.size ≤ k_) ∧ some k_ ≠ (u8 : Value).ownBlock ∧ k_ ≠ gb436 ∧ k_ ≠ gb438) u437001 x437001_1) := ⟨(by rw [hw]; exact (by (with_reducible repeat (first | apply Kd.V_alloc | apply Kd.V_drewN | apply Kd.V_drew)); exact Kd.V_mono (Kd.V_far (p := ⟨gb438, 3, none⟩) (Kd.V_far (p := ⟨gb438, 2, none⟩) (Kd.V_far (p := ⟨gb438, 1, none⟩) (Kd.V_far (p := ⟨gb438, 0, none⟩) (Kd.V_mono HO_437001.out (fun k_ hk => (⟨hk, hk.2⟩ : _ ∧ k_ ≠ gb438))) (fun _ hk => hk.2) (.int .i64 ((rd_T42 l1 x37_1).f0))) (fun _ hk => hk.2) (.int .i64 ((rd_T42 l1 x37_1).f1))) (fun _ hk => hk.2) (.int .i64 ((rd_T42 l1 x37_1).f2))) (fun _ hk => hk.2) (.slice A437_3 ((rd_T42 l1 x37_1).f3).length c437_3)) (fun _ hk => ⟨hk.1.1.1, ⟨hk.1.1.2.1, ⟨hk.1.1.2.2, hk.1.2⟩⟩⟩)))⟩; have n3_ : Aside0 (Kd.V k31 31 w35 w.heap.size (fun k_ => (P1_ k_ ∨ w.heap.size ≤ k_) ∧ some k_ ≠ (u8 : Value).ownBlock ∧ k_ ≠ gb436 ∧ k_ ≠ gb438) (.slice A437_3 ((rd_T42 l1 x37_1).f3).length c437_3) ((rd_T42 l1 x37_1).f3)) := ⟨(by rw [hw]; exact (by (with_reducible repeat (first | apply Kd.V_alloc | apply Kd.V_drewN | apply Kd.V_drew)); exact Kd.V_mono (Kd.V_far (p := ⟨gb438, 3, none⟩) (Kd.V_far (p := ⟨gb438, 2, none⟩) (Kd.V_far (p := ⟨gb438, 1, none⟩) (Kd.V_far (p := ⟨gb438, 0, none⟩) (Kd.V_mono HL437_3.out (fun k_ hk => (⟨hk, hk.2⟩ : _ ∧ k_ ≠ gb438))) (fun _ hk => hk.2) (.int .i64 ((rd_T42 l1 x37_1).f0))) (fun _ hk => hk.2) (.int .i64 ((rd_T42 l1 x37_1).f1))) (fun _ hk => hk.2) (.int .i64 ((rd_T42 l1 x37_1).f2))) (fun _ hk => hk.2) (.slice A437_3 ((rd_T42 l1 x37_1).f3).length c437_3)) (fun _ hk => ⟨hk.1.1.1, ⟨hk.1.1.2.1, ⟨hk.1.1.2.2, hk.1.2⟩⟩⟩)))⟩; have n4_ : Aside0 (w35.heap[gb436]? = some (.cells #[.int .i64 x437000_1, u437001] 24 (0, 0))) := ⟨(by rw [hw]; exact (by (with_reducible repeat (first | refine kN ?_ _ | refine kD ?_ | refine kA ?_ _)); refine blk_far ?_ NB436_438.out _; (with_reducible repeat (first | refine kN ?_ _ | refine kD ?_ | refine kA ?_ _)); refine blk_far ?_ NB436_438.out _; (with_reducible repeat (first | refine kN ?_ _ | refine kD ?_ | refine kA ?_ _)); refine blk_far ?_ NB436_438.out _; (with_reducible repeat (first | refine kN ?_ _ | refine kD ?_ | refine kA ?_ _)); refine blk_far ?_ NB436_438.out _; (with_reducible repeat (first | refine kN ?_ _ | refine kD ?_ | refine kA ?_ _)); exact BK436.out))⟩; have n5_ : Aside0 (w35.heap[gb438]? = some (.cells #[.int .i64 ((rd_T42 l1 x37_1).f0), .int .i64 ((rd_T42 l1 x37_1).f1), .int .i64 ((rd_T42 l1 x37_1).f2), .slice A437_3 ((rd_T42 l1 x37_1).f3).length c437_3] 42 (0, 0))) := ⟨(by rw [hw]; exact (by (with_reducible repeat (first | refine kN ?_ _ | refine kD ?_ | refine kA ?_ _)); refine blk_put (cs := #[.int .i64 ((rd_T42 l1 x37_1).f0), .int .i64 ((rd_T42 l1 x37_1).f1), .int .i64 ((rd_T42 l1 x37_1).f2), .slice none 0 0]) ?_ 3 _ rfl; (with_reducible repeat (first | refine kN ?_ _ | refine kD ?_ | refine kA ?_ _)); refine blk_put (cs := #[.int .i64 ((rd_T42 l1 x37_1).f0), .int .i64 ((rd_T42 l1 x37_1).f1), .int .i64 0, .slice none 0 0]) ?_ 2 _ rfl; (with_reducible repeat (first | refine kN ?_ _ | refine kD ?_ | refine kA ?_ _)); refine blk_put (cs := #[.int .i64 ((rd_T42 l1 x37_1).f0), .int .i64 0, .int .i64 0, .slice none 0 0]) ?_ 1 _ rfl; (with_reducible repeat (first | refine kN ?_ _ | refine kD ?_ | refine kA ?_ _)); refine blk_put (cs := #[.int .i64 0, .int .i64 0, .int .i64 0, .slice none 0 0]) ?_ 0 _ rfl; (with_reducible repeat (first | refine kN ?_ _ | refine kD ?_ | refine kA ?_ _)); exact BK438.out))⟩; have n6_ : Aside0 (Below w.heap.size w w35) := ⟨(by rw [hw]; exact (by repeat (first | (with_reducible first | exact HB.out | apply bA | apply bN | apply bD | refine bS ?_ GE436.out | refine bS ?_ GE438.out) | exact HB.out)))⟩; clear hw; clear HO_8; clear HO_35; clear HO_437001; clear HL437_3; clear BK436; clear BK438; clear HB; have HO_8 := n0_; have HO_35 := n1_; have HO_437001 := n2_; have HL437_3 := n3_; have BK436 := n4_; have BK438 := n5_; have HB := n6_; clear n0_ n1_ n2_ n3_ n4_ n5_ n6_; have hcz36_0 : w35.cell? ⟨gb436, 0, none⟩ = some (.int .i64 x437000_1) := (blk_cell BK436.out 0).trans rfl; have hcz36_1 : w35.cell? ⟨gb436, 1, none⟩ = some (u437001) := (blk_cell BK436.out 1).trans rfl; have hfz36_0 := blk_frozen BK436.out 0; have hfz36_1 := blk_frozen BK436.out 1; have hcz37_0 : w35.cell? ⟨gb438, 0, none⟩ = some (.int .i64 ((rd_T42 l1 x37_1).f0)) := (blk_cell BK438.out 0).trans rfl; have hcz37_1 : w35.cell? ⟨gb438, 1, none⟩ = some (.int .i64 ((rd_T42 l1 x37_1).f1)) := (blk_cell BK438.out 1).trans rfl; have hcz37_2 : w35.cell? ⟨gb438, 2, none⟩ = some (.int .i64 ((rd_T42 l1 x37_1).f2)) := (blk_cell BK438.out 2).trans rfl; have hcz37_3 : w35.cell? ⟨gb438, 3, none⟩ = some (.slice A437_3 ((rd_T42 l1 x37_1).f3).length c437_3) := (blk_cell BK438.out 3).trans rfl; have hfz37_0 := blk_frozen BK438.out 0; have hfz37_1 := blk_frozen BK438.out 1; have hfz37_2 := blk_frozen BK438.out 2; have hfz37_3 := blk_frozen BK438.out 3; obtain ⟨Ao38, co38, eo38⟩ := Kd.V_slice HO_437001.out; subst eo38) | ((with_reducible refine (squelchlaw21_few.calls k1 x437000_1 (fun k_ => ((P1_ k_ ∨ w.heap.size ≤ k_) ∧ (some k_ ≠ (u8 : Value).ownBlock ∧ (k_ ≠ gb436 ∧ k_ ≠ gb438)))) _ _ x437001_1 (fun k_ => ((P1_ k_ ∨ w.heap.size ≤ k_) ∧ (some k_ ≠ (u8 : Value).ownBlock ∧ (k_ ≠ gb436 ∧ k_ ≠ gb438)))) _ _ ((rd_T42 l1 x37_1).f3) true _ ?side1 ?side2 A17.out).mono ?_); (case side1 => exact HO_437001.out); (case side2 => exact HL437_3.out); rintro e w39 ⟨rfl, hb⟩; dsimp only; have n0_ := aM (Kd.N_below (by (with_reducible repeat (first | apply Kd.N_alloc | apply Kd.N_drewN | apply Kd.N_drew)); exact HO_8.out) hb); have n1_ := aM (Kd.V_below (by (with_reducible repeat (first | apply Kd.V_alloc | apply Kd.V_drewN | apply Kd.V_drew)); exact HO_35.out) hb); have n2_ := aM (Kd.V_below (by (with_reducible repeat (first | apply Kd.V_alloc | apply Kd.V_drewN | apply Kd.V_drew)); exact HO_437001.out) hb); have n3_ := aM (Kd.V_below (by (with_reducible repeat (first | apply Kd.V_alloc | apply Kd.V_drewN | apply Kd.V_drew)); exact HL437_3.out) hb); have n4_ := aM (blk_below (g := gb436) (o := .cells #[.int .i64 x437000_1, .slice Ao38 x437001_1.length co38] 24 (0, 0)) (by (with_reducible repeat (first | refine kN ?_ _ | refine kD ?_ | refine kA ?_ _)); exact BK436.out) hb); have n5_ := aM (Kd.C_below (by repeat (first | (with_reducible exact (Kd.V_reads' HL437_3.out).2.2) | (with_reducible refine Kd.C_alloc ?_ _) | (with_reducible refine Kd.C_drewN ?_ _) | (with_reducible refine Kd.C_drew ?_) | exact (Kd.V_reads' HL437_3.out).2.2)) hb); have n6_ := aM (blk_below (g := gb438) (o := .cells #[.int .i64 ((rd_T42 l1 x37_1).f0), .int .i64 ((rd_T42 l1 x37_1).f1), .int .i64 ((rd_T42 l1 x37_1).f2), .slice A437_3 ((rd_T42 l1 x37_1).f3).length c437_3] 42 (0, 0)) (by (with_reducible repeat (first | refine kN ?_ _ | refine kD ?_ | refine kA ?_ _)); exact BK438.out) hb); have n7_ := aM (below_step (by repeat (first | (with_reducible first | exact HB.out | apply bA | apply bN | apply bD | refine bS ?_ GE436.out | refine bS ?_ GE438.out) | exact HB.out)) hb); clear HO_8; clear HO_35; clear HO_437001; clear HL437_3; clear BK436; clear HR437_3; clear BK438; clear HB; have HO_8 := n0_; have HO_35 := n1_; have HO_437001 := n2_; have HL437_3 := n3_; have BK436 := n4_; have HR437_3 := n5_; have BK438 := n6_; have HB := n7_; clear n0_ n1_ n2_ n3_ n4_ n5_ n6_ n7_; (try clear hb); (try clear hb2); (try clear hk); (try clear hi); have hcz40_0 : w39.cell? ⟨gb438, 0, none⟩ = some (.int .i64 ((rd_T42 l1 x37_1).f0)) := (blk_cell BK438.out 0).trans rfl; have hcz40_1 : w39.cell? ⟨gb438, 1, none⟩ = some (.int .i64 ((rd_T42 l1 x37_1).f1)) := (blk_cell BK438.out 1).trans rfl; have hcz40_2 : w39.cell? ⟨gb438, 2, none⟩ = some (.int .i64 ((rd_T42 l1 x37_1).f2)) := (blk_cell BK438.out 2).trans rfl; have hcz40_3 : w39.cell? ⟨gb438, 3, none⟩ = some (.slice A437_3 ((rd_T42 l1 x37_1).f3).length c437_3) := (blk_cell BK438.out 3).trans rfl; have hfz40_0 := blk_frozen BK438.out 0; have hfz40_1 := blk_frozen BK438.out 1; have hfz40_2 := blk_frozen BK438.out 2; have hfz40_3 := blk_frozen BK438.out 3; have hcz41_0 : w39.cell? ⟨gb436, 0, none⟩ = some (.int .i64 x437000_1) := (blk_cell BK436.out 0).trans rfl; have hcz41_1 : w39.cell? ⟨gb436, 1, none⟩ = some (.slice Ao38 x437001_1.length co38) := (blk_cell BK436.out 1).trans rfl; have hfz41_0 := blk_frozen BK436.out 0; have hfz41_1 := blk_frozen BK436.out 1) | ((with_reducible refine gate_callee (f := 14) rfl ?_); refine goesL_ (some 53) rfl rfl Try.func14 (by kernel_rfl) rfl #[.agg #[.int .i64 x437000_1, .slice Ao38 x437001_1.length co38], .agg #[.int .i64 ((rd_T42 l1 x37_1).f0), .int .i64 ((rd_T42 l1 x37_1).f1), .int .i64 ((rd_T42 l1 x37_1).f2), .slice A437_3 ((rd_T42 l1 x37_1).f3).length c437_3]] rfl (by (try simp only [List.map_toArray, List.map_cons, List.map_nil]); first | done | rfl | (simp only [List.length_drop, List.length_take]; rfl)) ?_; (with_reducible refine (squelchlaw21_body.calls k1 x437000_1 (fun k_ => ((P1_ k_ ∨ w.heap.size ≤ k_) ∧ (some k_ ≠ (u8 : Value).ownBlock ∧ (k_ ≠ gb436 ∧ k_ ≠ gb438)))) _ _ x437001_1 ((rd_T42 l1 x37_1).f0) ((rd_T42 l1 x37_1).f1) ((rd_T42 l1 x37_1).f2) _ _ ((rd_T42 l1 x37_1).f3) t440 t441 t444 t445 t448 t451 _ ?side1 ?side2 ?side3 A29.out).mono ?_); (case side1 => exact HO_437001.out); (case side2 => repeat (first | exact (by repeat (first | (with_reducible exact (Kd.V_reads' HL437_3.out).2.2) | (with_reducible refine Kd.C_alloc ?_ _) | (with_reducible refine Kd.C_drewN ?_ _) | (with_reducible refine Kd.C_drew ?_) | exact (Kd.V_reads' HL437_3.out).2.2)) | (with_reducible refine Kd.C_alloc ?_ _) | (with_reducible refine Kd.C_drewN ?_ _) | (with_reducible refine Kd.C_drew ?_))); (case side3 => exact HC437_3.out); rintro e w42 ⟨v442, v446, v449, rfl, ho0, ho1, ho2, hb⟩; refine ⟨_, rfl, ?_⟩; have n0_ := aM (Kd.N_mono (Kd.N_told (Kd.N_told (Kd.N_old (by (with_reducible repeat (first | apply Kd.N_alloc | apply Kd.N_drewN | apply Kd.N_drew)); exact HO_8.out) hb) (Kd.R_base ho1)) (Kd.R_base ho2)) (fun _ h_ => h_.1)); have n1_ := aM (Kd.V_mono (Kd.V_told (Kd.V_told (Kd.V_old (by (with_reducible repeat (first | apply Kd.V_alloc | apply Kd.V_drewN | apply Kd.V_drew)); exact HO_35.out) hb) (Kd.R_base ho1)) (Kd.R_base ho2)) (fun _ h_ => h_.1)); have n2_ := aM (Kd.V_mono (Kd.V_told (Kd.V_told (Kd.V_old (by (with_reducible repeat (first | apply Kd.V_alloc | apply Kd.V_drewN | apply Kd.V_drew)); exact HO_437001.out) hb) (Kd.R_base ho1)) (Kd.R_base ho2)) (fun _ h_ => h_.1)); have n3_ := aM (Kd.V_mono (Kd.V_told (Kd.V_told (Kd.V_old (by (with_reducible repeat (first | apply Kd.V_alloc | apply Kd.V_drewN | apply Kd.V_drew)); exact HL437_3.out) hb) (Kd.R_base ho1)) (Kd.R_base ho2)) (fun _ h_ => h_.1)); have n4_ := aM (Kd.V_lower (Kd.V_mono (ok' := fun k_ => (P1_ k_ ∨ w.heap.size ≤ k_) ∧ some k_ ≠ (v446 : Value).ownBlock ∧ some k_ ≠ (v449 : Value).ownBlock ∧ some k_ ≠ (u8 : Value).ownBlock ∧ k_ ≠ gb436 ∧ k_ ≠ gb438) ho0 (fun k_ hk_ => ⟨Or.elim hk_.1 (fun hs_ => hs_.1) (fun hn_ => (.inr (Nat.le_trans (below_size (by repeat (first | (with_reducible first | exact HB.out | apply bA | apply bN | apply bD | refine bS ?_ GE436.out | refine bS ?_ GE438.out) | exact HB.out))) hn_))), hk_.2.1, hk_.2.2, Or.elim hk_.1 (fun hs_ => hs_.2.1) (fun hn_ => (Kd.fresh' (Kd.N_lt (by (with_reducible repeat (first | apply Kd.N_alloc | apply Kd.N_drewN | apply Kd.N_drew)); exact HO_8.out)) k_ hn_)), Or.elim hk_.1 (fun hs_ => hs_.2.2.1) (fun hn_ => (Kd.freshB (g := gb436) (o := .cells #[.int .i64 x437000_1, .slice Ao38 x437001_1.length co38] 24 (0, 0)) (by (with_reducible repeat (first | refine kN ?_ _ | refine kD ?_ | refine kA ?_ _)); exact BK436.out) k_ hn_)), Or.elim hk_.1 (fun hs_ => hs_.2.2.2) (fun hn_ => (Kd.freshB (g := gb438) (o := .cells #[.int .i64 ((rd_T42 l1 x37_1).f0), .int .i64 ((rd_T42 l1 x37_1).f1), .int .i64 ((rd_T42 l1 x37_1).f2), .slice A437_3 ((rd_T42 l1 x37_1).f3).length c437_3] 42 (0, 0)) (by (with_reducible repeat (first | refine kN ?_ _ | refine kD ?_ | refine kA ?_ _)); exact BK438.out) k_ hn_))⟩)) (below_size (by repeat (first | (with_reducible first | exact HB.out | apply bA | apply bN | apply bD | refine bS ?_ GE436.out | refine bS ?_ GE438.out) | exact HB.out)))); have n5_ := aM (Kd.R_lower (Kd.R_newM (M := fun k_ => (w.heap.size ≤ k_)) (Kd.R_mono (ok' := fun k_ => True) ho1 (fun _ hk_ => trivial)) (below_size (by repeat (first | (with_reducible first | exact HB.out | apply bA | apply bN | apply bD | refine bS ?_ GE436.out | refine bS ?_ GE438.out) | exact HB.out))) (fun k_ h_ => h_)) (below_size (by repeat (first | (with_reducible first | exact HB.out | apply bA | apply bN | apply bD | refine bS ?_ GE436.out | refine bS ?_ GE438.out) | exact HB.out)))); have n6_ := aM (Kd.R_lower (Kd.R_newM (M := fun k_ => (w.heap.size ≤ k_)) (Kd.R_mono (ok' := fun k_ => True) ho2 (fun _ hk_ => trivial)) (below_size (by repeat (first | (with_reducible first | exact HB.out | apply bA | apply bN | apply bD | refine bS ?_ GE436.out | refine bS ?_ GE438.out) | exact HB.out))) (fun k_ h_ => h_)) (below_size (by repeat (first | (with_reducible first | exact HB.out | apply bA | apply bN | apply bD | refine bS ?_ GE436.out | refine bS ?_ GE438.out) | exact HB.out)))); have n7_ := aM (blk_below (g := gb436) (o := .cells #[.int .i64 x437000_1, .slice Ao38 x437001_1.length co38] 24 (0, 0)) (by (with_reducible repeat (first | refine kN ?_ _ | refine kD ?_ | refine kA ?_ _)); exact BK436.out) hb); have n8_ := aM (Kd.C_below (by repeat (first | (with_reducible exact (Kd.V_reads' HL437_3.out).2.2) | (with_reducible refine Kd.C_alloc ?_ _) | (with_reducible refine Kd.C_drewN ?_ _) | (with_reducible refine Kd.C_drew ?_) | exact (Kd.V_reads' HL437_3.out).2.2)) hb); have n9_ := aM (blk_below (g := gb438) (o := .cells #[.int .i64 ((rd_T42 l1 x37_1).f0), .int .i64 ((rd_T42 l1 x37_1).f1), .int .i64 ((rd_T42 l1 x37_1).f2), .slice A437_3 ((rd_T42 l1 x37_1).f3).length c437_3] 42 (0, 0)) (by (with_reducible repeat (first | refine kN ?_ _ | refine kD ?_ | refine kA ?_ _)); exact BK438.out) hb); have n10_ := aM (below_step (by repeat (first | (with_reducible first | exact HB.out | apply bA | apply bN | apply bD | refine bS ?_ GE436.out | refine bS ?_ GE438.out) | exact HB.out)) hb); clear HO_8; clear HO_35; clear HO_437001; clear HL437_3; clear BK436; clear HR437_3; clear BK438; clear HB; have HO_8 := n0_; have HO_35 := n1_; have HO_437001 := n2_; have HL437_3 := n3_; have HO443 := n4_; have HO447 := n5_; have HO450 := n6_; have BK436 := n7_; have HR437_3 := n8_; have BK438 := n9_; have HB := n10_; clear n0_ n1_ n2_ n3_ n4_ n5_ n6_ n7_ n8_ n9_ n10_; (try clear hb); (try clear hb2); (try clear hk); (try clear hi); (try clear ho0); (try clear ho1); (try clear ho2)) | ((with_reducible refine gate_dst (N := 11) rfl ?_); (try (refine gate_guard (by rfl) ?_; dsimp only)); refine box_event ?hg (N := 11) ?hd (cs := #[.int .i64 0, .slice none 0 0]) (t := 24) ?hr ?_; (case hd => rfl); (case hg => rfl); (case hr => first | (go_simp; done) | (go_simp; rfl)); intro gb452 hg w43 hbox hb; have n0_ := aM (Kd.N_below (Kd.N_elderB (by (with_reducible repeat (first | apply Kd.N_alloc | apply Kd.N_drewN | apply Kd.N_drew)); exact HO_8.out) gb452 (Nat.le_of_eq hg.symm)) hb); have n1_ := aM (Kd.V_below (Kd.V_elderB (by (with_reducible repeat (first | apply Kd.V_alloc | apply Kd.V_drewN | apply Kd.V_drew)); exact HO_35.out) gb452 (Nat.le_of_eq hg.symm)) hb); have n2_ := aM (Kd.V_below (Kd.V_elderB (by (with_reducible repeat (first | apply Kd.V_alloc | apply Kd.V_drewN | apply Kd.V_drew)); exact HO_437001.out) gb452 (Nat.le_of_eq hg.symm)) hb); have n3_ := aM (Kd.V_below (Kd.V_elderB (by (with_reducible repeat (first | apply Kd.V_alloc | apply Kd.V_drewN | apply Kd.V_drew)); exact HL437_3.out) gb452 (Nat.le_of_eq hg.symm)) hb); have n4_ := aM (Kd.V_below (Kd.V_elderB (by (with_reducible repeat (first | apply Kd.V_alloc | apply Kd.V_drewN | apply Kd.V_drew)); exact HO443.out) gb452 (Nat.le_of_eq hg.symm)) hb); have n5_ := aM (Kd.R_below (by (with_reducible repeat (first | apply Kd.R_alloc | apply Kd.R_drewN | apply Kd.R_drew)); exact HO447.out) hb); have n6_ := aM (Kd.R_below (by (with_reducible repeat (first | apply Kd.R_alloc | apply Kd.R_drewN | apply Kd.R_drew)); exact HO450.out) hb); have n7_ := aM (blk_below (g := gb436) (o := .cells #[.int .i64 x437000_1, .slice Ao38 x437001_1.length co38] 24 (0, 0)) (by (with_reducible repeat (first | refine kN ?_ _ | refine kD ?_ | refine kA ?_ _)); exact BK436.out) hb); have n8_ := aM (Kd.C_below (by repeat (first | (with_reducible exact (Kd.V_reads' HL437_3.out).2.2) | (with_reducible refine Kd.C_alloc ?_ _) | (with_reducible refine Kd.C_drewN ?_ _) | (with_reducible refine Kd.C_drew ?_) | exact (Kd.V_reads' HL437_3.out).2.2)) hb); have n9_ := aM (blk_below (g := gb438) (o := .cells #[.int .i64 ((rd_T42 l1 x37_1).f0), .int .i64 ((rd_T42 l1 x37_1).f1), .int .i64 ((rd_T42 l1 x37_1).f2), .slice A437_3 ((rd_T42 l1 x37_1).f3).length c437_3] 42 (0, 0)) (by (with_reducible repeat (first | refine kN ?_ _ | refine kD ?_ | refine kA ?_ _)); exact BK438.out) hb); have n10_ := aM (below_step (by repeat (first | (with_reducible first | exact HB.out | apply bA | apply bN | apply bD | refine bS ?_ GE436.out | refine bS ?_ GE438.out) | exact HB.out)) hb); have n11_ := aM (hbox); have n12_ := aM ((by rw [hg]; exact (below_size (by repeat (first | (with_reducible first | exact HB.out | apply bA | apply bN | apply bD | refine bS ?_ GE436.out | refine bS ?_ GE438.out) | exact HB.out))) : w.heap.size ≤ gb452)); have n13_ := aM ((by rw [hg]; exact (below_size (by repeat (first | (with_reducible first | exact HB.out | apply bA | apply bN | apply bD | refine bS ?_ GE436.out | refine bS ?_ GE438.out) | exact HB.out))) : w.heap.size ≤ gb452)); have n14_ := aM ((by rw [hg]; exact Nat.ne_of_lt (blk_lt (g := gb436) (o := .cells #[.int .i64 x437000_1, .slice Ao38 x437001_1.length co38] 24 (0, 0)) (by (with_reducible repeat (first | refine kN ?_ _ | refine kD ?_ | refine kA ?_ _)); exact BK436.out)) : gb436 ≠ gb452)); have n15_ := aM ((by rw [hg]; exact Nat.ne_of_gt (blk_lt (g := gb436) (o := .cells #[.int .i64 x437000_1, .slice Ao38 x437001_1.length co38] 24 (0, 0)) (by (with_reducible repeat (first | refine kN ?_ _ | refine kD ?_ | refine kA ?_ _)); exact BK436.out)) : gb452 ≠ gb436)); have n16_ := aM ((by rw [hg]; exact Nat.ne_of_lt (blk_lt (g := gb438) (o := .cells #[.int .i64 ((rd_T42 l1 x37_1).f0), .int .i64 ((rd_T42 l1 x37_1).f1), .int .i64 ((rd_T42 l1 x37_1).f2), .slice A437_3 ((rd_T42 l1 x37_1).f3).length c437_3] 42 (0, 0)) (by (with_reducible repeat (first | refine kN ?_ _ | refine kD ?_ | refine kA ?_ _)); exact BK438.out)) : gb438 ≠ gb452)); have n17_ := aM ((by rw [hg]; exact Nat.ne_of_gt (blk_lt (g := gb438) (o := .cells #[.int .i64 ((rd_T42 l1 x37_1).f0), .int .i64 ((rd_T42 l1 x37_1).f1), .int .i64 ((rd_T42 l1 x37_1).f2), .slice A437_3 ((rd_T42 l1 x37_1).f3).length c437_3] 42 (0, 0)) (by (with_reducible repeat (first | refine kN ?_ _ | refine kD ?_ | refine kA ?_ _)); exact BK438.out)) : gb452 ≠ gb438)); clear HO_8; clear HO_35; clear HO_437001; clear HL437_3; clear HO443; clear HO447; clear HO450; clear BK436; clear HR437_3; clear BK438; clear HB; have HO_8 := n0_; have HO_35 := n1_; have HO_437001 := n2_; have HL437_3 := n3_; have HO443 := n4_; have HO447 := n5_; have HO450 := n6_; have BK436 := n7_; have HR437_3 := n8_; have BK438 := n9_; have HB := n10_; have BK452 := n11_; have GW452 := n12_; have GE452 := n13_; have NB436_452 := n14_; have NB452_436 := n15_; have NB438_452 := n16_; have NB452_438 := n17_; clear n0_ n1_ n2_ n3_ n4_ n5_ n6_ n7_ n8_ n9_ n10_ n11_ n12_ n13_ n14_ n15_ n16_ n17_; clear hb hbox hg) | ((with_reducible refine gate_dst (N := 12) rfl ?_); (try (refine gate_guard (by rfl) ?_; dsimp only)); refine box_event ?hg (N := 12) ?hd (cs := #[.int .i64 0, .slice none 0 0]) (t := 31) ?hr ?_; (case hd => rfl); (case hg => rfl); (case hr => first | (go_simp; done) | (go_simp; rfl)); intro gb453 hg w44 hbox hb; have n0_ := aM (Kd.N_below (Kd.N_elderB (by (with_reducible repeat (first | apply Kd.N_alloc | apply Kd.N_drewN | apply Kd.N_drew)); exact HO_8.out) gb453 (Nat.le_of_eq hg.symm)) hb); have n1_ := aM (Kd.V_below (Kd.V_elderB (by (with_reducible repeat (first | apply Kd.V_alloc | apply Kd.V_drewN | apply Kd.V_drew)); exact HO_35.out) gb453 (Nat.le_of_eq hg.symm)) hb); have n2_ := aM (Kd.V_below (Kd.V_elderB (by (with_reducible repeat (first | apply Kd.V_alloc | apply Kd.V_drewN | apply Kd.V_drew)); exact HO_437001.out) gb453 (Nat.le_of_eq hg.symm)) hb); have n3_ := aM (Kd.V_below (Kd.V_elderB (by (with_reducible repeat (first | apply Kd.V_alloc | apply Kd.V_drewN | apply Kd.V_drew)); exact HL437_3.out) gb453 (Nat.le_of_eq hg.symm)) hb); have n4_ := aM (Kd.V_below (Kd.V_elderB (by (with_reducible repeat (first | apply Kd.V_alloc | apply Kd.V_drewN | apply Kd.V_drew)); exact HO443.out) gb453 (Nat.le_of_eq hg.symm)) hb); have n5_ := aM (Kd.R_below (by (with_reducible repeat (first | apply Kd.R_alloc | apply Kd.R_drewN | apply Kd.R_drew)); exact HO447.out) hb); have n6_ := aM (Kd.R_below (by (with_reducible repeat (first | apply Kd.R_alloc | apply Kd.R_drewN | apply Kd.R_drew)); exact HO450.out) hb); have n7_ := aM (blk_below (g := gb436) (o := .cells #[.int .i64 x437000_1, .slice Ao38 x437001_1.length co38] 24 (0, 0)) (by (with_reducible repeat (first | refine kN ?_ _ | refine kD ?_ | refine kA ?_ _)); exact BK436.out) hb); have n8_ := aM (Kd.C_below (by repeat (first | (with_reducible exact (Kd.V_reads' HL437_3.out).2.2) | (with_reducible refine Kd.C_alloc ?_ _) | (with_reducible refine Kd.C_drewN ?_ _) | (with_reducible refine Kd.C_drew ?_) | exact (Kd.V_reads' HL437_3.out).2.2)) hb); have n9_ := aM (blk_below (g := gb438) (o := .cells #[.int .i64 ((rd_T42 l1 x37_1).f0), .int .i64 ((rd_T42 l1 x37_1).f1), .int .i64 ((rd_T42 l1 x37_1).f2), .slice A437_3 ((rd_T42 l1 x37_1).f3).length c437_3] 42 (0, 0)) (by (with_reducible repeat (first | refine kN ?_ _ | refine kD ?_ | refine kA ?_ _)); exact BK438.out) hb); have n10_ := aM (blk_below (g := gb452) (o := .cells #[.int .i64 0, .slice none 0 0] 24 (0, 0)) (by (with_reducible repeat (first | refine kN ?_ _ | refine kD ?_ | refine kA ?_ _)); exact BK452.out) hb); have n11_ := aM (below_step (by repeat (first | (with_reducible first | exact HB.out | apply bA | apply bN | apply bD | refine bS ?_ GE436.out | refine bS ?_ GE438.out | refine bS ?_ GE452.out) | exact HB.out)) hb); have n12_ := aM (hbox); have n13_ := aM ((by rw [hg]; exact (below_size (by repeat (first | (with_reducible first | exact HB.out | apply bA | apply bN | apply bD | refine bS ?_ GE436.out | refine bS ?_ GE438.out | refine bS ?_ GE452.out) | exact HB.out))) : w.heap.size ≤ gb453)); have n14_ := aM ((by rw [hg]; exact (below_size (by repeat (first | (with_reducible first | exact HB.out | apply bA | apply bN | apply bD | refine bS ?_ GE436.out | refine bS ?_ GE438.out | refine bS ?_ GE452.out) | exact HB.out))) : w.heap.size ≤ gb453)); have n15_ := aM ((by rw [hg]; exact Nat.ne_of_lt (blk_lt (g := gb436) (o := .cells #[.int .i64 x437000_1, .slice Ao38 x437001_1.length co38] 24 (0, 0)) (by (with_reducible repeat (first | refine kN ?_ _ | refine kD ?_ | refine kA ?_ _)); exact BK436.out)) : gb436 ≠ gb453)); have n16_ := aM ((by rw [hg]; exact Nat.ne_of_gt (blk_lt (g := gb436) (o := .cells #[.int .i64 x437000_1, .slice Ao38 x437001_1.length co38] 24 (0, 0)) (by (with_reducible repeat (first | refine kN ?_ _ | refine kD ?_ | refine kA ?_ _)); exact BK436.out)) : gb453 ≠ gb436)); have n17_ := aM ((by rw [hg]; exact Nat.ne_of_lt (blk_lt (g := gb438) (o := .cells #[.int .i64 ((rd_T42 l1 x37_1).f0), .int .i64 ((rd_T42 l1 x37_1).f1), .int .i64 ((rd_T42 l1 x37_1).f2), .slice A437_3 ((rd_T42 l1 x37_1).f3).length c437_3] 42 (0, 0)) (by (with_reducible repeat (first | refine kN ?_ _ | refine kD ?_ | refine kA ?_ _)); exact BK438.out)) : gb438 ≠ gb453)); have n18_ := aM ((by rw [hg]; exact Nat.ne_of_gt (blk_lt (g := gb438) (o := .cells #[.int .i64 ((rd_T42 l1 x37_1).f0), .int .i64 ((rd_T42 l1 x37_1).f1), .int .i64 ((rd_T42 l1 x37_1).f2), .slice A437_3 ((rd_T42 l1 x37_1).f3).length c437_3] 42 (0, 0)) (by (with_reducible repeat (first | refine kN ?_ _ | refine kD ?_ | refine kA ?_ _)); exact BK438.out)) : gb453 ≠ gb438)); have n19_ := aM ((by rw [hg]; exact Nat.ne_of_lt (blk_lt (g := gb452) (o := .cells #[.int .i64 0, .slice none 0 0] 24 (0, 0)) (by (with_reducible repeat (first | refine kN ?_ _ | refine kD ?_ | refine kA ?_ _)); exact BK452.out)) : gb452 ≠ gb453)); have n20_ := aM ((by rw [hg]; exact Nat.ne_of_gt (blk_lt (g := gb452) (o := .cells #[.int .i64 0, .slice none 0 0] 24 (0, 0)) (by (with_reducible repeat (first | refine kN ?_ _ | refine kD ?_ | refine kA ?_ _)); exact BK452.out)) : gb453 ≠ gb452)); clear HO_8; clear HO_35; clear HO_437001; clear HL437_3; clear HO443; clear HO447; clear HO450; clear BK436; clear HR437_3; clear BK438; clear BK452; clear HB; have HO_8 := n0_; have HO_35 := n1_; have HO_437001 := n2_; have HL437_3 := n3_; have HO443 := n4_; have HO447 := n5_; have HO450 := n6_; have BK436 := n7_; have HR437_3 := n8_; have BK438 := n9_; have BK452 := n10_; have HB := n11_; have BK453 := n12_; have GW453 := n13_; have GE453 := n14_; have NB436_453 := n15_; have NB453_436 := n16_; have NB438_453 := n17_; have NB453_438 := n18_; have NB452_453 := n19_; have NB453_452 := n20_; clear n0_ n1_ n2_ n3_ n4_ n5_ n6_ n7_ n8_ n9_ n10_ n11_ n12_ n13_ n14_ n15_ n16_ n17_ n18_ n19_ n20_; clear hb hbox hg; have hnb45 := NB452_436.out; have hnc45 := NB436_452.out; have hnb46 := NB452_438.out; have hnc46 := NB438_452.out; have hnb47 := NB452_453.out; have hnc47 := NB453_452.out; have hcz48_0 : w44.cell? ⟨gb452, 0, none⟩ = some (.int .i64 0) := (blk_cell BK452.out 0).trans rfl; have hcz48_1 : w44.cell? ⟨gb452, 1, none⟩ = some (.slice none 0 0) := (blk_cell BK452.out 1).trans rfl; have hfz48_0 := blk_frozen BK452.out 0; have hfz48_1 := blk_frozen BK452.out 1; obtain ⟨Ao49, co49, eo49⟩ := Kd.V_slice HO443.out; subst eo49; have hnb50 := NB453_436.out; have hnc50 := NB436_453.out; have hnb51 := NB453_438.out; have hnc51 := NB438_453.out; have hcz52_0 : w44.cell? ⟨gb453, 0, none⟩ = some (.int .i64 0) := (blk_cell BK453.out 0).trans rfl; have hcz52_1 : w44.cell? ⟨gb453, 1, none⟩ = some (.slice none 0 0) := (blk_cell BK453.out 1).trans rfl; have hfz52_0 := blk_frozen BK453.out 0; have hfz52_1 := blk_frozen BK453.out 1; obtain ⟨Ao53, co53, eo53⟩ := Kd.R_slice HO447.out; subst eo53; have hcz54_0 : w44.cell? ⟨gb438, 0, none⟩ = some (.int .i64 ((rd_T42 l1 x37_1).f0)) := (blk_cell BK438.out 0).trans rfl; have hcz54_1 : w44.cell? ⟨gb438, 1, none⟩ = some (.int .i64 ((rd_T42 l1 x37_1).f1)) := (blk_cell BK438.out 1).trans rfl; have hcz54_2 : w44.cell? ⟨gb438, 2, none⟩ = some (.int .i64 ((rd_T42 l1 x37_1).f2)) := (blk_cell BK438.out 2).trans rfl; have hcz54_3 : w44.cell? ⟨gb438, 3, none⟩ = some (.slice A437_3 ((rd_T42 l1 x37_1).f3).length c437_3) := (blk_cell BK438.out 3).trans rfl; have hfz54_0 := blk_frozen BK438.out 0; have hfz54_1 := blk_frozen BK438.out 1; have hfz54_2 := blk_frozen BK438.out 2; have hfz54_3 := blk_frozen BK438.out 3))
            (try simp only [Act.put, List.setIfInBounds_toArray, List.set_cons_zero, List.set_cons_succ])
            go_cut [8] (fun v8 wc => ∃ (kq : Nat) (x8_30 : List (S31)), Aside0 (squelchlaw21_PoolSent.j1 kq true x8_30 l1 (l1.length : Int) x37_1 ((rd_T42 l1 x37_1).f0) ((rd_T42 l1 x37_1).f1) ((rd_T42 l1 x37_1).f2) ((rd_T42 l1 x37_1).f3) t440 t441 t444 t445 = some r) ∧ Aside0 (kq ≤ k1) ∧ Aside0 (Kd.N k31 31 wc w.heap.size (fun k_ => (P1_ k_ ∨ w.heap.size ≤ k_) ∧ some k_ ≠ ((.slice Ao53 t445.length co53) : Value).ownBlock ∧ k_ ≠ gb436 ∧ k_ ≠ gb438 ∧ k_ ≠ gb452 ∧ k_ ≠ gb453) v8 x8_30) ∧ Aside0 (Kd.V k42 42 wc w.heap.size (fun k_ => (P1_ k_ ∨ w.heap.size ≤ k_) ∧ some k_ ≠ (v8 : Value).ownBlock ∧ some k_ ≠ ((.slice Ao53 t445.length co53) : Value).ownBlock ∧ k_ ≠ gb436 ∧ k_ ≠ gb438 ∧ k_ ≠ gb452 ∧ k_ ≠ gb453) (.slice (some ad437) l1.length c1) l1) ∧ Aside0 (Kd.V k31 31 wc w.heap.size (fun k_ => (P1_ k_ ∨ w.heap.size ≤ k_) ∧ some k_ ≠ (v8 : Value).ownBlock ∧ some k_ ≠ ((.slice Ao53 t445.length co53) : Value).ownBlock ∧ k_ ≠ gb436 ∧ k_ ≠ gb438 ∧ k_ ≠ gb452 ∧ k_ ≠ gb453) (.slice Ao38 x437001_1.length co38) x437001_1) ∧ Aside0 (Kd.V k31 31 wc w.heap.size (fun k_ => (P1_ k_ ∨ w.heap.size ≤ k_) ∧ some k_ ≠ (v8 : Value).ownBlock ∧ some k_ ≠ ((.slice Ao53 t445.length co53) : Value).ownBlock ∧ k_ ≠ gb436 ∧ k_ ≠ gb438 ∧ k_ ≠ gb452 ∧ k_ ≠ gb453) (.slice Ao49 t441.length co49) t441) ∧ Aside0 (Kd.R (Kd.int .u8) 5 wc w.heap.size (fun k_ => (w.heap.size ≤ k_)) (.slice Ao53 t445.length co53) t445) ∧ Aside0 (wc.heap[gb436]? = some (.cells #[.int .i64 x437000_1, (.slice Ao38 x437001_1.length co38)] 24 (0, 0))) ∧ Aside0 (wc.heap[gb438]? = some (.cells #[.int .i64 ((rd_T42 l1 x37_1).f0), .int .i64 ((rd_T42 l1 x37_1).f1), .int .i64 ((rd_T42 l1 x37_1).f2), (.slice A437_3 ((rd_T42 l1 x37_1).f3).length c437_3)] 42 (0, 0))) ∧ Aside0 (wc.heap[gb452]? = some (.cells #[.int .i64 t440, (.slice Ao49 t441.length co49)] 24 (0, 0))) ∧ Aside0 (wc.heap[gb453]? = some (.cells #[.int .i64 t444, (.slice Ao53 t445.length co53)] 31 (0, 0))) ∧ Aside0 (Below w.heap.size w wc))
            case first =>
             have H := HC31.out
             clear HC31
             by_cases c55 : ((rd_T42 l1 x37_1).f0) = 0
             ·rw [if_pos c55] at H
              have c55b0 : (((rd_T42 l1 x37_1).f0) == 0) = true := beq_iff_eq.mpr c55
              have c55b1 : (((rd_T42 l1 x37_1).f0) != 0) = false := bne_eq_false_iff_eq.mpr c55
              clear c55
              (first | rw [c55b0] | (simp only [i64_w, i32_w]; rw [c55b0]) | skip)
              by_cases c56 : (t448.length : Int) = 1
              ·rw [if_pos c56] at H
               have c56b0 : ((t448.length : Int) == 1) = true := beq_iff_eq.mpr c56
               have c56b1 : ((t448.length : Int) != 1) = false := bne_eq_false_iff_eq.mpr c56
               clear c56
               by_cases c57 : 0 < (t448.length : Int)
               ·rw [if_pos c57] at H
                have c57b0 : decide (0 < (t448.length : Int)) = true := decide_eq_true c57
                have c57b1 : decide (0 < t448.length) = true := decide_eq_true (by omega)
                clear c57
                by_cases c58 : (rd t448 0) < 0
                ·rw [if_pos c58] at H
                 have c58b0 : decide ((rd t448 0) < 0) = true := decide_eq_true c58
                 clear c58
                 obtain rfl := Option.some.inj H
                 exact absurd HR_.out (by simp)
                ·rw [if_neg c58] at H
                 have c58b0 : decide ((rd t448 0) < 0) = false := decide_eq_false c58
                 clear c58
                 by_cases c59 : (rd t448 0) > (((rd_T42 l1 x37_1).f3).length : Int)
                 ·rw [if_pos c59] at H
                  have c59b0 : decide ((((rd_T42 l1 x37_1).f3).length : Int) < (rd t448 0)) = true := decide_eq_true c59
                  clear c59
                  obtain rfl := Option.some.inj H
                  exact absurd HR_.out (by simp)
                 ·rw [if_neg c59] at H
                  have c59b0 : decide ((((rd_T42 l1 x37_1).f3).length : Int) < (rd t448 0)) = false := decide_eq_false c59
                  clear c59
                  by_cases c60 : (t441.length : Int) = (wrap64 ((x437001_1.length : Int) + (rd t448 0)))
                  ·rw [if_pos c60] at H
                   have c60b0 : ((t441.length : Int) == (wrap64 ((x437001_1.length : Int) + (rd t448 0)))) = true := beq_iff_eq.mpr c60
                   have c60b1 : ((t441.length : Int) != (wrap64 ((x437001_1.length : Int) + (rd t448 0)))) = false := bne_eq_false_iff_eq.mpr c60
                   clear c60
                   by_cases c61 : 0 ≤ (rd t448 0)
                   ·rw [if_pos c61] at H
                    have c61b0 := eq_true c61
                    have c61b1 : decide (0 ≤ (rd t448 0)) = true := decide_eq_true c61
                    clear c61
                    by_cases c62 : (rd t448 0) ≤ (((rd_T42 l1 x37_1).f3).length : Int)
                    ·rw [if_pos c62] at H
                     have c62b0 := eq_true c62
                     have c62b1 : decide ((rd t448 0) ≤ (((rd_T42 l1 x37_1).f3).length : Int)) = true := decide_eq_true c62
                     clear c62
                     obtain ⟨y458, hy458⟩ : ∃ y_ : List (S31), y_ = (((rd_T42 l1 x37_1).f3).take ((rd t448 0) : Int).toNat) := ⟨_, rfl⟩
                     replace H : (if x8_1.length + y458.length < 4398046511104 then (squelchlaw21_PoolSent.j1 k1 true (x8_1 ++ y458) l1 (l1.length : Int) x37_1 ((rd_T42 l1 x37_1).f0) ((rd_T42 l1 x37_1).f1) ((rd_T42 l1 x37_1).f2) ((rd_T42 l1 x37_1).f3) t440 t441 t444 t445) else (none)) = some r := by first | (rw [hy458]; with_reducible exact H) | (have H2_ := (Option.bind_some _ _).symm.trans H; rw [hy458]; with_reducible exact H2_) | (have H2_ := (Option.bind_some _ _).symm.trans H; with_reducible exact H2_) | with_reducible exact H | (rw [hy458]; exact H) | exact H
                     have Ny458 := aM hy458
                     clear hy458
                     by_cases c63 : x8_1.length + y458.length < 4398046511104
                     ·rw [if_pos c63] at H
                      have LMc63 := aM c63
                      clear c63
                      obtain ⟨y463, hy463⟩ : ∃ y_ : List (S31), y_ = (x8_1 ++ y458) := ⟨_, rfl⟩
                      replace H : (squelchlaw21_PoolSent.j1 k1 true y463 l1 (l1.length : Int) x37_1 ((rd_T42 l1 x37_1).f0) ((rd_T42 l1 x37_1).f1) ((rd_T42 l1 x37_1).f2) ((rd_T42 l1 x37_1).f3) t440 t441 t444 t445) = some r := by first | (rw [hy463]; with_reducible exact H) | (have H2_ := (Option.bind_some _ _).symm.trans H; rw [hy463]; with_reducible exact H2_) | (have H2_ := (Option.bind_some _ _).symm.trans H; with_reducible exact H2_) | with_reducible exact H | (rw [hy463]; exact H) | exact H
                      have Ny463 := aM hy463
                      clear hy463
                      have H' := aM H
                      clear H
                      try go_wp2
                      have n0_ : Aside0 (Kd.N k31 31 ((((w44.setCell ⟨gb452, 0, none⟩ (.int .i64 t440)).setCell ⟨gb452, 1, none⟩ (.slice Ao49 t441.length co49)).setCell ⟨gb453, 0, none⟩ (.int .i64 t444)).setCell ⟨gb453, 1, none⟩ (.slice Ao53 t445.length co53)) w.heap.size (fun k_ => (P1_ k_ ∨ w.heap.size ≤ k_) ∧ some k_ ≠ (.slice Ao53 t445.length co53 : Value).ownBlock ∧ some k_ ≠ (v449 : Value).ownBlock ∧ k_ ≠ gb436 ∧ k_ ≠ gb438 ∧ k_ ≠ gb452 ∧ k_ ≠ gb453) u8 x8_1) := ⟨by (with_reducible repeat (first | apply Kd.N_alloc | apply Kd.N_drewN | apply Kd.N_drew)); exact Kd.N_mono (Kd.N_far (p := ⟨gb453, 1, none⟩) (Kd.N_far (p := ⟨gb453, 0, none⟩) (Kd.N_far (p := ⟨gb452, 1, none⟩) (Kd.N_far (p := ⟨gb452, 0, none⟩) (Kd.N_mono (Kd.N_mono HO_8.out (fun k_ hk => (⟨hk, hk.1.2⟩ : _ ∧ k_ ≠ gb452))) (fun k_ hk => (⟨hk, hk.1.2⟩ : _ ∧ k_ ≠ gb453))) (fun _ hk => hk.1.2) (.int .i64 t440)) (fun _ hk => hk.1.2) (.slice Ao49 t441.length co49)) (fun _ hk => hk.2) (.int .i64 t444)) (fun _ hk => hk.2) (.slice Ao53 t445.length co53)) (fun _ hk => ⟨hk.1.1.1.1.1.1.1, ⟨hk.1.1.1.1.1.2, ⟨hk.1.1.1.1.2, ⟨hk.1.1.1.1.1.1.2.1, ⟨hk.1.1.1.1.1.1.2.2, ⟨hk.1.1.1.2, hk.1.1.2⟩⟩⟩⟩⟩⟩)⟩
                      have n1_ : Aside0 (Kd.V k42 42 ((((w44.setCell ⟨gb452, 0, none⟩ (.int .i64 t440)).setCell ⟨gb452, 1, none⟩ (.slice Ao49 t441.length co49)).setCell ⟨gb453, 0, none⟩ (.int .i64 t444)).setCell ⟨gb453, 1, none⟩ (.slice Ao53 t445.length co53)) w.heap.size (fun k_ => (P1_ k_ ∨ w.heap.size ≤ k_) ∧ some k_ ≠ (u8 : Value).ownBlock ∧ some k_ ≠ (.slice Ao53 t445.length co53 : Value).ownBlock ∧ some k_ ≠ (v449 : Value).ownBlock ∧ k_ ≠ gb436 ∧ k_ ≠ gb438 ∧ k_ ≠ gb452 ∧ k_ ≠ gb453) (.slice (some ad437) l1.length c1) l1) := ⟨by (with_reducible repeat (first | apply Kd.V_alloc | apply Kd.V_drewN | apply Kd.V_drew)); exact Kd.V_mono (Kd.V_far (p := ⟨gb453, 1, none⟩) (Kd.V_far (p := ⟨gb453, 0, none⟩) (Kd.V_far (p := ⟨gb452, 1, none⟩) (Kd.V_far (p := ⟨gb452, 0, none⟩) (Kd.V_mono (Kd.V_mono HO_35.out (fun k_ hk => (⟨hk, hk.1.2⟩ : _ ∧ k_ ≠ gb452))) (fun k_ hk => (⟨hk, hk.1.2⟩ : _ ∧ k_ ≠ gb453))) (fun _ hk => hk.1.2) (.int .i64 t440)) (fun _ hk => hk.1.2) (.slice Ao49 t441.length co49)) (fun _ hk => hk.2) (.int .i64 t444)) (fun _ hk => hk.2) (.slice Ao53 t445.length co53)) (fun _ hk => ⟨hk.1.1.1.1.1.1.1, ⟨hk.1.1.1.1.1.1.2.1, ⟨hk.1.1.1.1.1.2, ⟨hk.1.1.1.1.2, ⟨hk.1.1.1.1.1.1.2.2.1, ⟨hk.1.1.1.1.1.1.2.2.2, ⟨hk.1.1.1.2, hk.1.1.2⟩⟩⟩⟩⟩⟩⟩)⟩
                      have n2_ : Aside0 (Kd.V k31 31 ((((w44.setCell ⟨gb452, 0, none⟩ (.int .i64 t440)).setCell ⟨gb452, 1, none⟩ (.slice Ao49 t441.length co49)).setCell ⟨gb453, 0, none⟩ (.int .i64 t444)).setCell ⟨gb453, 1, none⟩ (.slice Ao53 t445.length co53)) w.heap.size (fun k_ => (P1_ k_ ∨ w.heap.size ≤ k_) ∧ some k_ ≠ (u8 : Value).ownBlock ∧ some k_ ≠ (.slice Ao53 t445.length co53 : Value).ownBlock ∧ some k_ ≠ (v449 : Value).ownBlock ∧ k_ ≠ gb436 ∧ k_ ≠ gb438 ∧ k_ ≠ gb452 ∧ k_ ≠ gb453) (.slice Ao38 x437001_1.length co38) x437001_1) := ⟨by (with_reducible repeat (first | apply Kd.V_alloc | apply Kd.V_drewN | apply Kd.V_drew)); exact Kd.V_mono (Kd.V_far (p := ⟨gb453, 1, none⟩) (Kd.V_far (p := ⟨gb453, 0, none⟩) (Kd.V_far (p := ⟨gb452, 1, none⟩) (Kd.V_far (p := ⟨gb452, 0, none⟩) (Kd.V_mono (Kd.V_mono HO_437001.out (fun k_ hk => (⟨hk, hk.1.2⟩ : _ ∧ k_ ≠ gb452))) (fun k_ hk => (⟨hk, hk.1.2⟩ : _ ∧ k_ ≠ gb453))) (fun _ hk => hk.1.2) (.int .i64 t440)) (fun _ hk => hk.1.2) (.slice Ao49 t441.length co49)) (fun _ hk => hk.2) (.int .i64 t444)) (fun _ hk => hk.2) (.slice Ao53 t445.length co53)) (fun _ hk => ⟨hk.1.1.1.1.1.1.1, ⟨hk.1.1.1.1.1.1.2.1, ⟨hk.1.1.1.1.1.2, ⟨hk.1.1.1.1.2, ⟨hk.1.1.1.1.1.1.2.2.1, ⟨hk.1.1.1.1.1.1.2.2.2, ⟨hk.1.1.1.2, hk.1.1.2⟩⟩⟩⟩⟩⟩⟩)⟩
                      have n3_ : Aside0 (Kd.V k31 31 ((((w44.setCell ⟨gb452, 0, none⟩ (.int .i64 t440)).setCell ⟨gb452, 1, none⟩ (.slice Ao49 t441.length co49)).setCell ⟨gb453, 0, none⟩ (.int .i64 t444)).setCell ⟨gb453, 1, none⟩ (.slice Ao53 t445.length co53)) w.heap.size (fun k_ => (P1_ k_ ∨ w.heap.size ≤ k_) ∧ some k_ ≠ (u8 : Value).ownBlock ∧ some k_ ≠ (.slice Ao53 t445.length co53 : Value).ownBlock ∧ some k_ ≠ (v449 : Value).ownBlock ∧ k_ ≠ gb436 ∧ k_ ≠ gb438 ∧ k_ ≠ gb452 ∧ k_ ≠ gb453) (.slice A437_3 ((rd_T42 l1 x37_1).f3).length c437_3) ((rd_T42 l1 x37_1).f3)) := ⟨by (with_reducible repeat (first | apply Kd.V_alloc | apply Kd.V_drewN | apply Kd.V_drew)); exact Kd.V_mono (Kd.V_far (p := ⟨gb453, 1, none⟩) (Kd.V_far (p := ⟨gb453, 0, none⟩) (Kd.V_far (p := ⟨gb452, 1, none⟩) (Kd.V_far (p := ⟨gb452, 0, none⟩) (Kd.V_mono (Kd.V_mono HL437_3.out (fun k_ hk => (⟨hk, hk.1.2⟩ : _ ∧ k_ ≠ gb452))) (fun k_ hk => (⟨hk, hk.1.2⟩ : _ ∧ k_ ≠ gb453))) (fun _ hk => hk.1.2) (.int .i64 t440)) (fun _ hk => hk.1.2) (.slice Ao49 t441.length co49)) (fun _ hk => hk.2) (.int .i64 t444)) (fun _ hk => hk.2) (.slice Ao53 t445.length co53)) (fun _ hk => ⟨hk.1.1.1.1.1.1.1, ⟨hk.1.1.1.1.1.1.2.1, ⟨hk.1.1.1.1.1.2, ⟨hk.1.1.1.1.2, ⟨hk.1.1.1.1.1.1.2.2.1, ⟨hk.1.1.1.1.1.1.2.2.2, ⟨hk.1.1.1.2, hk.1.1.2⟩⟩⟩⟩⟩⟩⟩)⟩
                      have n4_ : Aside0 (Kd.V k31 31 ((((w44.setCell ⟨gb452, 0, none⟩ (.int .i64 t440)).setCell ⟨gb452, 1, none⟩ (.slice Ao49 t441.length co49)).setCell ⟨gb453, 0, none⟩ (.int .i64 t444)).setCell ⟨gb453, 1, none⟩ (.slice Ao53 t445.length co53)) w.heap.size (fun k_ => (P1_ k_ ∨ w.heap.size ≤ k_) ∧ some k_ ≠ (u8 : Value).ownBlock ∧ some k_ ≠ (.slice Ao53 t445.length co53 : Value).ownBlock ∧ some k_ ≠ (v449 : Value).ownBlock ∧ k_ ≠ gb436 ∧ k_ ≠ gb438 ∧ k_ ≠ gb452 ∧ k_ ≠ gb453) (.slice Ao49 t441.length co49) t441) := ⟨by (with_reducible repeat (first | apply Kd.V_alloc | apply Kd.V_drewN | apply Kd.V_drew)); exact Kd.V_mono (Kd.V_far (p := ⟨gb453, 1, none⟩) (Kd.V_far (p := ⟨gb453, 0, none⟩) (Kd.V_far (p := ⟨gb452, 1, none⟩) (Kd.V_far (p := ⟨gb452, 0, none⟩) (Kd.V_mono (Kd.V_mono HO443.out (fun k_ hk => (⟨hk, hk.1.2⟩ : _ ∧ k_ ≠ gb452))) (fun k_ hk => (⟨hk, hk.1.2⟩ : _ ∧ k_ ≠ gb453))) (fun _ hk => hk.1.2) (.int .i64 t440)) (fun _ hk => hk.1.2) (.slice Ao49 t441.length co49)) (fun _ hk => hk.2) (.int .i64 t444)) (fun _ hk => hk.2) (.slice Ao53 t445.length co53)) (fun _ hk => ⟨hk.1.1.1.1.1, ⟨hk.1.1.1.1.2.2.2.1, ⟨hk.1.1.1.1.2.1, ⟨hk.1.1.1.1.2.2.1, ⟨hk.1.1.1.1.2.2.2.2.1, ⟨hk.1.1.1.1.2.2.2.2.2, ⟨hk.1.1.1.2, hk.1.1.2⟩⟩⟩⟩⟩⟩⟩)⟩
                      have n5_ : Aside0 (Kd.R (Kd.int .u8) 5 ((((w44.setCell ⟨gb452, 0, none⟩ (.int .i64 t440)).setCell ⟨gb452, 1, none⟩ (.slice Ao49 t441.length co49)).setCell ⟨gb453, 0, none⟩ (.int .i64 t444)).setCell ⟨gb453, 1, none⟩ (.slice Ao53 t445.length co53)) w.heap.size (fun k_ => (w.heap.size ≤ k_)) (.slice Ao53 t445.length co53) t445) := ⟨by (with_reducible repeat (first | apply Kd.R_alloc | apply Kd.R_drewN | apply Kd.R_drew)); exact Kd.R_mono (Kd.R_far (p := ⟨gb453, 1, none⟩) (Kd.R_far (p := ⟨gb453, 0, none⟩) (Kd.R_far (p := ⟨gb452, 1, none⟩) (Kd.R_far (p := ⟨gb452, 0, none⟩) (Kd.R_types (Kd.R_types HO447.out BK452.out (by decide)) BK453.out (by decide)) (fun _ hk => hk.1.2) (.int .i64 t440)) (fun _ hk => hk.1.2) (.slice Ao49 t441.length co49)) (fun _ hk => hk.2) (.int .i64 t444)) (fun _ hk => hk.2) (.slice Ao53 t445.length co53)) (fun _ hk => hk.1.1.1)⟩
                      have n6_ : Aside0 (Kd.R (Kd.int .i64) 3 ((((w44.setCell ⟨gb452, 0, none⟩ (.int .i64 t440)).setCell ⟨gb452, 1, none⟩ (.slice Ao49 t441.length co49)).setCell ⟨gb453, 0, none⟩ (.int .i64 t444)).setCell ⟨gb453, 1, none⟩ (.slice Ao53 t445.length co53)) w.heap.size (fun k_ => (w.heap.size ≤ k_)) v449 t448) := ⟨by (with_reducible repeat (first | apply Kd.R_alloc | apply Kd.R_drewN | apply Kd.R_drew)); exact Kd.R_mono (Kd.R_far (p := ⟨gb453, 1, none⟩) (Kd.R_far (p := ⟨gb453, 0, none⟩) (Kd.R_far (p := ⟨gb452, 1, none⟩) (Kd.R_far (p := ⟨gb452, 0, none⟩) (Kd.R_types (Kd.R_types HO450.out BK452.out (by decide)) BK453.out (by decide)) (fun _ hk => hk.1.2) (.int .i64 t440)) (fun _ hk => hk.1.2) (.slice Ao49 t441.length co49)) (fun _ hk => hk.2) (.int .i64 t444)) (fun _ hk => hk.2) (.slice Ao53 t445.length co53)) (fun _ hk => hk.1.1.1)⟩
                      have n7_ : Aside0 (((((w44.setCell ⟨gb452, 0, none⟩ (.int .i64 t440)).setCell ⟨gb452, 1, none⟩ (.slice Ao49 t441.length co49)).setCell ⟨gb453, 0, none⟩ (.int .i64 t444)).setCell ⟨gb453, 1, none⟩ (.slice Ao53 t445.length co53)).heap[gb436]? = some (.cells #[.int .i64 x437000_1, .slice Ao38 x437001_1.length co38] 24 (0, 0))) := ⟨by (with_reducible repeat (first | refine kN ?_ _ | refine kD ?_ | refine kA ?_ _)); refine blk_far ?_ NB436_453.out _; (with_reducible repeat (first | refine kN ?_ _ | refine kD ?_ | refine kA ?_ _)); refine blk_far ?_ NB436_453.out _; (with_reducible repeat (first | refine kN ?_ _ | refine kD ?_ | refine kA ?_ _)); refine blk_far ?_ NB436_452.out _; (with_reducible repeat (first | refine kN ?_ _ | refine kD ?_ | refine kA ?_ _)); refine blk_far ?_ NB436_452.out _; (with_reducible repeat (first | refine kN ?_ _ | refine kD ?_ | refine kA ?_ _)); exact BK436.out⟩
                      have n8_ : Aside0 (((((w44.setCell ⟨gb452, 0, none⟩ (.int .i64 t440)).setCell ⟨gb452, 1, none⟩ (.slice Ao49 t441.length co49)).setCell ⟨gb453, 0, none⟩ (.int .i64 t444)).setCell ⟨gb453, 1, none⟩ (.slice Ao53 t445.length co53)).heap[gb438]? = some (.cells #[.int .i64 ((rd_T42 l1 x37_1).f0), .int .i64 ((rd_T42 l1 x37_1).f1), .int .i64 ((rd_T42 l1 x37_1).f2), .slice A437_3 ((rd_T42 l1 x37_1).f3).length c437_3] 42 (0, 0))) := ⟨by (with_reducible repeat (first | refine kN ?_ _ | refine kD ?_ | refine kA ?_ _)); refine blk_far ?_ NB438_453.out _; (with_reducible repeat (first | refine kN ?_ _ | refine kD ?_ | refine kA ?_ _)); refine blk_far ?_ NB438_453.out _; (with_reducible repeat (first | refine kN ?_ _ | refine kD ?_ | refine kA ?_ _)); refine blk_far ?_ NB438_452.out _; (with_reducible repeat (first | refine kN ?_ _ | refine kD ?_ | refine kA ?_ _)); refine blk_far ?_ NB438_452.out _; (with_reducible repeat (first | refine kN ?_ _ | refine kD ?_ | refine kA ?_ _)); exact BK438.out⟩
                      have n9_ : Aside0 (((((w44.setCell ⟨gb452, 0, none⟩ (.int .i64 t440)).setCell ⟨gb452, 1, none⟩ (.slice Ao49 t441.length co49)).setCell ⟨gb453, 0, none⟩ (.int .i64 t444)).setCell ⟨gb453, 1, none⟩ (.slice Ao53 t445.length co53)).heap[gb452]? = some (.cells #[.int .i64 t440, .slice Ao49 t441.length co49] 24 (0, 0))) := ⟨by (with_reducible repeat (first | refine kN ?_ _ | refine kD ?_ | refine kA ?_ _)); refine blk_far ?_ NB452_453.out _; (with_reducible repeat (first | refine kN ?_ _ | refine kD ?_ | refine kA ?_ _)); refine blk_far ?_ NB452_453.out _; (with_reducible repeat (first | refine kN ?_ _ | refine kD ?_ | refine kA ?_ _)); refine blk_put (cs := #[.int .i64 t440, .slice none 0 0]) ?_ 1 _ rfl; (with_reducible repeat (first | refine kN ?_ _ | refine kD ?_ | refine kA ?_ _)); refine blk_put (cs := #[.int .i64 0, .slice none 0 0]) ?_ 0 _ rfl; (with_reducible repeat (first | refine kN ?_ _ | refine kD ?_ | refine kA ?_ _)); exact BK452.out⟩
                      have n10_ : Aside0 (((((w44.setCell ⟨gb452, 0, none⟩ (.int .i64 t440)).setCell ⟨gb452, 1, none⟩ (.slice Ao49 t441.length co49)).setCell ⟨gb453, 0, none⟩ (.int .i64 t444)).setCell ⟨gb453, 1, none⟩ (.slice Ao53 t445.length co53)).heap[gb453]? = some (.cells #[.int .i64 t444, .slice Ao53 t445.length co53] 31 (0, 0))) := ⟨by (with_reducible repeat (first | refine kN ?_ _ | refine kD ?_ | refine kA ?_ _)); refine blk_put (cs := #[.int .i64 t444, .slice none 0 0]) ?_ 1 _ rfl; (with_reducible repeat (first | refine kN ?_ _ | refine kD ?_ | refine kA ?_ _)); refine blk_put (cs := #[.int .i64 0, .slice none 0 0]) ?_ 0 _ rfl; (with_reducible repeat (first | refine kN ?_ _ | refine kD ?_ | refine kA ?_ _)); refine blk_far ?_ NB453_452.out _; (with_reducible repeat (first | refine kN ?_ _ | refine kD ?_ | refine kA ?_ _)); refine blk_far ?_ NB453_452.out _; (with_reducible repeat (first | refine kN ?_ _ | refine kD ?_ | refine kA ?_ _)); exact BK453.out⟩
                      have n11_ : Aside0 (Below w.heap.size w ((((w44.setCell ⟨gb452, 0, none⟩ (.int .i64 t440)).setCell ⟨gb452, 1, none⟩ (.slice Ao49 t441.length co49)).setCell ⟨gb453, 0, none⟩ (.int .i64 t444)).setCell ⟨gb453, 1, none⟩ (.slice Ao53 t445.length co53))) := ⟨by repeat (first | (with_reducible first | exact HB.out | apply bA | apply bN | apply bD | refine bS ?_ GE436.out | refine bS ?_ GE438.out | refine bS ?_ GE452.out | refine bS ?_ GE453.out) | exact HB.out)⟩
                      (try clear HO_8)
                      (try clear HO_35)
                      (try clear HO_437001)
                      (try clear HL437_3)
                      (try clear HO443)
                      (try clear HO447)
                      (try clear HO450)
                      (try clear BK436)
                      (try clear BK438)
                      (try clear BK452)
                      (try clear BK453)
                      (try clear HB)
                      generalize ((((w44.setCell ⟨gb452, 0, none⟩ (.int .i64 t440)).setCell ⟨gb452, 1, none⟩ (.slice Ao49 t441.length co49)).setCell ⟨gb453, 0, none⟩ (.int .i64 t444)).setCell ⟨gb453, 1, none⟩ (.slice Ao53 t445.length co53)) = w64 at n0_ n1_ n2_ n3_ n4_ n5_ n6_ n7_ n8_ n9_ n10_ n11_ ⊢
                      have HO_8 := n0_
                      have HO_35 := n1_
                      have HO_437001 := n2_
                      have HL437_3 := n3_
                      have HO443 := n4_
                      have HO447 := n5_
                      have HO450 := n6_
                      have BK436 := n7_
                      have BK438 := n8_
                      have BK452 := n9_
                      have BK453 := n10_
                      have HB := n11_
                      clear n0_ n1_ n2_ n3_ n4_ n5_ n6_ n7_ n8_ n9_ n10_ n11_
                      have n0_ := aM (Kd.N_drew HO_8.out)
                      have n1_ := aM (Kd.V_drew HO_35.out)
                      have n2_ := aM (Kd.V_drew HO_437001.out)
                      have n3_ := aM (Kd.V_drew HL437_3.out)
                      have n4_ := aM (Kd.V_drew HO443.out)
                      have n5_ := aM (Kd.R_drew HO447.out)
                      have n6_ := aM (Kd.R_drew HO450.out)
                      have n7_ := aM (kD BK436.out)
                      have n8_ := aM (kD BK438.out)
                      have n9_ := aM (kD BK452.out)
                      have n10_ := aM (kD BK453.out)
                      have n11_ := aM (bD HB.out)
                      clear HO_8
                      clear HO_35
                      clear HO_437001
                      clear HL437_3
                      clear HO443
                      clear HO447
                      clear HO450
                      clear BK436
                      clear BK438
                      clear BK452
                      clear BK453
                      clear HB
                      have HO_8 := n0_
                      have HO_35 := n1_
                      have HO_437001 := n2_
                      have HL437_3 := n3_
                      have HO443 := n4_
                      have HO447 := n5_
                      have HO450 := n6_
                      have BK436 := n7_
                      have BK438 := n8_
                      have BK452 := n9_
                      have BK453 := n10_
                      have HB := n11_
                      clear n0_ n1_ n2_ n3_ n4_ n5_ n6_ n7_ n8_ n9_ n10_ n11_
                      obtain ⟨Ao66, co66, eo66⟩ := Kd.R_slice HO450.out
                      (first | subst eo66 | (injection eo66 with f1_ f2_ f3_; have f4_ := f1_.symm; have f5_ := f3_.symm; clear f1_ f2_ f3_; subst f4_; subst f5_))
                      have p454 : 0 ≤ (0 : Int) := (by omega)
                      have q454 : 0 < (t448.length : Int) := of_decide_eq_true (by first | (with_reducible assumption) | assumption)
                      obtain ⟨ad454, e454, hx454_0⟩ := Kd.at_int (Kd.R_reads' HO450.out).2.2 0 p454 q454
                      cases e454
                      have qi454 : (0 < t448.length) = True := eq_true (by omega)
                      (try rw [show ((0 : Int)).toNat = 0 from rfl] at hx454_0)
                      (try rw [Addr.add_zero'] at hx454_0)
                      replace p454 := eq_true p454
                      replace q454 := eq_true q454
                      have p455 : 0 ≤ (0 : Int) := (by omega)
                      have q455 : 0 < (t448.length : Int) := of_decide_eq_true (by first | (with_reducible assumption) | assumption)
                      obtain ⟨ad455, e455, hx455_0⟩ := Kd.at_int (Kd.R_reads' HO450.out).2.2 0 p455 q455
                      obtain rfl : ad454 = ad455 := (by injection e455)
                      have qi455 : (0 < t448.length) = True := eq_true (by omega)
                      (try rw [show ((0 : Int)).toNat = 0 from rfl] at hx455_0)
                      (try rw [Addr.add_zero'] at hx455_0)
                      replace p455 := eq_true p455
                      replace q455 := eq_true q455
                      have p456 : 0 ≤ (0 : Int) := (by omega)
                      have q456 : 0 < (t448.length : Int) := of_decide_eq_true (by first | (with_reducible assumption) | assumption)
                      obtain ⟨ad456, e456, hx456_0⟩ := Kd.at_int (Kd.R_reads' HO450.out).2.2 0 p456 q456
                      obtain rfl : ad454 = ad456 := (by injection e456)
                      have qi456 : (0 < t448.length) = True := eq_true (by omega)
                      (try rw [show ((0 : Int)).toNat = 0 from rfl] at hx456_0)
                      (try rw [Addr.add_zero'] at hx456_0)
                      replace p456 := eq_true p456
                      replace q456 := eq_true q456
                      refine start_ (n := 31) (S := fun w' => w'.cell? ⟨gb438, 0, none⟩ = some (.int .i64 ((rd_T42 l1 x37_1).f0)) ∧ w'.cell? ⟨gb438, 1, none⟩ = some (.int .i64 ((rd_T42 l1 x37_1).f1)) ∧ w'.cell? ⟨gb438, 2, none⟩ = some (.int .i64 ((rd_T42 l1 x37_1).f2)) ∧ w'.cell? ⟨gb438, 3, none⟩ = some (.slice A437_3 ((rd_T42 l1 x37_1).f3).length c437_3) ∧ w'.cell? ⟨gb452, 0, none⟩ = some (.int .i64 t440) ∧ w'.cell? ⟨gb452, 1, none⟩ = some (.slice Ao49 t441.length co49) ∧ w'.cell? ⟨gb436, 0, none⟩ = some (.int .i64 x437000_1) ∧ w'.cell? ⟨gb436, 1, none⟩ = some (.slice Ao38 x437001_1.length co38) ∧ w'.cell? ad454 = some (.int .i64 (rd t448 0)) ∧ w'.cell? ad454 = some (.int .i64 (rd t448 0)) ∧ w'.cell? ad454 = some (.int .i64 (rd t448 0))) (ds := []) #[false, false, false, false, false, false, false, false, false, false, false, false, false, false, false, false, false, false, false, false, false, false, false, false, false, false, false, false, false, false, false] (by kernel_rfl) rfl rfl ⟨(blk_cell BK438.out 0).trans rfl, (blk_cell BK438.out 1).trans rfl, (blk_cell BK438.out 2).trans rfl, (blk_cell BK438.out 3).trans rfl, (blk_cell BK452.out 0).trans rfl, (blk_cell BK452.out 1).trans rfl, (blk_cell BK436.out 0).trans rfl, (blk_cell BK436.out 1).trans rfl, hx454_0, hx455_0, hx456_0⟩ (fun hHeld => ?_); refine with_tabW squelchlaw21_PoolSent.tab19 squelchlaw21_PoolSent.bits19 (fun HT_ HW_ => ?_)
                      generalize w64.drew = w65 at HO_8 HO_35 HO_437001 HL437_3 HO443 HO447 HO450 BK436 BK438 BK452 BK453 HB hx454_0 hx455_0 hx456_0 hHeld ⊢
                      refine pure_ (i := 0) (N := some 63) (v := ?_) (a' := ?_) #[true, false, false, false, false, false, false, false, false, false, false, false, false, false, false, false, false, false, false, false, false, false, false, false, false, false, false, false, false, false, false] rfl rfl (any_of HT_.out (by kernel_rfl)) (fun _ _ _ h => h) (Or.inl ⟨by rfl, ?_⟩) ?_ ?_
                      rotate_left
                      ·intro w'
                       go_simp
                       with_reducible rfl
                      rotate_left
                      ·simp only [Act.put, List.setIfInBounds_toArray, List.set_cons_zero, List.set_cons_succ, i64_w, i32_w]
                       rfl
                      refine pure_ (i := 1) (N := some 64) (v := ?_) (a' := ?_) #[true, true, false, false, false, false, false, false, false, false, false, false, false, false, false, false, false, false, false, false, false, false, false, false, false, false, false, false, false, false, false] rfl rfl (any_of HT_.out (by kernel_rfl)) (fun _ _ _ h => h) (Or.inl ⟨by rfl, ?_⟩) ?_ ?_
                      rotate_left
                      ·intro w'
                       go_simp
                       with_reducible rfl
                      rotate_left
                      ·simp only [Act.put, List.setIfInBounds_toArray, List.set_cons_zero, List.set_cons_succ, i64_w, i32_w]
                       rfl
                      refine pure_ (i := 2) (N := some 65) (v := ?_) (a' := ?_) #[true, true, true, false, false, false, false, false, false, false, false, false, false, false, false, false, false, false, false, false, false, false, false, false, false, false, false, false, false, false, false] rfl rfl (any_of HT_.out (by kernel_rfl)) (fun _ _ _ h => h) (Or.inl ⟨by rfl, ?_⟩) ?_ ?_
                      rotate_left
                      ·intro w'
                       go_simp
                       with_reducible rfl
                      rotate_left
                      ·simp only [Act.put, List.setIfInBounds_toArray, List.set_cons_zero, List.set_cons_succ, i64_w, i32_w]
                       rfl
                      refine pure_ (i := 3) (N := some 66) (v := ?_) (a' := ?_) #[true, true, true, true, false, false, false, false, false, false, false, false, false, false, false, false, false, false, false, false, false, false, false, false, false, false, false, false, false, false, false] rfl rfl (any_of HT_.out (by kernel_rfl)) (fun _ _ _ h => h) (Or.inl ⟨by rfl, ?_⟩) ?_ ?_
                      rotate_left
                      ·intro w'
                       go_simp
                       with_reducible rfl
                      rotate_left
                      ·simp only [Act.put, List.setIfInBounds_toArray, List.set_cons_zero, List.set_cons_succ, i64_w, i32_w]
                       rfl
                      refine pure_ (i := 4) (N := some 67) (v := ?_) (a' := ?_) #[true, true, true, true, true, false, false, false, false, false, false, false, false, false, false, false, false, false, false, false, false, false, false, false, false, false, false, false, false, false, false] rfl rfl (any_of HT_.out (by kernel_rfl)) (fun _ _ _ h => h) (Or.inl ⟨by rfl, ?_⟩) ?_ ?_
                      rotate_left
                      ·intro w'
                       go_simp
                       with_reducible rfl
                      rotate_left
                      ·simp only [Act.put, List.setIfInBounds_toArray, List.set_cons_zero, List.set_cons_succ, i64_w, i32_w]
                       rfl
                      refine pure_ (i := 5) (N := some 68) (v := ?_) (a' := ?_) #[true, true, true, true, true, true, false, false, false, false, false, false, false, false, false, false, false, false, false, false, false, false, false, false, false, false, false, false, false, false, false] rfl rfl (any_of HT_.out (by kernel_rfl)) (fun _ _ _ h => h) (Or.inl ⟨by rfl, ?_⟩) ?_ ?_
                      rotate_left
                      ·intro w'
                       go_simp
                       with_reducible rfl
                      rotate_left
                      ·simp only [Act.put, List.setIfInBounds_toArray, List.set_cons_zero, List.set_cons_succ, i64_w, i32_w]
                       rfl
                      refine take_ (i := 6) (N := some 69) (v := ?_) (a' := ?_) #[true, true, true, true, true, true, true, false, false, false, false, false, false, false, false, false, false, false, false, false, false, false, false, false, false, false, false, false, false, false, false] rfl rfl (take_ofW HT_.out HW_.out (by kernel_rfl)) (fun _ _ _ h => h) (Or.inl ⟨by rfl, ?_⟩) hHeld ?_ ?_
                      rotate_left
                      ·rintro w' ⟨s0, s1, s2, s3, s4, s5, s6, s7, s8, s9, s10⟩
                       go_simp
                       with_reducible rfl
                      rotate_left
                      ·simp only [Act.put, List.setIfInBounds_toArray, List.set_cons_zero, List.set_cons_succ, i64_w, i32_w]
                       rfl
                      refine pure_ (i := 7) (N := some 70) (v := ?_) (a' := ?_) #[true, true, true, true, true, true, true, true, false, false, false, false, false, false, false, false, false, false, false, false, false, false, false, false, false, false, false, false, false, false, false] rfl rfl (any_of HT_.out (by kernel_rfl)) (fun _ _ _ h => h) (Or.inl ⟨by rfl, ?_⟩) ?_ ?_
                      rotate_left
                      ·intro w'
                       go_simp
                       with_reducible rfl
                      rotate_left
                      ·simp only [Act.put, List.setIfInBounds_toArray, List.set_cons_zero, List.set_cons_succ, i64_w, i32_w]
                       rfl
                      refine pure_ (i := 8) (N := some 71) (v := ?_) (a' := ?_) #[true, true, true, true, true, true, true, true, true, false, false, false, false, false, false, false, false, false, false, false, false, false, false, false, false, false, false, false, false, false, false] rfl rfl (any_of HT_.out (by kernel_rfl)) (fun _ _ _ h => h) (Or.inl ⟨by rfl, ?_⟩) ?_ ?_
                      rotate_left
                      ·intro w'
                       go_simp
                       with_reducible rfl
                      rotate_left
                      ·simp only [Act.put, List.setIfInBounds_toArray, List.set_cons_zero, List.set_cons_succ, i64_w, i32_w]
                       rfl
                      refine pure_ (i := 9) (N := some 72) (v := ?_) (a' := ?_) #[true, true, true, true, true, true, true, true, true, true, false, false, false, false, false, false, false, false, false, false, false, false, false, false, false, false, false, false, false, false, false] rfl rfl (any_of HT_.out (by kernel_rfl)) (fun _ _ _ h => h) (Or.inl ⟨by rfl, ?_⟩) ?_ ?_
                      rotate_left
                      ·intro w'
                       go_simp
                       with_reducible rfl
                      rotate_left
                      ·simp only [Act.put, List.setIfInBounds_toArray, List.set_cons_zero, List.set_cons_succ, i64_w, i32_w]
                       rfl
                      refine pure_ (i := 10) (N := some 73) (v := ?_) (a' := ?_) #[true, true, true, true, true, true, true, true, true, true, true, false, false, false, false, false, false, false, false, false, false, false, false, false, false, false, false, false, false, false, false] rfl rfl (any_of HT_.out (by kernel_rfl)) (fun _ _ _ h => h) (Or.inl ⟨by rfl, ?_⟩) ?_ ?_
                      rotate_left
                      ·intro w'
                       go_simp
                       with_reducible rfl
                      rotate_left
                      ·simp only [Act.put, List.setIfInBounds_toArray, List.set_cons_zero, List.set_cons_succ, i64_w, i32_w]
                       rfl
                      refine pure_ (i := 11) (N := some 74) (v := ?_) (a' := ?_) #[true, true, true, true, true, true, true, true, true, true, true, true, false, false, false, false, false, false, false, false, false, false, false, false, false, false, false, false, false, false, false] rfl rfl (any_of HT_.out (by kernel_rfl)) (fun _ _ _ h => h) (Or.inl ⟨by rfl, ?_⟩) ?_ ?_
                      rotate_left
                      ·intro w'
                       go_simp
                       with_reducible rfl
                      rotate_left
                      ·simp only [Act.put, List.setIfInBounds_toArray, List.set_cons_zero, List.set_cons_succ, i64_w, i32_w]
                       rfl
                      refine pure_ (i := 13) (N := some 76) (v := ?_) (a' := ?_) #[true, true, true, true, true, true, true, true, true, true, true, true, false, true, false, false, false, false, false, false, false, false, false, false, false, false, false, false, false, false, false] rfl rfl (any_of HT_.out (by kernel_rfl)) (fun _ _ _ h => h) (Or.inl ⟨by rfl, ?_⟩) ?_ ?_
                      rotate_left
                      ·intro w'
                       go_simp
                       with_reducible rfl
                      rotate_left
                      ·simp only [Act.put, List.setIfInBounds_toArray, List.set_cons_zero, List.set_cons_succ, i64_w, i32_w]
                       rfl
                      refine take_ (i := 12) (N := some 75) (v := ?_) (a' := ?_) #[true, true, true, true, true, true, true, true, true, true, true, true, true, true, false, false, false, false, false, false, false, false, false, false, false, false, false, false, false, false, false] rfl rfl (take_ofW HT_.out HW_.out (by kernel_rfl)) (fun _ _ _ h => h) (Or.inl ⟨by rfl, ?_⟩) hHeld ?_ ?_
                      rotate_left
                      ·rintro w' ⟨s0, s1, s2, s3, s4, s5, s6, s7, s8, s9, s10⟩
                       go_simp
                       with_reducible rfl
                      rotate_left
                      ·simp only [Act.put, List.setIfInBounds_toArray, List.set_cons_zero, List.set_cons_succ, i64_w, i32_w]
                       rfl
                      refine take_ (i := 14) (N := some 77) (v := ?_) (a' := ?_) #[true, true, true, true, true, true, true, true, true, true, true, true, true, true, true, false, false, false, false, false, false, false, false, false, false, false, false, false, false, false, false] rfl rfl (take_ofW HT_.out HW_.out (by kernel_rfl)) (fun _ _ _ h => h) (Or.inl ⟨by rfl, ?_⟩) hHeld ?_ ?_
                      rotate_left
                      ·rintro w' ⟨s0, s1, s2, s3, s4, s5, s6, s7, s8, s9, s10⟩
                       go_simp
                       with_reducible rfl
                      rotate_left
                      ·simp only [Act.put, List.setIfInBounds_toArray, List.set_cons_zero, List.set_cons_succ, i64_w, i32_w]
                       rfl
                      refine pure_ (i := 15) (N := some 78) (v := ?_) (a' := ?_) #[true, true, true, true, true, true, true, true, true, true, true, true, true, true, true, true, false, false, false, false, false, false, false, false, false, false, false, false, false, false, false] rfl rfl (any_of HT_.out (by kernel_rfl)) (fun _ _ _ h => h) (Or.inl ⟨by rfl, ?_⟩) ?_ ?_
                      rotate_left
                      ·intro w'
                       go_simp
                       with_reducible rfl
                      rotate_left
                      ·simp only [Act.put, List.setIfInBounds_toArray, List.set_cons_zero, List.set_cons_succ, i64_w, i32_w]
                       rfl
                      refine pure_ (i := 16) (N := some 79) (v := ?_) (a' := ?_) #[true, true, true, true, true, true, true, true, true, true, true, true, true, true, true, true, true, false, false, false, false, false, false, false, false, false, false, false, false, false, false] rfl rfl (any_of HT_.out (by kernel_rfl)) (fun _ _ _ h => h) (Or.inl ⟨by rfl, ?_⟩) ?_ ?_
                      rotate_left
                      ·intro w'
                       go_simp
                       with_reducible rfl
                      rotate_left
                      ·simp only [Act.put, List.setIfInBounds_toArray, List.set_cons_zero, List.set_cons_succ, i64_w, i32_w]
                       rfl
                      refine pure_ (i := 17) (N := some 80) (v := ?_) (a' := ?_) #[true, true, true, true, true, true, true, true, true, true, true, true, true, true, true, true, true, true, false, false, false, false, false, false, false, false, false, false, false, false, false] rfl rfl (any_of HT_.out (by kernel_rfl)) (fun _ _ _ h => h) (Or.inl ⟨by rfl, ?_⟩) ?_ ?_
                      rotate_left
                      ·intro w'
                       go_simp
                       with_reducible rfl
                      rotate_left
                      ·simp only [Act.put, List.setIfInBounds_toArray, List.set_cons_zero, List.set_cons_succ, i64_w, i32_w]
                       rfl
                      refine pure_ (i := 18) (N := some 81) (v := ?_) (a' := ?_) #[true, true, true, true, true, true, true, true, true, true, true, true, true, true, true, true, true, true, true, false, false, false, false, false, false, false, false, false, false, false, false] rfl rfl (any_of HT_.out (by kernel_rfl)) (fun _ _ _ h => h) (Or.inl ⟨by rfl, ?_⟩) ?_ ?_
                      rotate_left
                      ·intro w'
                       go_simp
                       with_reducible rfl
                      rotate_left
                      ·simp only [Act.put, List.setIfInBounds_toArray, List.set_cons_zero, List.set_cons_succ, i64_w, i32_w]
                       rfl
                      refine pure_ (i := 19) (N := some 82) (v := ?_) (a' := ?_) #[true, true, true, true, true, true, true, true, true, true, true, true, true, true, true, true, true, true, true, true, false, false, false, false, false, false, false, false, false, false, false] rfl rfl (any_of HT_.out (by kernel_rfl)) (fun _ _ _ h => h) (Or.inl ⟨by rfl, ?_⟩) ?_ ?_
                      rotate_left
                      ·intro w'
                       go_simp
                       with_reducible rfl
                      rotate_left
                      ·simp only [Act.put, List.setIfInBounds_toArray, List.set_cons_zero, List.set_cons_succ, i64_w, i32_w]
                       rfl
                      refine pure_ (i := 22) (N := some 85) (v := ?_) (a' := ?_) #[true, true, true, true, true, true, true, true, true, true, true, true, true, true, true, true, true, true, true, true, false, false, true, false, false, false, false, false, false, false, false] rfl rfl (any_of HT_.out (by kernel_rfl)) (fun _ _ _ h => h) (Or.inl ⟨by rfl, ?_⟩) ?_ ?_
                      rotate_left
                      ·intro w'
                       go_simp
                       with_reducible rfl
                      rotate_left
                      ·simp only [Act.put, List.setIfInBounds_toArray, List.set_cons_zero, List.set_cons_succ, i64_w, i32_w]
                       rfl
                      refine pure_ (i := 25) (N := some 88) (v := ?_) (a' := ?_) #[true, true, true, true, true, true, true, true, true, true, true, true, true, true, true, true, true, true, true, true, false, false, true, false, false, true, false, false, false, false, false] rfl rfl (any_of HT_.out (by kernel_rfl)) (fun _ _ _ h => h) (Or.inl ⟨by rfl, ?_⟩) ?_ ?_
                      rotate_left
                      ·intro w'
                       go_simp
                       with_reducible rfl
                      rotate_left
                      ·simp only [Act.put, List.setIfInBounds_toArray, List.set_cons_zero, List.set_cons_succ, i64_w, i32_w]
                       rfl
                      refine pure_ (i := 26) (N := some 89) (v := ?_) (a' := ?_) #[true, true, true, true, true, true, true, true, true, true, true, true, true, true, true, true, true, true, true, true, false, false, true, false, false, true, true, false, false, false, false] rfl rfl (any_of HT_.out (by kernel_rfl)) (fun _ _ _ h => h) (Or.inl ⟨by rfl, ?_⟩) ?_ ?_
                      rotate_left
                      ·intro w'
                       go_simp
                       with_reducible rfl
                      rotate_left
                      ·simp only [Act.put, List.setIfInBounds_toArray, List.set_cons_zero, List.set_cons_succ, i64_w, i32_w]
                       rfl
                      refine take_ (i := 20) (N := some 83) (v := ?_) (a' := ?_) #[true, true, true, true, true, true, true, true, true, true, true, true, true, true, true, true, true, true, true, true, true, false, true, false, false, true, true, false, false, false, false] rfl rfl (take_ofW HT_.out HW_.out (by kernel_rfl)) (fun _ _ _ h => h) (Or.inl ⟨by rfl, ?_⟩) hHeld ?_ ?_
                      rotate_left
                      ·rintro w' ⟨s0, s1, s2, s3, s4, s5, s6, s7, s8, s9, s10⟩
                       go_simp
                       with_reducible rfl
                      rotate_left
                      ·simp only [Act.put, List.setIfInBounds_toArray, List.set_cons_zero, List.set_cons_succ, i64_w, i32_w]
                       rfl
                      refine pure_ (i := 21) (N := some 84) (v := ?_) (a' := ?_) #[true, true, true, true, true, true, true, true, true, true, true, true, true, true, true, true, true, true, true, true, true, true, true, false, false, true, true, false, false, false, false] rfl rfl (any_of HT_.out (by kernel_rfl)) (fun _ _ _ h => h) (Or.inl ⟨by rfl, ?_⟩) ?_ ?_
                      rotate_left
                      ·intro w'
                       go_simp
                       with_reducible rfl
                      rotate_left
                      ·simp only [Act.put, List.setIfInBounds_toArray, List.set_cons_zero, List.set_cons_succ, i64_w, i32_w]
                       rfl
                      refine take_ (i := 23) (N := some 86) (v := ?_) (a' := ?_) #[true, true, true, true, true, true, true, true, true, true, true, true, true, true, true, true, true, true, true, true, true, true, true, true, false, true, true, false, false, false, false] rfl rfl (take_ofW HT_.out HW_.out (by kernel_rfl)) (fun _ _ _ h => h) (Or.inl ⟨by rfl, ?_⟩) hHeld ?_ ?_
                      rotate_left
                      ·rintro w' ⟨s0, s1, s2, s3, s4, s5, s6, s7, s8, s9, s10⟩
                       go_simp
                       with_reducible rfl
                      rotate_left
                      ·simp only [Act.put, List.setIfInBounds_toArray, List.set_cons_zero, List.set_cons_succ, i64_w, i32_w]
                       rfl
                      refine pure_ (i := 24) (N := some 87) (v := ?_) (a' := ?_) #[true, true, true, true, true, true, true, true, true, true, true, true, true, true, true, true, true, true, true, true, true, true, true, true, true, true, true, false, false, false, false] rfl rfl (any_of HT_.out (by kernel_rfl)) (fun _ _ _ h => h) (Or.inl ⟨by rfl, ?_⟩) ?_ ?_
                      rotate_left
                      ·intro w'
                       go_simp
                       with_reducible rfl
                      rotate_left
                      ·simp only [Act.put, List.setIfInBounds_toArray, List.set_cons_zero, List.set_cons_succ, i64_w, i32_w]
                       rfl
                      refine take_ (i := 27) (N := some 90) (v := ?_) (a' := ?_) #[true, true, true, true, true, true, true, true, true, true, true, true, true, true, true, true, true, true, true, true, true, true, true, true, true, true, true, true, false, false, false] rfl rfl (take_ofW HT_.out HW_.out (by kernel_rfl)) (fun _ _ _ h => h) (Or.inl ⟨by rfl, ?_⟩) hHeld ?_ ?_
                      rotate_left
                      ·rintro w' ⟨s0, s1, s2, s3, s4, s5, s6, s7, s8, s9, s10⟩
                       go_simp
                       with_reducible rfl
                      rotate_left
                      ·simp only [Act.put, List.setIfInBounds_toArray, List.set_cons_zero, List.set_cons_succ, i64_w, i32_w]
                       rfl
                      refine pure_ (i := 28) (N := some 91) (v := ?_) (a' := ?_) #[true, true, true, true, true, true, true, true, true, true, true, true, true, true, true, true, true, true, true, true, true, true, true, true, true, true, true, true, true, false, false] rfl rfl (any_of HT_.out (by kernel_rfl)) (fun _ _ _ h => h) (Or.inl ⟨by rfl, ?_⟩) ?_ ?_
                      rotate_left
                      ·intro w'
                       go_simp
                       with_reducible rfl
                      rotate_left
                      ·simp only [Act.put, List.setIfInBounds_toArray, List.set_cons_zero, List.set_cons_succ, i64_w, i32_w]
                       rfl
                      refine pure_ (i := 29) (N := some 92) (v := ?_) (a' := ?_) #[true, true, true, true, true, true, true, true, true, true, true, true, true, true, true, true, true, true, true, true, true, true, true, true, true, true, true, true, true, true, false] rfl rfl (any_of HT_.out (by kernel_rfl)) (fun _ _ _ h => h) (Or.inl ⟨by rfl, ?_⟩) ?_ ?_
                      rotate_left
                      ·intro w'
                       go_simp
                       with_reducible rfl
                      rotate_left
                      ·simp only [Act.put, List.setIfInBounds_toArray, List.set_cons_zero, List.set_cons_succ, i64_w, i32_w]
                       rfl
                      refine pure_ (i := 30) (N := some 93) (v := ?_) (a' := ?_) #[true, true, true, true, true, true, true, true, true, true, true, true, true, true, true, true, true, true, true, true, true, true, true, true, true, true, true, true, true, true, true] rfl rfl (any_of HT_.out (by kernel_rfl)) (fun _ _ _ h => h) (Or.inl ⟨by rfl, ?_⟩) ?_ ?_
                      rotate_left
                      ·intro w'
                       go_simp
                       with_reducible rfl
                      rotate_left
                      ·simp only [Act.put, List.setIfInBounds_toArray, List.set_cons_zero, List.set_cons_succ, i64_w, i32_w]
                       rfl
                      refine done_ (done_of HT_.out (by kernel_rfl)) ?_
                      try go_wp2
                      have n0_ := aM (Kd.N_drew HO_8.out)
                      have n1_ := aM (Kd.V_drew HO_35.out)
                      have n2_ := aM (Kd.V_drew HO_437001.out)
                      have n3_ := aM (Kd.V_drew HL437_3.out)
                      have n4_ := aM (Kd.V_drew HO443.out)
                      have n5_ := aM (Kd.R_drew HO447.out)
                      have n6_ := aM (Kd.R_drew HO450.out)
                      have n7_ := aM (kD BK436.out)
                      have n8_ := aM (kD BK438.out)
                      have n9_ := aM (kD BK452.out)
                      have n10_ := aM (kD BK453.out)
                      have n11_ := aM (bD HB.out)
                      clear HO_8
                      clear HO_35
                      clear HO_437001
                      clear HL437_3
                      clear HO443
                      clear HO447
                      clear HO450
                      clear BK436
                      clear BK438
                      clear BK452
                      clear BK453
                      clear HB
                      have HO_8 := n0_
                      have HO_35 := n1_
                      have HO_437001 := n2_
                      have HL437_3 := n3_
                      have HO443 := n4_
                      have HO447 := n5_
                      have HO450 := n6_
                      have BK436 := n7_
                      have BK438 := n8_
                      have BK452 := n9_
                      have BK453 := n10_
                      have HB := n11_
                      clear n0_ n1_ n2_ n3_ n4_ n5_ n6_ n7_ n8_ n9_ n10_ n11_
                      have p457 : 0 ≤ (0 : Int) := (by omega)
                      have q457 : 0 < (t448.length : Int) := of_decide_eq_true (by first | (with_reducible assumption) | assumption)
                      obtain ⟨ad457, e457, hx457_0⟩ := Kd.at_int (Kd.R_reads' HO450.out).2.2 0 p457 q457
                      obtain rfl : ad454 = ad457 := (by injection e457)
                      have qi457 : (0 < t448.length) = True := eq_true (by omega)
                      (try rw [show ((0 : Int)).toNat = 0 from rfl] at hx457_0)
                      (try rw [Addr.add_zero'] at hx457_0)
                      replace p457 := eq_true p457
                      replace q457 := eq_true q457
                      have q68 : ((rd t448 0) : Int) ≤ ((((rd_T42 l1 x37_1).f3).length : Int) : Int) := of_decide_eq_true (by first | (with_reducible assumption) | assumption)
                      obtain ⟨i068, hi068, _, hsz68, _⟩ := info_parts info31
                      have hroom68 : ((rd_T42 l1 x37_1).f3).length ≤ c437_3 := HC437_3.out
                      have hC68 : Kd.F k31 _ _ A437_3 ((rd_T42 l1 x37_1).f3).length ((rd_T42 l1 x37_1).f3) := (Kd.V_at (base := w.heap.size) HL437_3.out).2.2
                      have hcut68 := cut_to (P := Try.prog) 22 31 .i64 Try.underlying22 hi068 A437_3 ((rd_T42 l1 x37_1).f3).length c437_3 (rd t448 0) (of_decide_eq_true (by first | (with_reducible assumption) | assumption)) q68 hroom68
                      have hr68 := Kd.F_take (m := ((rd t448 0) : Int).toNat) hC68 (by omega)
                      have hy68 : y458.length = ((rd t448 0) : Int).toNat := (by rw [Ny458.out, List.length_take]; omega)
                      rw [← Ny458.out] at hr68
                      rw [← hy68] at hcut68
                      have HO462 := aM (show Kd.V k31 31 _ w.heap.size _ (.slice A437_3 y458.length c437_3) y458 from Kd.V_mk (by omega) hr68)
                      have HC462 := aM (show y458.length ≤ c437_3 from by omega)
                      clear hr68 hC68 hroom68 hi068 hsz68
                      have KY68 := aM hy68
                      clear hy68
                      replace q68 := eq_true q68
                      refine start_ (n := 9) (S := fun w' => w'.cell? ⟨gb438, 0, none⟩ = some (.int .i64 ((rd_T42 l1 x37_1).f0)) ∧ w'.cell? ⟨gb438, 1, none⟩ = some (.int .i64 ((rd_T42 l1 x37_1).f1)) ∧ w'.cell? ⟨gb438, 2, none⟩ = some (.int .i64 ((rd_T42 l1 x37_1).f2)) ∧ w'.cell? ⟨gb438, 3, none⟩ = some (.slice A437_3 ((rd_T42 l1 x37_1).f3).length c437_3) ∧ w'.cell? ad454 = some (.int .i64 (rd t448 0))) (ds := [7]) #[false, false, false, false, false, false, false, false, false] (by kernel_rfl) rfl rfl ⟨(blk_cell BK438.out 0).trans rfl, (blk_cell BK438.out 1).trans rfl, (blk_cell BK438.out 2).trans rfl, (blk_cell BK438.out 3).trans rfl, hx457_0⟩ (fun hHeld => ?_); refine with_tabW squelchlaw21_PoolSent.tab21 squelchlaw21_PoolSent.bits21 (fun HT_ HW_ => ?_)
                      generalize w65.drew = w67 at HO_8 HO_35 HO_437001 HL437_3 HO443 HO447 HO450 BK436 BK438 BK452 BK453 HB HO462 hx457_0 hHeld ⊢
                      refine pure_ (i := 0) (N := some 94) (v := ?_) (a' := ?_) #[true, false, false, false, false, false, false, false, false] rfl rfl (any_of HT_.out (by kernel_rfl)) (fun _ _ _ h => h) (Or.inl ⟨by rfl, ?_⟩) ?_ ?_
                      rotate_left
                      ·intro w'
                       go_simp
                       with_reducible rfl
                      rotate_left
                      ·simp only [Act.put, List.setIfInBounds_toArray, List.set_cons_zero, List.set_cons_succ, i64_w, i32_w]
                       rfl
                      refine pure_ (i := 1) (N := some 95) (v := ?_) (a' := ?_) #[true, true, false, false, false, false, false, false, false] rfl rfl (any_of HT_.out (by kernel_rfl)) (fun _ _ _ h => h) (Or.inl ⟨by rfl, ?_⟩) ?_ ?_
                      rotate_left
                      ·intro w'
                       go_simp
                       with_reducible rfl
                      rotate_left
                      ·simp only [Act.put, List.setIfInBounds_toArray, List.set_cons_zero, List.set_cons_succ, i64_w, i32_w]
                       rfl
                      refine pure_ (i := 3) (N := some 97) (v := ?_) (a' := ?_) #[true, true, false, true, false, false, false, false, false] rfl rfl (any_of HT_.out (by kernel_rfl)) (fun _ _ _ h => h) (Or.inl ⟨by rfl, ?_⟩) ?_ ?_
                      rotate_left
                      ·intro w'
                       go_simp
                       with_reducible rfl
                      rotate_left
                      ·simp only [Act.put, List.setIfInBounds_toArray, List.set_cons_zero, List.set_cons_succ, i64_w, i32_w]
                       rfl
                      refine pure_ (i := 4) (N := some 98) (v := ?_) (a' := ?_) #[true, true, false, true, true, false, false, false, false] rfl rfl (any_of HT_.out (by kernel_rfl)) (fun _ _ _ h => h) (Or.inl ⟨by rfl, ?_⟩) ?_ ?_
                      rotate_left
                      ·intro w'
                       go_simp
                       with_reducible rfl
                      rotate_left
                      ·simp only [Act.put, List.setIfInBounds_toArray, List.set_cons_zero, List.set_cons_succ, i64_w, i32_w]
                       rfl
                      refine take_ (i := 2) (N := some 96) (v := ?_) (a' := ?_) #[true, true, true, true, true, false, false, false, false] rfl rfl (take_ofW HT_.out HW_.out (by kernel_rfl)) (fun _ _ _ h => h) (Or.inl ⟨by rfl, ?_⟩) hHeld ?_ ?_
                      rotate_left
                      ·rintro w' ⟨s0, s1, s2, s3, s4⟩
                       go_simp
                       with_reducible rfl
                      rotate_left
                      ·simp only [Act.put, List.setIfInBounds_toArray, List.set_cons_zero, List.set_cons_succ, i64_w, i32_w]
                       rfl
                      refine take_ (i := 5) (N := some 99) (v := ?_) (a' := ?_) #[true, true, true, true, true, true, false, false, false] rfl rfl (take_ofW HT_.out HW_.out (by kernel_rfl)) (fun _ _ _ h => h) (Or.inl ⟨by rfl, ?_⟩) hHeld ?_ ?_
                      rotate_left
                      ·rintro w' ⟨s0, s1, s2, s3, s4⟩
                       go_simp
                       with_reducible rfl
                      rotate_left
                      ·simp only [Act.put, List.setIfInBounds_toArray, List.set_cons_zero, List.set_cons_succ, i64_w, i32_w]
                       rfl
                      refine pure_ (i := 6) (N := some 100) (v := ?_) (a' := ?_) #[true, true, true, true, true, true, true, false, false] rfl rfl (any_of HT_.out (by kernel_rfl)) (fun _ _ _ h => h) (Or.inl ⟨by rfl, ?_⟩) ?_ ?_
                      rotate_left
                      ·intro w'
                       go_simp
                       with_reducible rfl
                      rotate_left
                      ·simp only [Act.put, List.setIfInBounds_toArray, List.set_cons_zero, List.set_cons_succ, i64_w, i32_w]
                       rfl
                      refine last_ (i := 7) (N := some 101) #[true, true, true, true, true, true, true, true, false] rfl rfl (one_of HT_.out (by kernel_rfl)) (by decide) (fun K hK => ?_)
                      refine Kd.N_append_rows_step k31 (w0 := w) w.heap.size (by rfl) (.tmp 94) (.tmp 100) 22 31 (.agg #[(.int .i64 0), (.slice none 0 0)]) 32 rfl Try.underlying22 info31 rfl (by decide) (by omega) u8 x8_1 y458 _ _ _ (fun k_ => (P1_ k_ ∨ w.heap.size ≤ k_) ∧ some k_ ≠ (.slice Ao53 t445.length co53 : Value).ownBlock ∧ some k_ ≠ (.slice (some ad454) t448.length co66 : Value).ownBlock ∧ k_ ≠ gb436 ∧ k_ ≠ gb438 ∧ k_ ≠ gb452 ∧ k_ ≠ gb453) (fun k_ => ((fun k_ => (P1_ k_ ∨ w.heap.size ≤ k_) ∧ some k_ ≠ (.slice Ao53 t445.length co53 : Value).ownBlock ∧ some k_ ≠ (.slice (some ad454) t448.length co66 : Value).ownBlock ∧ k_ ≠ gb436 ∧ k_ ≠ gb438 ∧ k_ ≠ gb452 ∧ k_ ≠ gb453)) k_ ∧ some k_ ≠ (u8 : Value).ownBlock) rfl rfl ?aO ?aR (fun _ hk => hk) ?aF ?aB ?aS ?aL ?_
                      (case aR => exact (by skip; exact Kd.V_F (Kd.V_mono (ok' := (fun k_ => ((fun k_ => (P1_ k_ ∨ w.heap.size ≤ k_) ∧ some k_ ≠ (.slice Ao53 t445.length co53 : Value).ownBlock ∧ some k_ ≠ (.slice (some ad454) t448.length co66 : Value).ownBlock ∧ k_ ≠ gb436 ∧ k_ ≠ gb438 ∧ k_ ≠ gb452 ∧ k_ ≠ gb453)) k_ ∧ some k_ ≠ (u8 : Value).ownBlock)) (HO462.out) (fun k_ hk => ⟨⟨hk.1, ⟨hk.2.2.1, ⟨hk.2.2.2.1, ⟨hk.2.2.2.2.1, ⟨hk.2.2.2.2.2.1, ⟨hk.2.2.2.2.2.2.1, hk.2.2.2.2.2.2.2⟩⟩⟩⟩⟩⟩, hk.2.1⟩))))
                      (case aB => exact (by repeat (first | (with_reducible first | exact HB.out | apply bA | apply bN | apply bD | refine bS ?_ GE436.out | refine bS ?_ GE438.out | refine bS ?_ GE452.out | refine bS ?_ GE453.out) | exact HB.out)))
                      (case aF => exact (fun k_ hk => ⟨(.inr (Nat.le_trans (below_size (by repeat (first | (with_reducible first | exact HB.out | apply bA | apply bN | apply bD | refine bS ?_ GE436.out | refine bS ?_ GE438.out | refine bS ?_ GE452.out | refine bS ?_ GE453.out) | exact HB.out))) hk)), Kd.fresh' (Kd.R_lt (by (with_reducible repeat (first | apply Kd.R_alloc | apply Kd.R_drewN | apply Kd.R_drew)); exact HO447.out)) k_ hk, Kd.fresh' (Kd.R_lt (by (with_reducible repeat (first | apply Kd.R_alloc | apply Kd.R_drewN | apply Kd.R_drew)); exact HO450.out)) k_ hk, Kd.freshB (g := gb436) (o := .cells #[.int .i64 x437000_1, .slice Ao38 x437001_1.length co38] 24 (0, 0)) (by (with_reducible repeat (first | refine kN ?_ _ | refine kD ?_ | refine kA ?_ _)); exact BK436.out) k_ hk, Kd.freshB (g := gb438) (o := .cells #[.int .i64 ((rd_T42 l1 x37_1).f0), .int .i64 ((rd_T42 l1 x37_1).f1), .int .i64 ((rd_T42 l1 x37_1).f2), .slice A437_3 ((rd_T42 l1 x37_1).f3).length c437_3] 42 (0, 0)) (by (with_reducible repeat (first | refine kN ?_ _ | refine kD ?_ | refine kA ?_ _)); exact BK438.out) k_ hk, Kd.freshB (g := gb452) (o := .cells #[.int .i64 t440, .slice Ao49 t441.length co49] 24 (0, 0)) (by (with_reducible repeat (first | refine kN ?_ _ | refine kD ?_ | refine kA ?_ _)); exact BK452.out) k_ hk, Kd.freshB (g := gb453) (o := .cells #[.int .i64 t444, .slice Ao53 t445.length co53] 31 (0, 0)) (by (with_reducible repeat (first | refine kN ?_ _ | refine kD ?_ | refine kA ?_ _)); exact BK453.out) k_ hk⟩))
                      (case aO => exact (by (with_reducible repeat (first | apply Kd.N_alloc | apply Kd.N_drewN | apply Kd.N_drew)); exact HO_8.out))
                      (case aS => exact (below_size (by repeat (first | (with_reducible first | exact HB.out | apply bA | apply bN | apply bD | refine bS ?_ GE436.out | refine bS ?_ GE438.out | refine bS ?_ GE452.out | refine bS ?_ GE453.out) | exact HB.out))))
                      (case aL => have := LMc63.out; omega)
                      intro v464 w69 ho hb hg hat
                      rw [← Ny463.out] at ho
                      have n0_ := aM (Kd.V_afterv (ok := (fun k_ => (P1_ k_ ∨ w.heap.size ≤ k_) ∧ some k_ ≠ (.slice Ao53 t445.length co53 : Value).ownBlock ∧ some k_ ≠ (.slice (some ad454) t448.length co66 : Value).ownBlock ∧ k_ ≠ gb436 ∧ k_ ≠ gb438 ∧ k_ ≠ gb452 ∧ k_ ≠ gb453)) (by (with_reducible repeat (first | apply Kd.V_alloc | apply Kd.V_drewN | apply Kd.V_drew)); exact Kd.V_mono HO_35.out (fun _ hk => ⟨⟨hk.1, ⟨hk.2.2.1, ⟨hk.2.2.2.1, ⟨hk.2.2.2.2.1, ⟨hk.2.2.2.2.2.1, ⟨hk.2.2.2.2.2.2.1, hk.2.2.2.2.2.2.2⟩⟩⟩⟩⟩⟩, hk.2.1⟩)) hg hat)
                      have n1_ := aM (Kd.V_afterv (ok := (fun k_ => (P1_ k_ ∨ w.heap.size ≤ k_) ∧ some k_ ≠ (.slice Ao53 t445.length co53 : Value).ownBlock ∧ some k_ ≠ (.slice (some ad454) t448.length co66 : Value).ownBlock ∧ k_ ≠ gb436 ∧ k_ ≠ gb438 ∧ k_ ≠ gb452 ∧ k_ ≠ gb453)) (by (with_reducible repeat (first | apply Kd.V_alloc | apply Kd.V_drewN | apply Kd.V_drew)); exact Kd.V_mono HO_437001.out (fun _ hk => ⟨⟨hk.1, ⟨hk.2.2.1, ⟨hk.2.2.2.1, ⟨hk.2.2.2.2.1, ⟨hk.2.2.2.2.2.1, ⟨hk.2.2.2.2.2.2.1, hk.2.2.2.2.2.2.2⟩⟩⟩⟩⟩⟩, hk.2.1⟩)) hg hat)
                      have n2_ := aM (blk_grown (g := gb436) (o := .cells #[.int .i64 x437000_1, .slice Ao38 x437001_1.length co38] 24 (0, 0)) (by (with_reducible repeat (first | refine kN ?_ _ | refine kD ?_ | refine kA ?_ _)); exact BK436.out) hg (Kd.N_ne HO_8.out BK436.out (by decide)))
                      have n3_ := aM (Kd.V_afterv (ok := (fun k_ => (P1_ k_ ∨ w.heap.size ≤ k_) ∧ some k_ ≠ (.slice Ao53 t445.length co53 : Value).ownBlock ∧ some k_ ≠ (.slice (some ad454) t448.length co66 : Value).ownBlock ∧ k_ ≠ gb436 ∧ k_ ≠ gb438 ∧ k_ ≠ gb452 ∧ k_ ≠ gb453)) (by (with_reducible repeat (first | apply Kd.V_alloc | apply Kd.V_drewN | apply Kd.V_drew)); exact Kd.V_mono HL437_3.out (fun _ hk => ⟨⟨hk.1, ⟨hk.2.2.1, ⟨hk.2.2.2.1, ⟨hk.2.2.2.2.1, ⟨hk.2.2.2.2.2.1, ⟨hk.2.2.2.2.2.2.1, hk.2.2.2.2.2.2.2⟩⟩⟩⟩⟩⟩, hk.2.1⟩)) hg hat)
                      have n4_ := aM (blk_grown (g := gb438) (o := .cells #[.int .i64 ((rd_T42 l1 x37_1).f0), .int .i64 ((rd_T42 l1 x37_1).f1), .int .i64 ((rd_T42 l1 x37_1).f2), .slice A437_3 ((rd_T42 l1 x37_1).f3).length c437_3] 42 (0, 0)) (by (with_reducible repeat (first | refine kN ?_ _ | refine kD ?_ | refine kA ?_ _)); exact BK438.out) hg (Kd.N_ne HO_8.out BK438.out (by decide)))
                      have n5_ := aM (Kd.V_afterv (ok := (fun k_ => (P1_ k_ ∨ w.heap.size ≤ k_) ∧ some k_ ≠ (.slice Ao53 t445.length co53 : Value).ownBlock ∧ some k_ ≠ (.slice (some ad454) t448.length co66 : Value).ownBlock ∧ k_ ≠ gb436 ∧ k_ ≠ gb438 ∧ k_ ≠ gb452 ∧ k_ ≠ gb453)) (by (with_reducible repeat (first | apply Kd.V_alloc | apply Kd.V_drewN | apply Kd.V_drew)); exact Kd.V_mono HO443.out (fun _ hk => ⟨⟨hk.1, ⟨hk.2.2.1, ⟨hk.2.2.2.1, ⟨hk.2.2.2.2.1, ⟨hk.2.2.2.2.2.1, ⟨hk.2.2.2.2.2.2.1, hk.2.2.2.2.2.2.2⟩⟩⟩⟩⟩⟩, hk.2.1⟩)) hg hat)
                      have n6_ := aM (Kd.R_over' (by (with_reducible repeat (first | apply Kd.R_alloc | apply Kd.R_drewN | apply Kd.R_drew)); exact HO447.out) (Kd.N_typed (by (with_reducible repeat (first | apply Kd.N_alloc | apply Kd.N_drewN | apply Kd.N_drew)); exact HO_8.out)) (by decide) hg)
                      have n7_ := aM (Kd.R_over' (by (with_reducible repeat (first | apply Kd.R_alloc | apply Kd.R_drewN | apply Kd.R_drew)); exact HO450.out) (Kd.N_typed (by (with_reducible repeat (first | apply Kd.N_alloc | apply Kd.N_drewN | apply Kd.N_drew)); exact HO_8.out)) (by decide) hg)
                      have n8_ := aM (blk_grown (g := gb452) (o := .cells #[.int .i64 t440, .slice Ao49 t441.length co49] 24 (0, 0)) (by (with_reducible repeat (first | refine kN ?_ _ | refine kD ?_ | refine kA ?_ _)); exact BK452.out) hg (Kd.N_ne HO_8.out BK452.out (by decide)))
                      have n9_ := aM (blk_grown (g := gb453) (o := .cells #[.int .i64 t444, .slice Ao53 t445.length co53] 31 (0, 0)) (by (with_reducible repeat (first | refine kN ?_ _ | refine kD ?_ | refine kA ?_ _)); exact BK453.out) hg (Kd.N_away HO_8.out (fun _ hk => hk.2.2.2.2.2.2)))
                      have n10_ := aM (Kd.V_afterv (ok := (fun k_ => (P1_ k_ ∨ w.heap.size ≤ k_) ∧ some k_ ≠ (.slice Ao53 t445.length co53 : Value).ownBlock ∧ some k_ ≠ (.slice (some ad454) t448.length co66 : Value).ownBlock ∧ k_ ≠ gb436 ∧ k_ ≠ gb438 ∧ k_ ≠ gb452 ∧ k_ ≠ gb453)) (by (with_reducible repeat (first | apply Kd.V_alloc | apply Kd.V_drewN | apply Kd.V_drew)); exact Kd.V_mono HO462.out (fun _ hk => ⟨⟨hk.1, ⟨hk.2.2.1, ⟨hk.2.2.2.1, ⟨hk.2.2.2.2.1, ⟨hk.2.2.2.2.2.1, ⟨hk.2.2.2.2.2.2.1, hk.2.2.2.2.2.2.2⟩⟩⟩⟩⟩⟩, hk.2.1⟩)) hg hat)
                      have n11_ := aM (hb)
                      have n12_ := aM (ho)
                      clear HO_35
                      clear HO_437001
                      clear BK436
                      clear HL437_3
                      clear BK438
                      clear HO443
                      clear HO447
                      clear HO450
                      clear BK452
                      clear BK453
                      clear HO462
                      clear HB
                      clear HO_8
                      have HO_35 := n0_
                      have HO_437001 := n1_
                      have BK436 := n2_
                      have HL437_3 := n3_
                      have BK438 := n4_
                      have HO443 := n5_
                      have HO447 := n6_
                      have HO450 := n7_
                      have BK452 := n8_
                      have BK453 := n9_
                      have HO462 := n10_
                      have HB := n11_
                      have HO465 := n12_
                      clear n0_ n1_ n2_ n3_ n4_ n5_ n6_ n7_ n8_ n9_ n10_ n11_ n12_
                      clear ho hb hg hat
                      refine hK.out _ _ ?_
                      clear hK K
                      refine norm_ (a' := ?_) ?_ ?_
                      rotate_left
                      ·show Act.put _ (some 101) _ = _
                       simp only [Act.put, List.setIfInBounds_toArray, List.set_cons_zero, List.set_cons_succ, i64_w, i32_w]
                       rfl
                      refine pure_ (i := 8) (N := some 8) (v := ?_) (a' := ?_) #[true, true, true, true, true, true, true, true, true] rfl rfl (any_of HT_.out (by kernel_rfl)) (fun _ _ _ h => h) (Or.inl ⟨by rfl, ?_⟩) ?_ ?_
                      rotate_left
                      ·intro w'
                       go_simp
                       with_reducible rfl
                      rotate_left
                      ·simp only [Act.put, List.setIfInBounds_toArray, List.set_cons_zero, List.set_cons_succ, i64_w, i32_w]
                       rfl
                      refine done_ (done_of HT_.out (by kernel_rfl)) ?_
                      try go_wp2
                      go_meet
                      case rel => exact ⟨_, (y463), H', ⟨by have := HK1.out; first | omega | exact Nat.le_refl _⟩, ⟨by (with_reducible repeat (first | apply Kd.N_alloc | apply Kd.N_drewN | apply Kd.N_drew)); exact Kd.N_mono HO465.out (fun _ hk => ⟨hk.1, ⟨hk.2.1, ⟨hk.2.2.2.1, ⟨hk.2.2.2.2.1, ⟨hk.2.2.2.2.2.1, hk.2.2.2.2.2.2⟩⟩⟩⟩⟩)⟩, ⟨by (with_reducible repeat (first | apply Kd.V_alloc | apply Kd.V_drewN | apply Kd.V_drew)); exact Kd.V_mono HO_35.out (fun _ hk => ⟨hk.1.1, ⟨hk.2, ⟨hk.1.2.1, ⟨hk.1.2.2.2.1, ⟨hk.1.2.2.2.2.1, ⟨hk.1.2.2.2.2.2.1, hk.1.2.2.2.2.2.2⟩⟩⟩⟩⟩⟩)⟩, ⟨by (with_reducible repeat (first | apply Kd.V_alloc | apply Kd.V_drewN | apply Kd.V_drew)); exact Kd.V_mono HO_437001.out (fun _ hk => ⟨hk.1.1, ⟨hk.2, ⟨hk.1.2.1, ⟨hk.1.2.2.2.1, ⟨hk.1.2.2.2.2.1, ⟨hk.1.2.2.2.2.2.1, hk.1.2.2.2.2.2.2⟩⟩⟩⟩⟩⟩)⟩, ⟨by (with_reducible repeat (first | apply Kd.V_alloc | apply Kd.V_drewN | apply Kd.V_drew)); exact Kd.V_mono HO443.out (fun _ hk => ⟨hk.1.1, ⟨hk.2, ⟨hk.1.2.1, ⟨hk.1.2.2.2.1, ⟨hk.1.2.2.2.2.1, ⟨hk.1.2.2.2.2.2.1, hk.1.2.2.2.2.2.2⟩⟩⟩⟩⟩⟩)⟩, ⟨by (with_reducible repeat (first | apply Kd.R_alloc | apply Kd.R_drewN | apply Kd.R_drew)); exact HO447.out⟩, ⟨by (with_reducible repeat (first | refine kN ?_ _ | refine kD ?_ | refine kA ?_ _)); exact BK436.out⟩, ⟨by (with_reducible repeat (first | refine kN ?_ _ | refine kD ?_ | refine kA ?_ _)); exact BK438.out⟩, ⟨by (with_reducible repeat (first | refine kN ?_ _ | refine kD ?_ | refine kA ?_ _)); exact BK452.out⟩, ⟨by (with_reducible repeat (first | refine kN ?_ _ | refine kD ?_ | refine kA ?_ _)); exact BK453.out⟩, ⟨by repeat (first | (with_reducible first | exact HB.out | apply bA | apply bN | apply bD | refine bS ?_ GE436.out | refine bS ?_ GE438.out | refine bS ?_ GE452.out | refine bS ?_ GE453.out) | exact HB.out)⟩⟩
                     ·rw [if_neg c63] at H
                      exact absurd H (by simp)
                    ·rw [if_neg c62] at H
                     exact absurd H (by simp)
                   ·rw [if_neg c61] at H
                    exact absurd H (by simp)
                  ·rw [if_neg c60] at H
                   have c60b0 : ((t441.length : Int) == (wrap64 ((x437001_1.length : Int) + (rd t448 0)))) = false := beq_eq_false_iff_ne.mpr c60
                   have c60b1 : ((t441.length : Int) != (wrap64 ((x437001_1.length : Int) + (rd t448 0)))) = true := bne_iff_ne.mpr c60
                   obtain rfl := Option.some.inj H
                   exact absurd HR_.out (by simp)
               ·rw [if_neg c57] at H
                exact absurd H (by simp)
              ·rw [if_neg c56] at H
               have c56b0 : ((t448.length : Int) == 1) = false := beq_eq_false_iff_ne.mpr c56
               have c56b1 : ((t448.length : Int) != 1) = true := bne_iff_ne.mpr c56
               obtain rfl := Option.some.inj H
               exact absurd HR_.out (by simp)
             ·rw [if_neg c55] at H
              have c55b0 : (((rd_T42 l1 x37_1).f0) == 0) = false := beq_eq_false_iff_ne.mpr c55
              have c55b1 : (((rd_T42 l1 x37_1).f0) != 0) = true := bne_iff_ne.mpr c55
              (first | rw [c55b0] | (simp only [i64_w, i32_w]; rw [c55b0]) | skip)
              have H' := aM H
              clear H
              go_wp2
              go_meet
              case rel => exact ⟨_, (x8_1), H', ⟨by have := HK1.out; first | omega | exact Nat.le_refl _⟩, ⟨by (with_reducible repeat (first | apply Kd.N_alloc | apply Kd.N_drewN | apply Kd.N_drew)); exact Kd.N_mono (Kd.N_far (p := ⟨gb453, 1, none⟩) (Kd.N_far (p := ⟨gb453, 0, none⟩) (Kd.N_far (p := ⟨gb452, 1, none⟩) (Kd.N_far (p := ⟨gb452, 0, none⟩) (Kd.N_mono (Kd.N_mono HO_8.out (fun k_ hk => (⟨hk, hk.1.2⟩ : _ ∧ k_ ≠ gb452))) (fun k_ hk => (⟨hk, hk.1.2⟩ : _ ∧ k_ ≠ gb453))) (fun _ hk => hk.1.2) (.int .i64 t440)) (fun _ hk => hk.1.2) (.slice Ao49 t441.length co49)) (fun _ hk => hk.2) (.int .i64 t444)) (fun _ hk => hk.2) (.slice Ao53 t445.length co53)) (fun _ hk => ⟨hk.1.1.1.1.1.1.1, ⟨hk.1.1.1.1.1.2, ⟨hk.1.1.1.1.1.1.2.1, ⟨hk.1.1.1.1.1.1.2.2, ⟨hk.1.1.1.2, hk.1.1.2⟩⟩⟩⟩⟩)⟩, ⟨by (with_reducible repeat (first | apply Kd.V_alloc | apply Kd.V_drewN | apply Kd.V_drew)); exact Kd.V_mono (Kd.V_far (p := ⟨gb453, 1, none⟩) (Kd.V_far (p := ⟨gb453, 0, none⟩) (Kd.V_far (p := ⟨gb452, 1, none⟩) (Kd.V_far (p := ⟨gb452, 0, none⟩) (Kd.V_mono (Kd.V_mono HO_35.out (fun k_ hk => (⟨hk, hk.1.2⟩ : _ ∧ k_ ≠ gb452))) (fun k_ hk => (⟨hk, hk.1.2⟩ : _ ∧ k_ ≠ gb453))) (fun _ hk => hk.1.2) (.int .i64 t440)) (fun _ hk => hk.1.2) (.slice Ao49 t441.length co49)) (fun _ hk => hk.2) (.int .i64 t444)) (fun _ hk => hk.2) (.slice Ao53 t445.length co53)) (fun _ hk => ⟨hk.1.1.1.1.1.1.1, ⟨hk.1.1.1.1.1.1.2.1, ⟨hk.1.1.1.1.1.2, ⟨hk.1.1.1.1.1.1.2.2.1, ⟨hk.1.1.1.1.1.1.2.2.2, ⟨hk.1.1.1.2, hk.1.1.2⟩⟩⟩⟩⟩⟩)⟩, ⟨by (with_reducible repeat (first | apply Kd.V_alloc | apply Kd.V_drewN | apply Kd.V_drew)); exact Kd.V_mono (Kd.V_far (p := ⟨gb453, 1, none⟩) (Kd.V_far (p := ⟨gb453, 0, none⟩) (Kd.V_far (p := ⟨gb452, 1, none⟩) (Kd.V_far (p := ⟨gb452, 0, none⟩) (Kd.V_mono (Kd.V_mono HO_437001.out (fun k_ hk => (⟨hk, hk.1.2⟩ : _ ∧ k_ ≠ gb452))) (fun k_ hk => (⟨hk, hk.1.2⟩ : _ ∧ k_ ≠ gb453))) (fun _ hk => hk.1.2) (.int .i64 t440)) (fun _ hk => hk.1.2) (.slice Ao49 t441.length co49)) (fun _ hk => hk.2) (.int .i64 t444)) (fun _ hk => hk.2) (.slice Ao53 t445.length co53)) (fun _ hk => ⟨hk.1.1.1.1.1.1.1, ⟨hk.1.1.1.1.1.1.2.1, ⟨hk.1.1.1.1.1.2, ⟨hk.1.1.1.1.1.1.2.2.1, ⟨hk.1.1.1.1.1.1.2.2.2, ⟨hk.1.1.1.2, hk.1.1.2⟩⟩⟩⟩⟩⟩)⟩, ⟨by (with_reducible repeat (first | apply Kd.V_alloc | apply Kd.V_drewN | apply Kd.V_drew)); exact Kd.V_mono (Kd.V_far (p := ⟨gb453, 1, none⟩) (Kd.V_far (p := ⟨gb453, 0, none⟩) (Kd.V_far (p := ⟨gb452, 1, none⟩) (Kd.V_far (p := ⟨gb452, 0, none⟩) (Kd.V_mono (Kd.V_mono HO443.out (fun k_ hk => (⟨hk, hk.1.2⟩ : _ ∧ k_ ≠ gb452))) (fun k_ hk => (⟨hk, hk.1.2⟩ : _ ∧ k_ ≠ gb453))) (fun _ hk => hk.1.2) (.int .i64 t440)) (fun _ hk => hk.1.2) (.slice Ao49 t441.length co49)) (fun _ hk => hk.2) (.int .i64 t444)) (fun _ hk => hk.2) (.slice Ao53 t445.length co53)) (fun _ hk => ⟨hk.1.1.1.1.1, ⟨hk.1.1.1.1.2.2.2.1, ⟨hk.1.1.1.1.2.1, ⟨hk.1.1.1.1.2.2.2.2.1, ⟨hk.1.1.1.1.2.2.2.2.2, ⟨hk.1.1.1.2, hk.1.1.2⟩⟩⟩⟩⟩⟩)⟩, ⟨by (with_reducible repeat (first | apply Kd.R_alloc | apply Kd.R_drewN | apply Kd.R_drew)); exact Kd.R_mono (Kd.R_far (p := ⟨gb453, 1, none⟩) (Kd.R_far (p := ⟨gb453, 0, none⟩) (Kd.R_far (p := ⟨gb452, 1, none⟩) (Kd.R_far (p := ⟨gb452, 0, none⟩) (Kd.R_types (Kd.R_types HO447.out BK452.out (by decide)) BK453.out (by decide)) (fun _ hk => hk.1.2) (.int .i64 t440)) (fun _ hk => hk.1.2) (.slice Ao49 t441.length co49)) (fun _ hk => hk.2) (.int .i64 t444)) (fun _ hk => hk.2) (.slice Ao53 t445.length co53)) (fun _ hk => hk.1.1.1)⟩, ⟨by (with_reducible repeat (first | refine kN ?_ _ | refine kD ?_ | refine kA ?_ _)); refine blk_far ?_ NB436_453.out _; (with_reducible repeat (first | refine kN ?_ _ | refine kD ?_ | refine kA ?_ _)); refine blk_far ?_ NB436_453.out _; (with_reducible repeat (first | refine kN ?_ _ | refine kD ?_ | refine kA ?_ _)); refine blk_far ?_ NB436_452.out _; (with_reducible repeat (first | refine kN ?_ _ | refine kD ?_ | refine kA ?_ _)); refine blk_far ?_ NB436_452.out _; (with_reducible repeat (first | refine kN ?_ _ | refine kD ?_ | refine kA ?_ _)); exact BK436.out⟩, ⟨by (with_reducible repeat (first | refine kN ?_ _ | refine kD ?_ | refine kA ?_ _)); refine blk_far ?_ NB438_453.out _; (with_reducible repeat (first | refine kN ?_ _ | refine kD ?_ | refine kA ?_ _)); refine blk_far ?_ NB438_453.out _; (with_reducible repeat (first | refine kN ?_ _ | refine kD ?_ | refine kA ?_ _)); refine blk_far ?_ NB438_452.out _; (with_reducible repeat (first | refine kN ?_ _ | refine kD ?_ | refine kA ?_ _)); refine blk_far ?_ NB438_452.out _; (with_reducible repeat (first | refine kN ?_ _ | refine kD ?_ | refine kA ?_ _)); exact BK438.out⟩, ⟨by (with_reducible repeat (first | refine kN ?_ _ | refine kD ?_ | refine kA ?_ _)); refine blk_far ?_ NB452_453.out _; (with_reducible repeat (first | refine kN ?_ _ | refine kD ?_ | refine kA ?_ _)); refine blk_far ?_ NB452_453.out _; (with_reducible repeat (first | refine kN ?_ _ | refine kD ?_ | refine kA ?_ _)); refine blk_put (cs := #[.int .i64 t440, .slice none 0 0]) ?_ 1 _ rfl; (with_reducible repeat (first | refine kN ?_ _ | refine kD ?_ | refine kA ?_ _)); refine blk_put (cs := #[.int .i64 0, .slice none 0 0]) ?_ 0 _ rfl; (with_reducible repeat (first | refine kN ?_ _ | refine kD ?_ | refine kA ?_ _)); exact BK452.out⟩, ⟨by (with_reducible repeat (first | refine kN ?_ _ | refine kD ?_ | refine kA ?_ _)); refine blk_put (cs := #[.int .i64 t444, .slice none 0 0]) ?_ 1 _ rfl; (with_reducible repeat (first | refine kN ?_ _ | refine kD ?_ | refine kA ?_ _)); refine blk_put (cs := #[.int .i64 0, .slice none 0 0]) ?_ 0 _ rfl; (with_reducible repeat (first | refine kN ?_ _ | refine kD ?_ | refine kA ?_ _)); refine blk_far ?_ NB453_452.out _; (with_reducible repeat (first | refine kN ?_ _ | refine kD ?_ | refine kA ?_ _)); refine blk_far ?_ NB453_452.out _; (with_reducible repeat (first | refine kN ?_ _ | refine kD ?_ | refine kA ?_ _)); exact BK453.out⟩, ⟨by repeat (first | (with_reducible first | exact HB.out | apply bA | apply bN | apply bD | refine bS ?_ GE436.out | refine bS ?_ GE438.out | refine bS ?_ GE452.out | refine bS ?_ GE453.out) | exact HB.out)⟩⟩
            case rest =>
             clear HC31
             try clear c1
             try clear p2
             try clear c4
             try clear p4
             try clear q4
             try clear hx4
             try clear qi4
             try clear c5
             try clear c6
             try clear p6
             try clear q6
             try clear c43
             try clear p45
             try clear q45
             try clear hx45
             try clear qi45
             try clear c55
             try clear c55b0
             try clear c55b1
             try clear c56
             try clear c56b0
             try clear c56b1
             try clear c57
             try clear c60
             try clear c60b0
             try clear c60b1
             try clear c61
             try clear c61b0
             try clear c61b1
             try clear c62
             try clear c62b0
             try clear c62b1
             try clear c63
             try clear p64
             try clear q68
             try clear hx454_0
             try clear hx455_0
             try clear hx456_0
             try clear hx457_0
             try clear p454
             try clear p455
             try clear p456
             try clear p457
             try clear q454
             try clear q455
             try clear q456
             try clear q457
             try clear q68
             obtain ⟨kq, x8_30, HA, HJ30, HO_8, HO_35, HO_437001, HO_453001, HO_454001, BK436, BK438, BK452, BK453, HB⟩ := hcut
             cases kq with
             | zero => exact absurd HA.out (by simp [squelchlaw21_PoolSent.j1])
             | succ kj30 =>
              have H := HA.out
              clear HA
              simp only [squelchlaw21_PoolSent.j1] at H
              have HC70 := aM H
              clear H
              go_upto_region 22 with (fail)
              go_cut [110] (fun v110 wc => ∃ (kq : Nat) (x110_69 : Bool), v110 = .bool x110_69 ∧ Aside0 (squelchlaw21_PoolSent.j2 kq true x8_30 l1 (l1.length : Int) x37_1 x110_69 t440 t441 = some r) ∧ Aside0 (kq ≤ kj30) ∧ Aside0 (Kd.N k31 31 wc w.heap.size (fun k_ => (P1_ k_ ∨ w.heap.size ≤ k_) ∧ some k_ ≠ ((.slice Ao53 t445.length co53) : Value).ownBlock ∧ k_ ≠ gb436 ∧ k_ ≠ gb438 ∧ k_ ≠ gb452 ∧ k_ ≠ gb453) u8 x8_30) ∧ Aside0 (Kd.V k42 42 wc w.heap.size (fun k_ => (P1_ k_ ∨ w.heap.size ≤ k_) ∧ some k_ ≠ (u8 : Value).ownBlock ∧ some k_ ≠ ((.slice Ao53 t445.length co53) : Value).ownBlock ∧ k_ ≠ gb436 ∧ k_ ≠ gb438 ∧ k_ ≠ gb452 ∧ k_ ≠ gb453) (.slice (some ad437) l1.length c1) l1) ∧ Aside0 (Kd.V k31 31 wc w.heap.size (fun k_ => (P1_ k_ ∨ w.heap.size ≤ k_) ∧ some k_ ≠ (u8 : Value).ownBlock ∧ some k_ ≠ ((.slice Ao53 t445.length co53) : Value).ownBlock ∧ k_ ≠ gb436 ∧ k_ ≠ gb438 ∧ k_ ≠ gb452 ∧ k_ ≠ gb453) (.slice Ao38 x437001_1.length co38) x437001_1) ∧ Aside0 (Kd.V k31 31 wc w.heap.size (fun k_ => (P1_ k_ ∨ w.heap.size ≤ k_) ∧ some k_ ≠ (u8 : Value).ownBlock ∧ some k_ ≠ ((.slice Ao53 t445.length co53) : Value).ownBlock ∧ k_ ≠ gb436 ∧ k_ ≠ gb438 ∧ k_ ≠ gb452 ∧ k_ ≠ gb453) (.slice Ao49 t441.length co49) t441) ∧ Aside0 (Kd.R (Kd.int .u8) 5 wc w.heap.size (fun k_ => (w.heap.size ≤ k_)) (.slice Ao53 t445.length co53) t445) ∧ Aside0 (wc.heap[gb436]? = some (.cells #[.int .i64 x437000_1, (.slice Ao38 x437001_1.length co38)] 24 (0, 0))) ∧ Aside0 (wc.heap[gb438]? = some (.cells #[.int .i64 ((rd_T42 l1 x37_1).f0), .int .i64 ((rd_T42 l1 x37_1).f1), .int .i64 ((rd_T42 l1 x37_1).f2), (.slice A437_3 ((rd_T42 l1 x37_1).f3).length c437_3)] 42 (0, 0))) ∧ Aside0 (wc.heap[gb452]? = some (.cells #[.int .i64 t440, (.slice Ao49 t441.length co49)] 24 (0, 0))) ∧ Aside0 (wc.heap[gb453]? = some (.cells #[.int .i64 t444, (.slice Ao53 t445.length co53)] 31 (0, 0))) ∧ Aside0 (Below w.heap.size w wc))
              case first =>
               have H := HC70.out
               clear HC70
               by_cases c71 : ((rd_T42 l1 x37_1).f0) = 1
               ·rw [if_pos c71] at H
                have c71b0 : (((rd_T42 l1 x37_1).f0) == 1) = true := beq_iff_eq.mpr c71
                have c71b1 : (((rd_T42 l1 x37_1).f0) != 1) = false := bne_eq_false_iff_eq.mpr c71
                clear c71
                (first | rw [c71b0] | (simp only [i64_w, i32_w]; rw [c71b0]) | skip)
                replace H := Option.bind_eq_some_iff.mp H
                obtain ⟨t466, A720, H⟩ := H
                replace H : (squelchlaw21_PoolSent.j2 kj30 true x8_30 l1 (l1.length : Int) x37_1 (!t466) t440 t441) = some r := H
                have A72 := aM A720
                clear A720
                have H' := aM H
                clear H
                have hnb73 := NB438_436.out
                have hnc73 := NB436_438.out
                have hnb74 := NB438_452.out
                have hnc74 := NB452_438.out
                have hnb75 := NB438_453.out
                have hnc75 := NB453_438.out
                have hcz76_0 : wc.cell? ⟨gb438, 0, none⟩ = some (.int .i64 ((rd_T42 l1 x37_1).f0)) := (blk_cell BK438.out 0).trans rfl
                have hcz76_1 : wc.cell? ⟨gb438, 1, none⟩ = some (.int .i64 ((rd_T42 l1 x37_1).f1)) := (blk_cell BK438.out 1).trans rfl
                have hcz76_2 : wc.cell? ⟨gb438, 2, none⟩ = some (.int .i64 ((rd_T42 l1 x37_1).f2)) := (blk_cell BK438.out 2).trans rfl
                have hcz76_3 : wc.cell? ⟨gb438, 3, none⟩ = some (.slice A437_3 ((rd_T42 l1 x37_1).f3).length c437_3) := (blk_cell BK438.out 3).trans rfl
                have hfz76_0 := blk_frozen BK438.out 0
                have hfz76_1 := blk_frozen BK438.out 1
                have hfz76_2 := blk_frozen BK438.out 2
                have hfz76_3 := blk_frozen BK438.out 3
                have hnb77 := NB453_436.out
                have hnc77 := NB436_453.out
                have hnb78 := NB453_452.out
                have hnc78 := NB452_453.out
                have hcz79_0 : wc.cell? ⟨gb453, 0, none⟩ = some (.int .i64 t444) := (blk_cell BK453.out 0).trans rfl
                have hcz79_1 : wc.cell? ⟨gb453, 1, none⟩ = some (.slice Ao53 t445.length co53) := (blk_cell BK453.out 1).trans rfl
                have hfz79_0 := blk_frozen BK453.out 0
                have hfz79_1 := blk_frozen BK453.out 1
                obtain ⟨Ao80, co80, eo80⟩ := Kd.N_slice HO_8.out
                subst eo80
                go_wp2_with (first | (go_at_call 15; (with_reducible refine (squelchlaw21_among.calls kj30 _ _ x8_30 t444 _ _ t445 t466 _ ?side1 ?side2 ?side3 ?side4 A72.out).mono ?_); (case side1 => repeat (first | exact (Kd.N_reads' HO_8.out).2.2 | (with_reducible refine Kd.C_alloc ?_ _) | (with_reducible refine Kd.C_drewN ?_ _) | (with_reducible refine Kd.C_drew ?_))); (case side2 => exact (Kd.N_reads' HO_8.out).2.1); (case side3 => repeat (first | exact (Kd.R_reads' HO_454001.out).2.2 | (with_reducible refine Kd.C_alloc ?_ _) | (with_reducible refine Kd.C_drewN ?_ _) | (with_reducible refine Kd.C_drew ?_))); (case side4 => exact (Kd.R_reads' HO_454001.out).2.1); rintro e w81 ⟨rfl, hb⟩; have n0_ := aM (Kd.N_below (by (with_reducible repeat (first | apply Kd.N_alloc | apply Kd.N_drewN | apply Kd.N_drew)); exact HO_8.out) hb); have n1_ := aM (Kd.V_below (by (with_reducible repeat (first | apply Kd.V_alloc | apply Kd.V_drewN | apply Kd.V_drew)); exact HO_35.out) hb); have n2_ := aM (Kd.V_below (by (with_reducible repeat (first | apply Kd.V_alloc | apply Kd.V_drewN | apply Kd.V_drew)); exact HO_437001.out) hb); have n3_ := aM (Kd.V_below (by (with_reducible repeat (first | apply Kd.V_alloc | apply Kd.V_drewN | apply Kd.V_drew)); exact HO_453001.out) hb); have n4_ := aM (Kd.R_below (by (with_reducible repeat (first | apply Kd.R_alloc | apply Kd.R_drewN | apply Kd.R_drew)); exact HO_454001.out) hb); have n5_ := aM (blk_below (g := gb436) (o := .cells #[.int .i64 x437000_1, .slice Ao38 x437001_1.length co38] 24 (0, 0)) (by (with_reducible repeat (first | refine kN ?_ _ | refine kD ?_ | refine kA ?_ _)); exact BK436.out) hb); have n6_ := aM (blk_below (g := gb438) (o := .cells #[.int .i64 ((rd_T42 l1 x37_1).f0), .int .i64 ((rd_T42 l1 x37_1).f1), .int .i64 ((rd_T42 l1 x37_1).f2), .slice A437_3 ((rd_T42 l1 x37_1).f3).length c437_3] 42 (0, 0)) (by (with_reducible repeat (first | refine kN ?_ _ | refine kD ?_ | refine kA ?_ _)); exact BK438.out) hb); have n7_ := aM (blk_below (g := gb452) (o := .cells #[.int .i64 t440, .slice Ao49 t441.length co49] 24 (0, 0)) (by (with_reducible repeat (first | refine kN ?_ _ | refine kD ?_ | refine kA ?_ _)); exact BK452.out) hb); have n8_ := aM (blk_below (g := gb453) (o := .cells #[.int .i64 t444, .slice Ao53 t445.length co53] 31 (0, 0)) (by (with_reducible repeat (first | refine kN ?_ _ | refine kD ?_ | refine kA ?_ _)); exact BK453.out) hb); have n9_ := aM (below_step (by repeat (first | (with_reducible first | exact HB.out | apply bA | apply bN | apply bD | refine bS ?_ GE436.out | refine bS ?_ GE438.out | refine bS ?_ GE452.out | refine bS ?_ GE453.out) | exact HB.out)) hb); clear HO_8; clear HO_35; clear HO_437001; clear HO_453001; clear HO_454001; clear BK436; clear BK438; clear BK452; clear BK453; clear HB; have HO_8 := n0_; have HO_35 := n1_; have HO_437001 := n2_; have HO_453001 := n3_; have HO_454001 := n4_; have BK436 := n5_; have BK438 := n6_; have BK452 := n7_; have BK453 := n8_; have HB := n9_; clear n0_ n1_ n2_ n3_ n4_ n5_ n6_ n7_ n8_ n9_; (try clear hb); (try clear hb2); (try clear hk); (try clear hi)))
                go_meet
                case rel => exact ⟨_, (!t466), (by first | rfl | (simp; done) | (simp [*]; done)), H', ⟨by have := HK1.out; have := HJ30.out; first | omega | exact Nat.le_refl _⟩, ⟨by (with_reducible repeat (first | apply Kd.N_alloc | apply Kd.N_drewN | apply Kd.N_drew)); exact HO_8.out⟩, ⟨by (with_reducible repeat (first | apply Kd.V_alloc | apply Kd.V_drewN | apply Kd.V_drew)); exact HO_35.out⟩, ⟨by (with_reducible repeat (first | apply Kd.V_alloc | apply Kd.V_drewN | apply Kd.V_drew)); exact HO_437001.out⟩, ⟨by (with_reducible repeat (first | apply Kd.V_alloc | apply Kd.V_drewN | apply Kd.V_drew)); exact HO_453001.out⟩, ⟨by (with_reducible repeat (first | apply Kd.R_alloc | apply Kd.R_drewN | apply Kd.R_drew)); exact HO_454001.out⟩, ⟨by (with_reducible repeat (first | refine kN ?_ _ | refine kD ?_ | refine kA ?_ _)); exact BK436.out⟩, ⟨by (with_reducible repeat (first | refine kN ?_ _ | refine kD ?_ | refine kA ?_ _)); exact BK438.out⟩, ⟨by (with_reducible repeat (first | refine kN ?_ _ | refine kD ?_ | refine kA ?_ _)); exact BK452.out⟩, ⟨by (with_reducible repeat (first | refine kN ?_ _ | refine kD ?_ | refine kA ?_ _)); exact BK453.out⟩, ⟨by repeat (first | (with_reducible first | exact HB.out | apply bA | apply bN | apply bD | refine bS ?_ GE436.out | refine bS ?_ GE438.out | refine bS ?_ GE452.out | refine bS ?_ GE453.out) | exact HB.out)⟩⟩
               ·rw [if_neg c71] at H
                have c71b0 : (((rd_T42 l1 x37_1).f0) == 1) = false := beq_eq_false_iff_ne.mpr c71
                have c71b1 : (((rd_T42 l1 x37_1).f0) != 1) = true := bne_iff_ne.mpr c71
                (first | rw [c71b0] | (simp only [i64_w, i32_w]; rw [c71b0]) | skip)
                have H' := aM H
                clear H
                have hnb82 := NB438_436.out
                have hnc82 := NB436_438.out
                have hnb83 := NB438_452.out
                have hnc83 := NB452_438.out
                have hnb84 := NB438_453.out
                have hnc84 := NB453_438.out
                have hcz85_0 : wc.cell? ⟨gb438, 0, none⟩ = some (.int .i64 ((rd_T42 l1 x37_1).f0)) := (blk_cell BK438.out 0).trans rfl
                have hcz85_1 : wc.cell? ⟨gb438, 1, none⟩ = some (.int .i64 ((rd_T42 l1 x37_1).f1)) := (blk_cell BK438.out 1).trans rfl
                have hcz85_2 : wc.cell? ⟨gb438, 2, none⟩ = some (.int .i64 ((rd_T42 l1 x37_1).f2)) := (blk_cell BK438.out 2).trans rfl
                have hcz85_3 : wc.cell? ⟨gb438, 3, none⟩ = some (.slice A437_3 ((rd_T42 l1 x37_1).f3).length c437_3) := (blk_cell BK438.out 3).trans rfl
                have hfz85_0 := blk_frozen BK438.out 0
                have hfz85_1 := blk_frozen BK438.out 1
                have hfz85_2 := blk_frozen BK438.out 2
                have hfz85_3 := blk_frozen BK438.out 3
                go_wp2
                go_meet
                case rel => exact ⟨_, (false), (by first | rfl | (simp; done) | (simp [*]; done)), H', ⟨by have := HK1.out; have := HJ30.out; first | omega | exact Nat.le_refl _⟩, ⟨by (with_reducible repeat (first | apply Kd.N_alloc | apply Kd.N_drewN | apply Kd.N_drew)); exact HO_8.out⟩, ⟨by (with_reducible repeat (first | apply Kd.V_alloc | apply Kd.V_drewN | apply Kd.V_drew)); exact HO_35.out⟩, ⟨by (with_reducible repeat (first | apply Kd.V_alloc | apply Kd.V_drewN | apply Kd.V_drew)); exact HO_437001.out⟩, ⟨by (with_reducible repeat (first | apply Kd.V_alloc | apply Kd.V_drewN | apply Kd.V_drew)); exact HO_453001.out⟩, ⟨by (with_reducible repeat (first | apply Kd.R_alloc | apply Kd.R_drewN | apply Kd.R_drew)); exact HO_454001.out⟩, ⟨by (with_reducible repeat (first | refine kN ?_ _ | refine kD ?_ | refine kA ?_ _)); exact BK436.out⟩, ⟨by (with_reducible repeat (first | refine kN ?_ _ | refine kD ?_ | refine kA ?_ _)); exact BK438.out⟩, ⟨by (with_reducible repeat (first | refine kN ?_ _ | refine kD ?_ | refine kA ?_ _)); exact BK452.out⟩, ⟨by (with_reducible repeat (first | refine kN ?_ _ | refine kD ?_ | refine kA ?_ _)); exact BK453.out⟩, ⟨by repeat (first | (with_reducible first | exact HB.out | apply bA | apply bN | apply bD | refine bS ?_ GE436.out | refine bS ?_ GE438.out | refine bS ?_ GE452.out | refine bS ?_ GE453.out) | exact HB.out)⟩⟩
              case rest =>
               clear HC70
               try clear c1
               try clear p2
               try clear c4
               try clear p4
               try clear q4
               try clear hx4
               try clear qi4
               try clear c5
               try clear c6
               try clear p6
               try clear q6
               try clear c7
               try clear c8
               try clear c43
               try clear p45
               try clear q45
               try clear hx45
               try clear qi45
               try clear c55
               try clear c55b0
               try clear c55b1
               try clear c56
               try clear c56b0
               try clear c56b1
               try clear c57
               try clear c60
               try clear c60b0
               try clear c60b1
               try clear c61
               try clear c61b0
               try clear c61b1
               try clear c62
               try clear c62b0
               try clear c62b1
               try clear c63
               try clear p64
               try clear q68
               try clear c71
               try clear c71b0
               try clear c71b1
               try clear c73
               try clear c74
               try clear c75
               try clear c77
               try clear c78
               try clear c82
               try clear c83
               try clear c84
               try clear hcz76_0
               try clear hcz76_1
               try clear hcz76_2
               try clear hcz76_3
               try clear hcz79_0
               try clear hcz79_1
               try clear hcz85_0
               try clear hcz85_1
               try clear hcz85_2
               try clear hcz85_3
               try clear hfz76_0
               try clear hfz76_1
               try clear hfz76_2
               try clear hfz76_3
               try clear hfz79_0
               try clear hfz79_1
               try clear hfz85_0
               try clear hfz85_1
               try clear hfz85_2
               try clear hfz85_3
               try clear hx454_0
               try clear hx455_0
               try clear hx456_0
               try clear hx457_0
               try clear p2
               try clear p4
               try clear p45
               try clear p454
               try clear p455
               try clear p456
               try clear p457
               try clear p6
               try clear p64
               try clear q4
               try clear q45
               try clear q454
               try clear q455
               try clear q456
               try clear q457
               try clear q6
               try clear q68
               obtain ⟨kq, x110_69, rfl, HA, HJ69, HO_8, HO_35, HO_437001, HO_453001, HO_454001, BK436, BK438, BK452, BK453, HB⟩ := hcut
               cases kq with
               | zero => exact absurd HA.out (by simp [squelchlaw21_PoolSent.j2])
               | succ kj69 =>
                have H := HA.out
                clear HA
                simp only [squelchlaw21_PoolSent.j2] at H
                by_cases c86 : x110_69 = true
                ·subst c86
                 have H1 : (some false) = some r := by rw [if_pos rfl] at H; exact H
                 clear H
                 have H := H1
                 clear H1
                 obtain rfl := Option.some.inj H
                 exact absurd HR_.out (by simp)
                ·replace c86 := Bool.eq_false_iff.mpr c86
                 subst c86
                 have H1 : (squelchlaw21_PoolSent.l1 kj69 true x8_30 l1 (l1.length : Int) x37_1 t441 (t441.length : Int) 0 t440 t441) = some r := by rw [if_neg (show ¬ (false = true) by decide)] at H; exact H
                 clear H
                 have H := H1
                 clear H1
                 have H' := aM H
                 clear H
                 have hnb87 := NB452_436.out
                 have hnc87 := NB436_452.out
                 have hnb88 := NB452_438.out
                 have hnc88 := NB438_452.out
                 have hnb89 := NB452_453.out
                 have hnc89 := NB453_452.out
                 have hcz90_0 : wc.cell? ⟨gb452, 0, none⟩ = some (.int .i64 t440) := (blk_cell BK452.out 0).trans rfl
                 have hcz90_1 : wc.cell? ⟨gb452, 1, none⟩ = some (.slice Ao49 t441.length co49) := (blk_cell BK452.out 1).trans rfl
                 have hfz90_0 := blk_frozen BK452.out 0
                 have hfz90_1 := blk_frozen BK452.out 1
                 go_wp2
                 (try simp only [Act.put, List.setIfInBounds_toArray, List.set_cons_zero, List.set_cons_succ])
                 go_loopg [114] kj69 (fun kq v114 w' => ∃ (x114_4 : Int), v114 = .int .i64 x114_4 ∧ Aside0 (squelchlaw21_PoolSent.l1 kq true x8_30 l1 (l1.length : Int) x37_1 t441 (t441.length : Int) x114_4 t440 t441 = some r) ∧ Aside0 (kq ≤ kj69) ∧ Aside0 (Kd.N k31 31 w' w.heap.size (fun k_ => (P1_ k_ ∨ w.heap.size ≤ k_) ∧ some k_ ≠ ((.slice Ao53 t445.length co53) : Value).ownBlock ∧ k_ ≠ gb436 ∧ k_ ≠ gb438 ∧ k_ ≠ gb452 ∧ k_ ≠ gb453) u8 x8_30) ∧ Aside0 (Kd.V k42 42 w' w.heap.size (fun k_ => (P1_ k_ ∨ w.heap.size ≤ k_) ∧ some k_ ≠ (u8 : Value).ownBlock ∧ some k_ ≠ ((.slice Ao53 t445.length co53) : Value).ownBlock ∧ k_ ≠ gb436 ∧ k_ ≠ gb438 ∧ k_ ≠ gb452 ∧ k_ ≠ gb453) (.slice (some ad437) l1.length c1) l1) ∧ Aside0 (Kd.V k31 31 w' w.heap.size (fun k_ => (P1_ k_ ∨ w.heap.size ≤ k_) ∧ some k_ ≠ (u8 : Value).ownBlock ∧ some k_ ≠ ((.slice Ao53 t445.length co53) : Value).ownBlock ∧ k_ ≠ gb436 ∧ k_ ≠ gb438 ∧ k_ ≠ gb452 ∧ k_ ≠ gb453) (.slice Ao49 t441.length co49) t441) ∧ Aside0 (Kd.V k31 31 w' w.heap.size (fun k_ => (P1_ k_ ∨ w.heap.size ≤ k_) ∧ some k_ ≠ (u8 : Value).ownBlock ∧ some k_ ≠ ((.slice Ao53 t445.length co53) : Value).ownBlock ∧ k_ ≠ gb436 ∧ k_ ≠ gb438 ∧ k_ ≠ gb452 ∧ k_ ≠ gb453) (.slice Ao38 x437001_1.length co38) x437001_1) ∧ Aside0 (Kd.V k31 31 w' w.heap.size (fun k_ => (P1_ k_ ∨ w.heap.size ≤ k_) ∧ some k_ ≠ (u8 : Value).ownBlock ∧ some k_ ≠ ((.slice Ao53 t445.length co53) : Value).ownBlock ∧ k_ ≠ gb436 ∧ k_ ≠ gb438 ∧ k_ ≠ gb452 ∧ k_ ≠ gb453) (.slice Ao49 t441.length co49) t441) ∧ Aside0 (Kd.R (Kd.int .u8) 5 w' w.heap.size (fun k_ => (w.heap.size ≤ k_)) (.slice Ao53 t445.length co53) t445) ∧ Aside0 (w'.heap[gb436]? = some (.cells #[.int .i64 x437000_1, (.slice Ao38 x437001_1.length co38)] 24 (0, 0))) ∧ Aside0 (w'.heap[gb438]? = some (.cells #[.int .i64 ((rd_T42 l1 x37_1).f0), .int .i64 ((rd_T42 l1 x37_1).f1), .int .i64 ((rd_T42 l1 x37_1).f2), (.slice A437_3 ((rd_T42 l1 x37_1).f3).length c437_3)] 42 (0, 0))) ∧ Aside0 (w'.heap[gb452]? = some (.cells #[.int .i64 t440, (.slice Ao49 t441.length co49)] 24 (0, 0))) ∧ Aside0 (w'.heap[gb453]? = some (.cells #[.int .i64 t444, (.slice Ao53 t445.length co53)] 31 (0, 0))) ∧ Aside0 (Below w.heap.size w w'))
                 case atStart => exact ⟨(0), (by first | rfl | (simp; done) | (simp [*]; done)), H', ⟨Nat.le_refl _⟩, ⟨by (with_reducible repeat (first | apply Kd.N_alloc | apply Kd.N_drewN | apply Kd.N_drew)); exact HO_8.out⟩, ⟨by (with_reducible repeat (first | apply Kd.V_alloc | apply Kd.V_drewN | apply Kd.V_drew)); exact HO_35.out⟩, ⟨by (with_reducible repeat (first | apply Kd.V_alloc | apply Kd.V_drewN | apply Kd.V_drew)); exact HO_453001.out⟩, ⟨by (with_reducible repeat (first | apply Kd.V_alloc | apply Kd.V_drewN | apply Kd.V_drew)); exact HO_437001.out⟩, ⟨by (with_reducible repeat (first | apply Kd.V_alloc | apply Kd.V_drewN | apply Kd.V_drew)); exact HO_453001.out⟩, ⟨by (with_reducible repeat (first | apply Kd.R_alloc | apply Kd.R_drewN | apply Kd.R_drew)); exact HO_454001.out⟩, ⟨by (with_reducible repeat (first | refine kN ?_ _ | refine kD ?_ | refine kA ?_ _)); exact BK436.out⟩, ⟨by (with_reducible repeat (first | refine kN ?_ _ | refine kD ?_ | refine kA ?_ _)); exact BK438.out⟩, ⟨by (with_reducible repeat (first | refine kN ?_ _ | refine kD ?_ | refine kA ?_ _)); exact BK452.out⟩, ⟨by (with_reducible repeat (first | refine kN ?_ _ | refine kD ?_ | refine kA ?_ _)); exact BK453.out⟩, ⟨by repeat (first | (with_reducible first | exact HB.out | apply bA | apply bN | apply bD | refine bS ?_ GE436.out | refine bS ?_ GE438.out | refine bS ?_ GE452.out | refine bS ?_ GE453.out) | exact HB.out)⟩⟩
                 case round =>
                  clear H'
                  try clear c1
                  try clear p2
                  try clear c4
                  try clear p4
                  try clear q4
                  try clear hx4
                  try clear qi4
                  try clear c5
                  try clear c6
                  try clear p6
                  try clear q6
                  try clear c7
                  try clear c8
                  try clear c43
                  try clear p45
                  try clear q45
                  try clear hx45
                  try clear qi45
                  try clear c55
                  try clear c55b0
                  try clear c55b1
                  try clear c56
                  try clear c56b0
                  try clear c56b1
                  try clear c57
                  try clear c60
                  try clear c60b0
                  try clear c60b1
                  try clear c61
                  try clear c61b0
                  try clear c61b1
                  try clear c62
                  try clear c62b0
                  try clear c62b1
                  try clear c63
                  try clear p64
                  try clear q68
                  try clear c71
                  try clear c71b0
                  try clear c71b1
                  try clear c73
                  try clear c74
                  try clear c75
                  try clear c77
                  try clear c78
                  try clear c82
                  try clear c83
                  try clear c84
                  try clear c86
                  try clear c87
                  try clear c88
                  try clear c89
                  try clear hcz76_0
                  try clear hcz76_1
                  try clear hcz76_2
                  try clear hcz76_3
                  try clear hcz79_0
                  try clear hcz79_1
                  try clear hcz85_0
                  try clear hcz85_1
                  try clear hcz85_2
                  try clear hcz85_3
                  try clear hcz90_0
                  try clear hcz90_1
                  try clear hfz76_0
                  try clear hfz76_1
                  try clear hfz76_2
                  try clear hfz76_3
                  try clear hfz79_0
                  try clear hfz79_1
                  try clear hfz85_0
                  try clear hfz85_1
                  try clear hfz85_2
                  try clear hfz85_3
                  try clear hfz90_0
                  try clear hfz90_1
                  try clear hx454_0
                  try clear hx455_0
                  try clear hx456_0
                  try clear hx457_0
                  try clear p2
                  try clear p4
                  try clear p45
                  try clear p454
                  try clear p455
                  try clear p456
                  try clear p457
                  try clear p6
                  try clear p64
                  try clear q4
                  try clear q45
                  try clear q454
                  try clear q455
                  try clear q456
                  try clear q457
                  try clear q6
                  try clear q68
                  obtain ⟨x114_4, rfl, HA, HK4, HO_8, HO_35, HO_112, HO_437001, HO_453001, HO_454001, BK436, BK438, BK452, BK453, HB⟩ := hrel
                  cases gk with
                  | zero => exact absurd HA.out (by simp [squelchlaw21_PoolSent.l1])
                  | succ k4 =>
                   have H := HA.out
                   clear HA
                   simp only [squelchlaw21_PoolSent.l1] at H
                   by_cases c91 : x114_4 < (t441.length : Int)
                   ·rw [if_pos c91] at H
                    have c91b0 : decide (x114_4 < (t441.length : Int)) = true := decide_eq_true c91
                    clear c91
                    by_cases c92 : 0 ≤ x114_4
                    ·rw [if_pos c92] at H
                     have c92b0 : decide (0 ≤ x114_4) = true := decide_eq_true c92
                     clear c92
                     by_cases c93 : x114_4 < (t441.length : Int)
                     ·rw [if_pos c93] at H
                      have c93b0 : decide (x114_4 < (t441.length : Int)) = true := decide_eq_true c93
                      clear c93
                      replace H := Option.bind_eq_some_iff.mp H
                      obtain ⟨t469, A940, H⟩ := H
                      replace H : (if t469 = true then (squelchlaw21_PoolSent.l1 k4 true x8_30 l1 (l1.length : Int) x37_1 t441 (t441.length : Int) (wrap64 (x114_4 + 1)) t440 t441) else (some false)) = some r := H
                      have A94 := aM A940
                      clear A940
                      by_cases c95 : t469 = true
                      ·subst c95
                       have H1 : (squelchlaw21_PoolSent.l1 k4 true x8_30 l1 (l1.length : Int) x37_1 t441 (t441.length : Int) (wrap64 (x114_4 + 1)) t440 t441) = some r := by rw [if_pos rfl] at H; exact H
                       clear H
                       have H := H1
                       clear H1
                       have H' := aM H
                       clear H
                       have p467 : 0 ≤ (x114_4 : Int) := of_decide_eq_true (by first | (with_reducible assumption) | assumption)
                       have q467 : x114_4 < (t441.length : Int) := of_decide_eq_true (by first | (with_reducible assumption) | assumption)
                       obtain ⟨ad467, A467_1, c467_1, e467, hx467_0, hx467_1, hl467_1, hi467_1⟩ := at_T31 (Kd.V_reads' HO_112.out).2.2 x114_4 p467 q467
                       cases e467
                       obtain ⟨ce467, hce467, hMe467, hcc467⟩ := Kd.V_get HO_112.out z31 x114_4 p467 (by first | exact q467 | exact of_decide_eq_true (by first | (with_reducible assumption) | assumption) | (have e_ := (Kd.V_reads' HO_112.out).1; omega))
                       obtain ⟨ua467_1, uc467_1, rfl, ul467_1, ge467_1⟩ := k31_openF hMe467
                       have hv467_1 := hcc467 1 _ rfl
                       rw [add_field _ _ 1 (by omega)] at hv467_1
                       replace hv467_1 := Option.some.inj (hv467_1.symm.trans hx467_1)
                       injection hv467_1 with hva_ hvn_ hvc_
                       rw [hva_] at ge467_1
                       rw [hvc_] at ul467_1
                       have HL467_1 := aM (show Kd.V (Kd.int .u8) 5 _ w.heap.size _ _ ((rd_T31 t441 x114_4).f1) from Kd.V_mk ul467_1 ge467_1)
                       clear hva_ hvn_ hvc_ ge467_1 ul467_1
                       clear hcc467 hce467
                       have HR467_1 := aM hi467_1
                       have HC467_1 := aM hl467_1
                       clear hi467_1 hl467_1
                       replace p467 := eq_true p467
                       replace q467 := eq_true q467
                       go_wp2_with (first | ((with_reducible refine gate_dst (N := 16) rfl ?_); (try (refine gate_guard (by rfl) ?_; dsimp only)); refine box_event ?hg (N := 16) ?hd (cs := #[.int .i64 0, .slice none 0 0]) (t := 31) ?hr ?_; (case hd => rfl); (case hg => rfl); (case hr => first | (go_simp; done) | (go_simp; rfl)); intro gb468 hg w96 hbox hb; have n0_ := aM (Kd.N_below (Kd.N_elderB (by (with_reducible repeat (first | apply Kd.N_alloc | apply Kd.N_drewN | apply Kd.N_drew)); exact HO_8.out) gb468 (Nat.le_of_eq hg.symm)) hb); have n1_ := aM (Kd.V_below (Kd.V_elderB (by (with_reducible repeat (first | apply Kd.V_alloc | apply Kd.V_drewN | apply Kd.V_drew)); exact HO_35.out) gb468 (Nat.le_of_eq hg.symm)) hb); have n2_ := aM (Kd.V_below (Kd.V_elderB (by (with_reducible repeat (first | apply Kd.V_alloc | apply Kd.V_drewN | apply Kd.V_drew)); exact HO_112.out) gb468 (Nat.le_of_eq hg.symm)) hb); have n3_ := aM (Kd.V_below (Kd.V_elderB (by (with_reducible repeat (first | apply Kd.V_alloc | apply Kd.V_drewN | apply Kd.V_drew)); exact HO_437001.out) gb468 (Nat.le_of_eq hg.symm)) hb); have n4_ := aM (Kd.V_below (Kd.V_elderB (by (with_reducible repeat (first | apply Kd.V_alloc | apply Kd.V_drewN | apply Kd.V_drew)); exact HO_453001.out) gb468 (Nat.le_of_eq hg.symm)) hb); have n5_ := aM (Kd.R_below (by (with_reducible repeat (first | apply Kd.R_alloc | apply Kd.R_drewN | apply Kd.R_drew)); exact HO_454001.out) hb); have n6_ := aM (Kd.V_below (Kd.V_elderB (by (with_reducible repeat (first | apply Kd.V_alloc | apply Kd.V_drewN | apply Kd.V_drew)); exact HL467_1.out) gb468 (Nat.le_of_eq hg.symm)) hb); have n7_ := aM (blk_below (g := gb436) (o := .cells #[.int .i64 x437000_1, .slice Ao38 x437001_1.length co38] 24 (0, 0)) (by (with_reducible repeat (first | refine kN ?_ _ | refine kD ?_ | refine kA ?_ _)); exact BK436.out) hb); have n8_ := aM (blk_below (g := gb438) (o := .cells #[.int .i64 ((rd_T42 l1 x37_1).f0), .int .i64 ((rd_T42 l1 x37_1).f1), .int .i64 ((rd_T42 l1 x37_1).f2), .slice A437_3 ((rd_T42 l1 x37_1).f3).length c437_3] 42 (0, 0)) (by (with_reducible repeat (first | refine kN ?_ _ | refine kD ?_ | refine kA ?_ _)); exact BK438.out) hb); have n9_ := aM (blk_below (g := gb452) (o := .cells #[.int .i64 t440, .slice (some ad467) t441.length co49] 24 (0, 0)) (by (with_reducible repeat (first | refine kN ?_ _ | refine kD ?_ | refine kA ?_ _)); exact BK452.out) hb); have n10_ := aM (blk_below (g := gb453) (o := .cells #[.int .i64 t444, .slice Ao53 t445.length co53] 31 (0, 0)) (by (with_reducible repeat (first | refine kN ?_ _ | refine kD ?_ | refine kA ?_ _)); exact BK453.out) hb); have n11_ := aM (Kd.C_below (by repeat (first | (with_reducible exact HR467_1.out) | (with_reducible refine Kd.C_alloc ?_ _) | (with_reducible refine Kd.C_drewN ?_ _) | (with_reducible refine Kd.C_drew ?_) | exact HR467_1.out)) hb); have n12_ := aM (below_step (by repeat (first | (with_reducible first | exact HB.out | apply bA | apply bN | apply bD | refine bS ?_ GE436.out | refine bS ?_ GE438.out | refine bS ?_ GE452.out | refine bS ?_ GE453.out) | exact HB.out)) hb); have n13_ := aM (hbox); have n14_ := aM ((by rw [hg]; exact (below_size (by repeat (first | (with_reducible first | exact HB.out | apply bA | apply bN | apply bD | refine bS ?_ GE436.out | refine bS ?_ GE438.out | refine bS ?_ GE452.out | refine bS ?_ GE453.out) | exact HB.out))) : w.heap.size ≤ gb468)); have n15_ := aM ((by rw [hg]; exact (below_size (by repeat (first | (with_reducible first | exact HB.out | apply bA | apply bN | apply bD | refine bS ?_ GE436.out | refine bS ?_ GE438.out | refine bS ?_ GE452.out | refine bS ?_ GE453.out) | exact HB.out))) : w.heap.size ≤ gb468)); have n16_ := aM ((by rw [hg]; exact Nat.ne_of_lt (blk_lt (g := gb436) (o := .cells #[.int .i64 x437000_1, .slice Ao38 x437001_1.length co38] 24 (0, 0)) (by (with_reducible repeat (first | refine kN ?_ _ | refine kD ?_ | refine kA ?_ _)); exact BK436.out)) : gb436 ≠ gb468)); have n17_ := aM ((by rw [hg]; exact Nat.ne_of_gt (blk_lt (g := gb436) (o := .cells #[.int .i64 x437000_1, .slice Ao38 x437001_1.length co38] 24 (0, 0)) (by (with_reducible repeat (first | refine kN ?_ _ | refine kD ?_ | refine kA ?_ _)); exact BK436.out)) : gb468 ≠ gb436)); have n18_ := aM ((by rw [hg]; exact Nat.ne_of_lt (blk_lt (g := gb438) (o := .cells #[.int .i64 ((rd_T42 l1 x37_1).f0), .int .i64 ((rd_T42 l1 x37_1).f1), .int .i64 ((rd_T42 l1 x37_1).f2), .slice A437_3 ((rd_T42 l1 x37_1).f3).length c437_3] 42 (0, 0)) (by (with_reducible repeat (first | refine kN ?_ _ | refine kD ?_ | refine kA ?_ _)); exact BK438.out)) : gb438 ≠ gb468)); have n19_ := aM ((by rw [hg]; exact Nat.ne_of_gt (blk_lt (g := gb438) (o := .cells #[.int .i64 ((rd_T42 l1 x37_1).f0), .int .i64 ((rd_T42 l1 x37_1).f1), .int .i64 ((rd_T42 l1 x37_1).f2), .slice A437_3 ((rd_T42 l1 x37_1).f3).length c437_3] 42 (0, 0)) (by (with_reducible repeat (first | refine kN ?_ _ | refine kD ?_ | refine kA ?_ _)); exact BK438.out)) : gb468 ≠ gb438)); have n20_ := aM ((by rw [hg]; exact Nat.ne_of_lt (blk_lt (g := gb452) (o := .cells #[.int .i64 t440, .slice (some ad467) t441.length co49] 24 (0, 0)) (by (with_reducible repeat (first | refine kN ?_ _ | refine kD ?_ | refine kA ?_ _)); exact BK452.out)) : gb452 ≠ gb468)); have n21_ := aM ((by rw [hg]; exact Nat.ne_of_gt (blk_lt (g := gb452) (o := .cells #[.int .i64 t440, .slice (some ad467) t441.length co49] 24 (0, 0)) (by (with_reducible repeat (first | refine kN ?_ _ | refine kD ?_ | refine kA ?_ _)); exact BK452.out)) : gb468 ≠ gb452)); have n22_ := aM ((by rw [hg]; exact Nat.ne_of_lt (blk_lt (g := gb453) (o := .cells #[.int .i64 t444, .slice Ao53 t445.length co53] 31 (0, 0)) (by (with_reducible repeat (first | refine kN ?_ _ | refine kD ?_ | refine kA ?_ _)); exact BK453.out)) : gb453 ≠ gb468)); have n23_ := aM ((by rw [hg]; exact Nat.ne_of_gt (blk_lt (g := gb453) (o := .cells #[.int .i64 t444, .slice Ao53 t445.length co53] 31 (0, 0)) (by (with_reducible repeat (first | refine kN ?_ _ | refine kD ?_ | refine kA ?_ _)); exact BK453.out)) : gb468 ≠ gb453)); clear HO_8; clear HO_35; clear HO_112; clear HO_437001; clear HO_453001; clear HO_454001; clear HL467_1; clear BK436; clear BK438; clear BK452; clear BK453; clear HR467_1; clear HB; have HO_8 := n0_; have HO_35 := n1_; have HO_112 := n2_; have HO_437001 := n3_; have HO_453001 := n4_; have HO_454001 := n5_; have HL467_1 := n6_; have BK436 := n7_; have BK438 := n8_; have BK452 := n9_; have BK453 := n10_; have HR467_1 := n11_; have HB := n12_; have BK468 := n13_; have GW468 := n14_; have GE468 := n15_; have NB436_468 := n16_; have NB468_436 := n17_; have NB438_468 := n18_; have NB468_438 := n19_; have NB452_468 := n20_; have NB468_452 := n21_; have NB453_468 := n22_; have NB468_453 := n23_; clear n0_ n1_ n2_ n3_ n4_ n5_ n6_ n7_ n8_ n9_ n10_ n11_ n12_ n13_ n14_ n15_ n16_ n17_ n18_ n19_ n20_ n21_ n22_ n23_; clear hb hbox hg; have hnb97 := NB468_436.out; have hnc97 := NB436_468.out; have hnb98 := NB468_438.out; have hnc98 := NB438_468.out; have hnb99 := NB468_452.out; have hnc99 := NB452_468.out; have hnb100 := NB468_453.out; have hnc100 := NB453_468.out; have hcz101_0 : w96.cell? ⟨gb468, 0, none⟩ = some (.int .i64 0) := (blk_cell BK468.out 0).trans rfl; have hcz101_1 : w96.cell? ⟨gb468, 1, none⟩ = some (.slice none 0 0) := (blk_cell BK468.out 1).trans rfl; have hfz101_0 := blk_frozen BK468.out 0; have hfz101_1 := blk_frozen BK468.out 1; obtain ⟨Ao102, co102, eo102⟩ := Kd.N_slice HO_8.out; subst eo102) | ((with_reducible refine gate_callee (f := 15) rfl ?_); refine goesL_ (some 120) rfl rfl Try.func15 (by kernel_rfl) rfl #[.slice Ao102 x8_30.length co102, .agg #[.int .i64 ((rd_T31 t441 x114_4).f0), .slice A467_1 ((rd_T31 t441 x114_4).f1).length c467_1]] rfl (by (try simp only [List.map_toArray, List.map_cons, List.map_nil]); first | done | rfl | (simp only [List.length_drop, List.length_take]; rfl)) ?_; (with_reducible refine (squelchlaw21_among.calls k4 _ _ x8_30 ((rd_T31 t441 x114_4).f0) _ _ ((rd_T31 t441 x114_4).f1) true _ ?side1 ?side2 ?side3 ?side4 A94.out).mono ?_); (case side1 => refine (Kd.N_reads' (e := 31) (base := w.heap.size) (ok := fun k_ => ((((P1_ k_ ∨ w.heap.size ≤ k_)) ∧ (some k_ ≠ (.slice Ao53 t445.length co53 : Value).ownBlock ∧ (k_ ≠ gb436 ∧ (k_ ≠ gb438 ∧ (k_ ≠ gb452 ∧ k_ ≠ gb453))))) ∧ k_ ≠ gb468)) (n := x8_30.length) (c := co102) ?_).2.2; exact (by (with_reducible repeat (first | apply Kd.N_alloc | apply Kd.N_drewN | apply Kd.N_drew)); exact (Kd.N_mono (Kd.N_far (p := ⟨gb468, 1, none⟩) (Kd.N_far (p := ⟨gb468, 0, none⟩) (Kd.N_mono HO_8.out (fun k_ hk => (⟨hk, hk.2⟩ : _ ∧ k_ ≠ gb468))) (fun _ hk => hk.2) (.int .i64 ((rd_T31 t441 x114_4).f0))) (fun _ hk => hk.2) (.slice A467_1 ((rd_T31 t441 x114_4).f1).length c467_1)) (fun _ h_ => h_.1)))); (case side2 => exact (Kd.N_reads' HO_8.out).2.1); (case side3 => repeat (first | exact ((Kd.V_reads' (by (with_reducible repeat (first | apply Kd.V_alloc | apply Kd.V_drewN | apply Kd.V_drew)); exact (Kd.V_mono (Kd.V_far (p := ⟨gb468, 1, none⟩) (Kd.V_far (p := ⟨gb468, 0, none⟩) (Kd.V_mono HL467_1.out (fun k_ hk => (⟨hk, hk.2⟩ : _ ∧ k_ ≠ gb468))) (fun _ hk => hk.2) (.int .i64 ((rd_T31 t441 x114_4).f0))) (fun _ hk => hk.2) (.slice A467_1 ((rd_T31 t441 x114_4).f1).length c467_1)) (fun _ h_ => h_.1)))).2.2) | (with_reducible refine Kd.C_alloc ?_ _) | (with_reducible refine Kd.C_drewN ?_ _) | (with_reducible refine Kd.C_drew ?_))); (case side4 => exact HC467_1.out); rintro e w103 ⟨rfl, hb⟩; refine ⟨_, rfl, ?_⟩; have n0_ := aM (Kd.N_below (by (with_reducible repeat (first | apply Kd.N_alloc | apply Kd.N_drewN | apply Kd.N_drew)); exact (Kd.N_mono (Kd.N_far (p := ⟨gb468, 1, none⟩) (Kd.N_far (p := ⟨gb468, 0, none⟩) (Kd.N_mono HO_8.out (fun k_ hk => (⟨hk, hk.2⟩ : _ ∧ k_ ≠ gb468))) (fun _ hk => hk.2) (.int .i64 ((rd_T31 t441 x114_4).f0))) (fun _ hk => hk.2) (.slice A467_1 ((rd_T31 t441 x114_4).f1).length c467_1)) (fun _ h_ => h_.1))) hb); have n1_ := aM (Kd.V_below (by (with_reducible repeat (first | apply Kd.V_alloc | apply Kd.V_drewN | apply Kd.V_drew)); exact (Kd.V_mono (Kd.V_far (p := ⟨gb468, 1, none⟩) (Kd.V_far (p := ⟨gb468, 0, none⟩) (Kd.V_mono HO_35.out (fun k_ hk => (⟨hk, hk.2⟩ : _ ∧ k_ ≠ gb468))) (fun _ hk => hk.2) (.int .i64 ((rd_T31 t441 x114_4).f0))) (fun _ hk => hk.2) (.slice A467_1 ((rd_T31 t441 x114_4).f1).length c467_1)) (fun _ h_ => h_.1))) hb); have n2_ := aM (Kd.V_below (by (with_reducible repeat (first | apply Kd.V_alloc | apply Kd.V_drewN | apply Kd.V_drew)); exact (Kd.V_mono (Kd.V_far (p := ⟨gb468, 1, none⟩) (Kd.V_far (p := ⟨gb468, 0, none⟩) (Kd.V_mono HO_112.out (fun k_ hk => (⟨hk, hk.2⟩ : _ ∧ k_ ≠ gb468))) (fun _ hk => hk.2) (.int .i64 ((rd_T31 t441 x114_4).f0))) (fun _ hk => hk.2) (.slice A467_1 ((rd_T31 t441 x114_4).f1).length c467_1)) (fun _ h_ => h_.1))) hb); have n3_ := aM (Kd.V_below (by (with_reducible repeat (first | apply Kd.V_alloc | apply Kd.V_drewN | apply Kd.V_drew)); exact (Kd.V_mono (Kd.V_far (p := ⟨gb468, 1, none⟩) (Kd.V_far (p := ⟨gb468, 0, none⟩) (Kd.V_mono HO_437001.out (fun k_ hk => (⟨hk, hk.2⟩ : _ ∧ k_ ≠ gb468))) (fun _ hk => hk.2) (.int .i64 ((rd_T31 t441 x114_4).f0))) (fun _ hk => hk.2) (.slice A467_1 ((rd_T31 t441 x114_4).f1).length c467_1)) (fun _ h_ => h_.1))) hb); have n4_ := aM (Kd.V_below (by (with_reducible repeat (first | apply Kd.V_alloc | apply Kd.V_drewN | apply Kd.V_drew)); exact (Kd.V_mono (Kd.V_far (p := ⟨gb468, 1, none⟩) (Kd.V_far (p := ⟨gb468, 0, none⟩) (Kd.V_mono HO_453001.out (fun k_ hk => (⟨hk, hk.2⟩ : _ ∧ k_ ≠ gb468))) (fun _ hk => hk.2) (.int .i64 ((rd_T31 t441 x114_4).f0))) (fun _ hk => hk.2) (.slice A467_1 ((rd_T31 t441 x114_4).f1).length c467_1)) (fun _ h_ => h_.1))) hb); have n5_ := aM (Kd.R_below (by (with_reducible repeat (first | apply Kd.R_alloc | apply Kd.R_drewN | apply Kd.R_drew)); exact (Kd.R_mono (Kd.R_far (p := ⟨gb468, 1, none⟩) (Kd.R_far (p := ⟨gb468, 0, none⟩) (Kd.R_types HO_454001.out BK468.out (by decide)) (fun _ hk => hk.2) (.int .i64 ((rd_T31 t441 x114_4).f0))) (fun _ hk => hk.2) (.slice A467_1 ((rd_T31 t441 x114_4).f1).length c467_1)) (fun _ h_ => h_.1))) hb); have n6_ := aM (Kd.V_below (by (with_reducible repeat (first | apply Kd.V_alloc | apply Kd.V_drewN | apply Kd.V_drew)); exact (Kd.V_mono (Kd.V_far (p := ⟨gb468, 1, none⟩) (Kd.V_far (p := ⟨gb468, 0, none⟩) (Kd.V_mono HL467_1.out (fun k_ hk => (⟨hk, hk.2⟩ : _ ∧ k_ ≠ gb468))) (fun _ hk => hk.2) (.int .i64 ((rd_T31 t441 x114_4).f0))) (fun _ hk => hk.2) (.slice A467_1 ((rd_T31 t441 x114_4).f1).length c467_1)) (fun _ h_ => h_.1))) hb); have n7_ := aM (blk_below (g := gb436) (o := .cells #[.int .i64 x437000_1, .slice Ao38 x437001_1.length co38] 24 (0, 0)) (by (with_reducible repeat (first | refine kN ?_ _ | refine kD ?_ | refine kA ?_ _)); refine blk_far ?_ NB436_468.out _; (with_reducible repeat (first | refine kN ?_ _ | refine kD ?_ | refine kA ?_ _)); refine blk_far ?_ NB436_468.out _; (with_reducible repeat (first | refine kN ?_ _ | refine kD ?_ | refine kA ?_ _)); exact BK436.out) hb); have n8_ := aM (blk_below (g := gb438) (o := .cells #[.int .i64 ((rd_T42 l1 x37_1).f0), .int .i64 ((rd_T42 l1 x37_1).f1), .int .i64 ((rd_T42 l1 x37_1).f2), .slice A437_3 ((rd_T42 l1 x37_1).f3).length c437_3] 42 (0, 0)) (by (with_reducible repeat (first | refine kN ?_ _ | refine kD ?_ | refine kA ?_ _)); refine blk_far ?_ NB438_468.out _; (with_reducible repeat (first | refine kN ?_ _ | refine kD ?_ | refine kA ?_ _)); refine blk_far ?_ NB438_468.out _; (with_reducible repeat (first | refine kN ?_ _ | refine kD ?_ | refine kA ?_ _)); exact BK438.out) hb); have n9_ := aM (blk_below (g := gb452) (o := .cells #[.int .i64 t440, .slice (some ad467) t441.length co49] 24 (0, 0)) (by (with_reducible repeat (first | refine kN ?_ _ | refine kD ?_ | refine kA ?_ _)); refine blk_far ?_ NB452_468.out _; (with_reducible repeat (first | refine kN ?_ _ | refine kD ?_ | refine kA ?_ _)); refine blk_far ?_ NB452_468.out _; (with_reducible repeat (first | refine kN ?_ _ | refine kD ?_ | refine kA ?_ _)); exact BK452.out) hb); have n10_ := aM (blk_below (g := gb453) (o := .cells #[.int .i64 t444, .slice Ao53 t445.length co53] 31 (0, 0)) (by (with_reducible repeat (first | refine kN ?_ _ | refine kD ?_ | refine kA ?_ _)); refine blk_far ?_ NB453_468.out _; (with_reducible repeat (first | refine kN ?_ _ | refine kD ?_ | refine kA ?_ _)); refine blk_far ?_ NB453_468.out _; (with_reducible repeat (first | refine kN ?_ _ | refine kD ?_ | refine kA ?_ _)); exact BK453.out) hb); have n11_ := aM (Kd.C_below ((Kd.V_reads' (by (with_reducible repeat (first | apply Kd.V_alloc | apply Kd.V_drewN | apply Kd.V_drew)); exact (Kd.V_mono (Kd.V_far (p := ⟨gb468, 1, none⟩) (Kd.V_far (p := ⟨gb468, 0, none⟩) (Kd.V_mono HL467_1.out (fun k_ hk => (⟨hk, hk.2⟩ : _ ∧ k_ ≠ gb468))) (fun _ hk => hk.2) (.int .i64 ((rd_T31 t441 x114_4).f0))) (fun _ hk => hk.2) (.slice A467_1 ((rd_T31 t441 x114_4).f1).length c467_1)) (fun _ h_ => h_.1)))).2.2) hb); have n12_ := aM (blk_below (g := gb468) (o := .cells #[.int .i64 ((rd_T31 t441 x114_4).f0), .slice A467_1 ((rd_T31 t441 x114_4).f1).length c467_1] 31 (0, 0)) (by (with_reducible repeat (first | refine kN ?_ _ | refine kD ?_ | refine kA ?_ _)); refine blk_put (cs := #[.int .i64 ((rd_T31 t441 x114_4).f0), .slice none 0 0]) ?_ 1 _ rfl; (with_reducible repeat (first | refine kN ?_ _ | refine kD ?_ | refine kA ?_ _)); refine blk_put (cs := #[.int .i64 0, .slice none 0 0]) ?_ 0 _ rfl; (with_reducible repeat (first | refine kN ?_ _ | refine kD ?_ | refine kA ?_ _)); exact BK468.out) hb); have n13_ := aM (below_step (by repeat (first | (with_reducible first | exact HB.out | apply bA | apply bN | apply bD | refine bS ?_ GE436.out | refine bS ?_ GE438.out | refine bS ?_ GE452.out | refine bS ?_ GE453.out | refine bS ?_ GE468.out) | exact HB.out)) hb); clear HO_8; clear HO_35; clear HO_112; clear HO_437001; clear HO_453001; clear HO_454001; clear HL467_1; clear BK436; clear BK438; clear BK452; clear BK453; clear HR467_1; clear BK468; clear HB; have HO_8 := n0_; have HO_35 := n1_; have HO_112 := n2_; have HO_437001 := n3_; have HO_453001 := n4_; have HO_454001 := n5_; have HL467_1 := n6_; have BK436 := n7_; have BK438 := n8_; have BK452 := n9_; have BK453 := n10_; have HR467_1 := n11_; have BK468 := n12_; have HB := n13_; clear n0_ n1_ n2_ n3_ n4_ n5_ n6_ n7_ n8_ n9_ n10_ n11_ n12_ n13_; (try clear hb); (try clear hb2); (try clear hk); (try clear hi)))
                       go_roundg k4
                       case measure => have := HK1.out; have := HJ30.out; have := HJ69.out; have := HK4.out; omega
                       case rel => exact ⟨(wrap64 (x114_4 + 1)), (by first | rfl | (simp; done) | (simp [*]; done)), H', ⟨by have := HK1.out; have := HJ30.out; have := HJ69.out; have := HK4.out; omega⟩, ⟨by (with_reducible repeat (first | apply Kd.N_alloc | apply Kd.N_drewN | apply Kd.N_drew)); exact Kd.N_mono HO_8.out (fun _ hk => ⟨hk.1.1, ⟨hk.1.2.1, ⟨hk.1.2.2.1, ⟨hk.1.2.2.2.1, ⟨hk.1.2.2.2.2.1, hk.1.2.2.2.2.2⟩⟩⟩⟩⟩)⟩, ⟨by (with_reducible repeat (first | apply Kd.V_alloc | apply Kd.V_drewN | apply Kd.V_drew)); exact Kd.V_mono HO_35.out (fun _ hk => ⟨hk.1.1, ⟨hk.1.2.1, ⟨hk.1.2.2.1, ⟨hk.1.2.2.2.1, ⟨hk.1.2.2.2.2.1, ⟨hk.1.2.2.2.2.2.1, hk.1.2.2.2.2.2.2⟩⟩⟩⟩⟩⟩)⟩, ⟨by (with_reducible repeat (first | apply Kd.V_alloc | apply Kd.V_drewN | apply Kd.V_drew)); exact Kd.V_mono HO_112.out (fun _ hk => ⟨hk.1.1, ⟨hk.1.2.1, ⟨hk.1.2.2.1, ⟨hk.1.2.2.2.1, ⟨hk.1.2.2.2.2.1, ⟨hk.1.2.2.2.2.2.1, hk.1.2.2.2.2.2.2⟩⟩⟩⟩⟩⟩)⟩, ⟨by (with_reducible repeat (first | apply Kd.V_alloc | apply Kd.V_drewN | apply Kd.V_drew)); exact Kd.V_mono HO_437001.out (fun _ hk => ⟨hk.1.1, ⟨hk.1.2.1, ⟨hk.1.2.2.1, ⟨hk.1.2.2.2.1, ⟨hk.1.2.2.2.2.1, ⟨hk.1.2.2.2.2.2.1, hk.1.2.2.2.2.2.2⟩⟩⟩⟩⟩⟩)⟩, ⟨by (with_reducible repeat (first | apply Kd.V_alloc | apply Kd.V_drewN | apply Kd.V_drew)); exact Kd.V_mono HO_453001.out (fun _ hk => ⟨hk.1.1, ⟨hk.1.2.1, ⟨hk.1.2.2.1, ⟨hk.1.2.2.2.1, ⟨hk.1.2.2.2.2.1, ⟨hk.1.2.2.2.2.2.1, hk.1.2.2.2.2.2.2⟩⟩⟩⟩⟩⟩)⟩, ⟨by (with_reducible repeat (first | apply Kd.R_alloc | apply Kd.R_drewN | apply Kd.R_drew)); exact HO_454001.out⟩, ⟨by (with_reducible repeat (first | refine kN ?_ _ | refine kD ?_ | refine kA ?_ _)); exact BK436.out⟩, ⟨by (with_reducible repeat (first | refine kN ?_ _ | refine kD ?_ | refine kA ?_ _)); exact BK438.out⟩, ⟨by (with_reducible repeat (first | refine kN ?_ _ | refine kD ?_ | refine kA ?_ _)); exact BK452.out⟩, ⟨by (with_reducible repeat (first | refine kN ?_ _ | refine kD ?_ | refine kA ?_ _)); exact BK453.out⟩, ⟨by repeat (first | (with_reducible first | exact HB.out | apply bA | apply bN | apply bD | refine bS ?_ GE436.out | refine bS ?_ GE438.out | refine bS ?_ GE452.out | refine bS ?_ GE453.out | refine bS ?_ GE468.out) | exact HB.out)⟩⟩
                      ·replace c95 := Bool.eq_false_iff.mpr c95
                       subst c95
                       have H1 : (some false) = some r := by rw [if_neg (show ¬ (false = true) by decide)] at H; exact H
                       clear H
                       have H := H1
                       clear H1
                       obtain rfl := Option.some.inj H
                       exact absurd HR_.out (by simp)
                     ·rw [if_neg c93] at H
                      exact absurd H (by simp)
                    ·rw [if_neg c92] at H
                     exact absurd H (by simp)
                   ·rw [if_neg c91] at H
                    have c91b0 : decide (x114_4 < (t441.length : Int)) = false := decide_eq_false c91
                    clear c91
                    by_cases c104 : (t441.length : Int) > t440
                    ·rw [if_pos c104] at H
                     have c104b0 : decide (t440 < (t441.length : Int)) = true := decide_eq_true c104
                     clear c104
                     obtain rfl := Option.some.inj H
                     exact absurd HR_.out (by simp)
                    ·rw [if_neg c104] at H
                     have c104b0 : decide (t440 < (t441.length : Int)) = false := decide_eq_false c104
                     clear c104
                     have H' := aM H
                     clear H
                     have hnb105 := NB452_436.out
                     have hnc105 := NB436_452.out
                     have hnb106 := NB452_438.out
                     have hnc106 := NB438_452.out
                     have hnb107 := NB452_453.out
                     have hnc107 := NB453_452.out
                     have hcz108_0 : wr.cell? ⟨gb452, 0, none⟩ = some (.int .i64 t440) := (blk_cell BK452.out 0).trans rfl
                     have hcz108_1 : wr.cell? ⟨gb452, 1, none⟩ = some (.slice Ao49 t441.length co49) := (blk_cell BK452.out 1).trans rfl
                     have hfz108_0 := blk_frozen BK452.out 0
                     have hfz108_1 := blk_frozen BK452.out 1
                     have hnb109 := NB436_438.out
                     have hnc109 := NB438_436.out
                     have hnb110 := NB436_453.out
                     have hnc110 := NB453_436.out
                     have hcz111_0 : wr.cell? ⟨gb436, 0, none⟩ = some (.int .i64 x437000_1) := (blk_cell BK436.out 0).trans rfl
                     have hcz111_1 : wr.cell? ⟨gb436, 1, none⟩ = some (.slice Ao38 x437001_1.length co38) := (blk_cell BK436.out 1).trans rfl
                     have hfz111_0 := blk_frozen BK436.out 0
                     have hfz111_1 := blk_frozen BK436.out 1
                     go_wp2
                     go_roundg k4
                     case measure => have := HK1.out; have := HJ30.out; have := HJ69.out; have := HK4.out; omega
                     case rel => exact ⟨(x8_30), (wrap64 (x37_1 + 1)), (t440), (t441), (.slice Ao49 t441.length co49), (by first | rfl | (simp; done) | (simp [*]; done)), H', ⟨by have := HK1.out; have := HJ30.out; have := HJ69.out; have := HK4.out; omega⟩, ⟨by (with_reducible repeat (first | apply Kd.N_alloc | apply Kd.N_drewN | apply Kd.N_drew)); exact Kd.N_mono (Kd.N_far (p := ⟨gb436, 1, none⟩) (Kd.N_far (p := ⟨gb436, 0, none⟩) (Kd.N_mono HO_8.out (fun k_ hk => (⟨hk, hk.2.2.1⟩ : _ ∧ k_ ≠ gb436))) (fun _ hk => hk.2) (.int .i64 t440)) (fun _ hk => hk.2) (.slice Ao49 t441.length co49)) (fun _ hk => ⟨hk.1.1, hk.1.2.2.1⟩)⟩, ⟨by (with_reducible repeat (first | apply Kd.V_alloc | apply Kd.V_drewN | apply Kd.V_drew)); exact Kd.V_mono (Kd.V_far (p := ⟨gb436, 1, none⟩) (Kd.V_far (p := ⟨gb436, 0, none⟩) (Kd.V_mono HO_35.out (fun k_ hk => (⟨hk, hk.2.2.2.1⟩ : _ ∧ k_ ≠ gb436))) (fun _ hk => hk.2) (.int .i64 t440)) (fun _ hk => hk.2) (.slice Ao49 t441.length co49)) (fun _ hk => ⟨hk.1.1, ⟨hk.1.2.1, hk.1.2.2.2.1⟩⟩)⟩, ⟨by (with_reducible repeat (first | apply Kd.V_alloc | apply Kd.V_drewN | apply Kd.V_drew)); exact Kd.V_mono (Kd.V_far (p := ⟨gb436, 1, none⟩) (Kd.V_far (p := ⟨gb436, 0, none⟩) (Kd.V_mono HO_453001.out (fun k_ hk => (⟨hk, hk.2.2.2.1⟩ : _ ∧ k_ ≠ gb436))) (fun _ hk => hk.2) (.int .i64 t440)) (fun _ hk => hk.2) (.slice Ao49 t441.length co49)) (fun _ hk => ⟨hk.1.1, ⟨hk.1.2.1, hk.1.2.2.2.1⟩⟩)⟩, ⟨by (with_reducible repeat (first | refine kN ?_ _ | refine kD ?_ | refine kA ?_ _)); refine blk_put (cs := #[.int .i64 t440, .slice Ao38 x437001_1.length co38]) ?_ 1 _ rfl; (with_reducible repeat (first | refine kN ?_ _ | refine kD ?_ | refine kA ?_ _)); refine blk_put (cs := #[.int .i64 x437000_1, .slice Ao38 x437001_1.length co38]) ?_ 0 _ rfl; (with_reducible repeat (first | refine kN ?_ _ | refine kD ?_ | refine kA ?_ _)); exact BK436.out⟩, ⟨by repeat (first | (with_reducible first | exact HB.out | apply bA | apply bN | apply bD | refine bS ?_ GE436.out | refine bS ?_ GE438.out | refine bS ?_ GE452.out | refine bS ?_ GE453.out) | exact HB.out)⟩⟩
           ·rw [if_neg c30] at H
            have c30b0 : (t451 == 0) = false := beq_eq_false_iff_ne.mpr c30
            have c30b1 : (t451 != 0) = true := bne_iff_ne.mpr c30
            have H' := aM H
            clear H
            have p437 : 0 ≤ (x37_1 : Int) := of_decide_eq_true (by first | (with_reducible assumption) | assumption)
            have q437 : x37_1 < (l1.length : Int) := of_decide_eq_true (by first | (with_reducible assumption) | assumption)
            obtain ⟨ad437, A437_3, c437_3, e437, hx437_0, hx437_1, hx437_2, hx437_3, hl437_3, hi437_3⟩ := at_T42 (Kd.V_reads' HO_35.out).2.2 x37_1 p437 q437
            cases e437
            obtain ⟨ce437, hce437, hMe437, hcc437⟩ := Kd.V_get HO_35.out z42 x37_1 p437 (by first | exact q437 | exact of_decide_eq_true (by first | (with_reducible assumption) | assumption) | (have e_ := (Kd.V_reads' HO_35.out).1; omega))
            obtain ⟨ua437_3, uc437_3, rfl, ul437_3, ge437_3⟩ := k42_openF hMe437
            have hv437_3 := hcc437 3 _ rfl
            rw [add_field _ _ 3 (by omega)] at hv437_3
            replace hv437_3 := Option.some.inj (hv437_3.symm.trans hx437_3)
            injection hv437_3 with hva_ hvn_ hvc_
            rw [hva_] at ge437_3
            rw [hvc_] at ul437_3
            have HL437_3 := aM (show Kd.V k31 31 _ w.heap.size _ _ ((rd_T42 l1 x37_1).f3) from Kd.V_mk ul437_3 ge437_3)
            clear hva_ hvn_ hvc_ ge437_3 ul437_3
            clear hcc437 hce437
            have HR437_3 := aM hi437_3
            have HC437_3 := aM hl437_3
            clear hi437_3 hl437_3
            replace p437 := eq_true p437
            replace q437 := eq_true q437
            go_wp2_with (first | ((with_reducible refine gate_dst (N := 10) rfl ?_); (try (refine gate_guard (by rfl) ?_; dsimp only)); refine box_event ?hg (N := 10) ?hd (cs := #[.int .i64 0, .int .i64 0, .int .i64 0, .slice none 0 0]) (t := 42) ?hr ?_; (case hd => rfl); (case hg => rfl); (case hr => first | (go_simp; done) | (go_simp; rfl)); intro gb438 hg w112 hbox hb; have n0_ := aM (Kd.N_below (Kd.N_elderB (by (with_reducible repeat (first | apply Kd.N_alloc | apply Kd.N_drewN | apply Kd.N_drew)); exact HO_8.out) gb438 (Nat.le_of_eq hg.symm)) hb); have n1_ := aM (Kd.V_below (Kd.V_elderB (by (with_reducible repeat (first | apply Kd.V_alloc | apply Kd.V_drewN | apply Kd.V_drew)); exact HO_35.out) gb438 (Nat.le_of_eq hg.symm)) hb); have n2_ := aM (Kd.V_below (Kd.V_elderB (by (with_reducible repeat (first | apply Kd.V_alloc | apply Kd.V_drewN | apply Kd.V_drew)); exact HO_437001.out) gb438 (Nat.le_of_eq hg.symm)) hb); have n3_ := aM (Kd.V_below (Kd.V_elderB (by (with_reducible repeat (first | apply Kd.V_alloc | apply Kd.V_drewN | apply Kd.V_drew)); exact HL437_3.out) gb438 (Nat.le_of_eq hg.symm)) hb); have n4_ := aM (blk_below (g := gb436) (o := .cells #[.int .i64 x437000_1, u437001] 24 (0, 0)) (by (with_reducible repeat (first | refine kN ?_ _ | refine kD ?_ | refine kA ?_ _)); exact BK436.out) hb); have n5_ := aM (Kd.C_below (by repeat (first | (with_reducible exact (Kd.V_reads' HL437_3.out).2.2) | (with_reducible refine Kd.C_alloc ?_ _) | (with_reducible refine Kd.C_drewN ?_ _) | (with_reducible refine Kd.C_drew ?_) | exact (Kd.V_reads' HL437_3.out).2.2)) hb); have n6_ := aM (below_step (by repeat (first | (with_reducible first | exact HB.out | apply bA | apply bN | apply bD | refine bS ?_ GE436.out) | exact HB.out)) hb); have n7_ := aM (hbox); have n8_ := aM ((by rw [hg]; exact (below_size (by repeat (first | (with_reducible first | exact HB.out | apply bA | apply bN | apply bD | refine bS ?_ GE436.out) | exact HB.out))) : w.heap.size ≤ gb438)); have n9_ := aM ((by rw [hg]; exact (below_size (by repeat (first | (with_reducible first | exact HB.out | apply bA | apply bN | apply bD | refine bS ?_ GE436.out) | exact HB.out))) : w.heap.size ≤ gb438)); have n10_ := aM ((by rw [hg]; exact Nat.ne_of_lt (blk_lt (g := gb436) (o := .cells #[.int .i64 x437000_1, u437001] 24 (0, 0)) (by (with_reducible repeat (first | refine kN ?_ _ | refine kD ?_ | refine kA ?_ _)); exact BK436.out)) : gb436 ≠ gb438)); have n11_ := aM ((by rw [hg]; exact Nat.ne_of_gt (blk_lt (g := gb436) (o := .cells #[.int .i64 x437000_1, u437001] 24 (0, 0)) (by (with_reducible repeat (first | refine kN ?_ _ | refine kD ?_ | refine kA ?_ _)); exact BK436.out)) : gb438 ≠ gb436)); clear HO_8; clear HO_35; clear HO_437001; clear HL437_3; clear BK436; clear HR437_3; clear HB; have HO_8 := n0_; have HO_35 := n1_; have HO_437001 := n2_; have HL437_3 := n3_; have BK436 := n4_; have HR437_3 := n5_; have HB := n6_; have BK438 := n7_; have GW438 := n8_; have GE438 := n9_; have NB436_438 := n10_; have NB438_436 := n11_; clear n0_ n1_ n2_ n3_ n4_ n5_ n6_ n7_ n8_ n9_ n10_ n11_; clear hb hbox hg; have hnb113 := NB438_436.out; have hnc113 := NB436_438.out; have hcz114_0 : w112.cell? ⟨gb438, 0, none⟩ = some (.int .i64 0) := (blk_cell BK438.out 0).trans rfl; have hcz114_1 : w112.cell? ⟨gb438, 1, none⟩ = some (.int .i64 0) := (blk_cell BK438.out 1).trans rfl; have hcz114_2 : w112.cell? ⟨gb438, 2, none⟩ = some (.int .i64 0) := (blk_cell BK438.out 2).trans rfl; have hcz114_3 : w112.cell? ⟨gb438, 3, none⟩ = some (.slice none 0 0) := (blk_cell BK438.out 3).trans rfl; have hfz114_0 := blk_frozen BK438.out 0; have hfz114_1 := blk_frozen BK438.out 1; have hfz114_2 := blk_frozen BK438.out 2; have hfz114_3 := blk_frozen BK438.out 3) | ((with_reducible refine gate_store (t := 42) (p := 10) rfl ?_); refine store_event (t := 42) (p := 10) (v := ?vo_w115) (w1 := ((((w112.setCell ⟨gb438, 0, none⟩ (.int .i64 ((rd_T42 l1 x37_1).f0))).setCell ⟨gb438, 1, none⟩ (.int .i64 ((rd_T42 l1 x37_1).f1))).setCell ⟨gb438, 2, none⟩ (.int .i64 ((rd_T42 l1 x37_1).f2))).setCell ⟨gb438, 3, none⟩ (.slice A437_3 ((rd_T42 l1 x37_1).f3).length c437_3))) ?hg ?ho ?hn ?hr ?_; (case ho => rfl); (case hg => rfl); (case hn => rfl); (case hr => first | (go_simp; done) | (go_simp; rfl)); intro w115 hw; have n0_ : Aside0 (Kd.N k31 31 w115 w.heap.size (fun k_ => (P1_ k_ ∨ w.heap.size ≤ k_) ∧ k_ ≠ gb436 ∧ k_ ≠ gb438) u8 x8_1) := ⟨(by rw [hw]; exact (by (with_reducible repeat (first | apply Kd.N_alloc | apply Kd.N_drewN | apply Kd.N_drew)); exact Kd.N_mono (Kd.N_far (p := ⟨gb438, 3, none⟩) (Kd.N_far (p := ⟨gb438, 2, none⟩) (Kd.N_far (p := ⟨gb438, 1, none⟩) (Kd.N_far (p := ⟨gb438, 0, none⟩) (Kd.N_mono HO_8.out (fun k_ hk => (⟨hk, hk.2⟩ : _ ∧ k_ ≠ gb438))) (fun _ hk => hk.2) (.int .i64 ((rd_T42 l1 x37_1).f0))) (fun _ hk => hk.2) (.int .i64 ((rd_T42 l1 x37_1).f1))) (fun _ hk => hk.2) (.int .i64 ((rd_T42 l1 x37_1).f2))) (fun _ hk => hk.2) (.slice A437_3 ((rd_T42 l1 x37_1).f3).length c437_3)) (fun _ hk => ⟨hk.1.1.1, ⟨hk.1.1.2, hk.1.2⟩⟩)))⟩; have n1_ : Aside0 (Kd.V k42 42 w115 w.heap.size (fun k_ => (P1_ k_ ∨ w.heap.size ≤ k_) ∧ some k_ ≠ (u8 : Value).ownBlock ∧ k_ ≠ gb436 ∧ k_ ≠ gb438) (.slice (some ad437) l1.length c1) l1) := ⟨(by rw [hw]; exact (by (with_reducible repeat (first | apply Kd.V_alloc | apply Kd.V_drewN | apply Kd.V_drew)); exact Kd.V_mono (Kd.V_far (p := ⟨gb438, 3, none⟩) (Kd.V_far (p := ⟨gb438, 2, none⟩) (Kd.V_far (p := ⟨gb438, 1, none⟩) (Kd.V_far (p := ⟨gb438, 0, none⟩) (Kd.V_mono HO_35.out (fun k_ hk => (⟨hk, hk.2⟩ : _ ∧ k_ ≠ gb438))) (fun _ hk => hk.2) (.int .i64 ((rd_T42 l1 x37_1).f0))) (fun _ hk => hk.2) (.int .i64 ((rd_T42 l1 x37_1).f1))) (fun _ hk => hk.2) (.int .i64 ((rd_T42 l1 x37_1).f2))) (fun _ hk => hk.2) (.slice A437_3 ((rd_T42 l1 x37_1).f3).length c437_3)) (fun _ hk => ⟨hk.1.1.1, ⟨hk.1.1.2.1, ⟨hk.1.1.2.2, hk.1.2⟩⟩⟩)))⟩; have n2_ : Aside0 (Kd.V k31 31 w115 w.heap.size (fun k_ => (P1_ k_ ∨ w.heap.size ≤ k_) ∧ some k_ ≠ (u8 : Value).ownBlock ∧ k_ ≠ gb436 ∧ k_ ≠ gb438) u437001 x437001_1) := ⟨(by rw [hw]; exact (by (with_reducible repeat (first | apply Kd.V_alloc | apply Kd.V_drewN | apply Kd.V_drew)); exact Kd.V_mono (Kd.V_far (p := ⟨gb438, 3, none⟩) (Kd.V_far (p := ⟨gb438, 2, none⟩) (Kd.V_far (p := ⟨gb438, 1, none⟩) (Kd.V_far (p := ⟨gb438, 0, none⟩) (Kd.V_mono HO_437001.out (fun k_ hk => (⟨hk, hk.2⟩ : _ ∧ k_ ≠ gb438))) (fun _ hk => hk.2) (.int .i64 ((rd_T42 l1 x37_1).f0))) (fun _ hk => hk.2) (.int .i64 ((rd_T42 l1 x37_1).f1))) (fun _ hk => hk.2) (.int .i64 ((rd_T42 l1 x37_1).f2))) (fun _ hk => hk.2) (.slice A437_3 ((rd_T42 l1 x37_1).f3).length c437_3)) (fun _ hk => ⟨hk.1.1.1, ⟨hk.1.1.2.1, ⟨hk.1.1.2.2, hk.1.2⟩⟩⟩)))⟩; have n3_ : Aside0 (Kd.V k31 31 w115 w.heap.size (fun k_ => (P1_ k_ ∨ w.heap.size ≤ k_) ∧ some k_ ≠ (u8 : Value).ownBlock ∧ k_ ≠ gb436 ∧ k_ ≠ gb438) (.slice A437_3 ((rd_T42 l1 x37_1).f3).length c437_3) ((rd_T42 l1 x37_1).f3)) := ⟨(by rw [hw]; exact (by (with_reducible repeat (first | apply Kd.V_alloc | apply Kd.V_drewN | apply Kd.V_drew)); exact Kd.V_mono (Kd.V_far (p := ⟨gb438, 3, none⟩) (Kd.V_far (p := ⟨gb438, 2, none⟩) (Kd.V_far (p := ⟨gb438, 1, none⟩) (Kd.V_far (p := ⟨gb438, 0, none⟩) (Kd.V_mono HL437_3.out (fun k_ hk => (⟨hk, hk.2⟩ : _ ∧ k_ ≠ gb438))) (fun _ hk => hk.2) (.int .i64 ((rd_T42 l1 x37_1).f0))) (fun _ hk => hk.2) (.int .i64 ((rd_T42 l1 x37_1).f1))) (fun _ hk => hk.2) (.int .i64 ((rd_T42 l1 x37_1).f2))) (fun _ hk => hk.2) (.slice A437_3 ((rd_T42 l1 x37_1).f3).length c437_3)) (fun _ hk => ⟨hk.1.1.1, ⟨hk.1.1.2.1, ⟨hk.1.1.2.2, hk.1.2⟩⟩⟩)))⟩; have n4_ : Aside0 (w115.heap[gb436]? = some (.cells #[.int .i64 x437000_1, u437001] 24 (0, 0))) := ⟨(by rw [hw]; exact (by (with_reducible repeat (first | refine kN ?_ _ | refine kD ?_ | refine kA ?_ _)); refine blk_far ?_ NB436_438.out _; (with_reducible repeat (first | refine kN ?_ _ | refine kD ?_ | refine kA ?_ _)); refine blk_far ?_ NB436_438.out _; (with_reducible repeat (first | refine kN ?_ _ | refine kD ?_ | refine kA ?_ _)); refine blk_far ?_ NB436_438.out _; (with_reducible repeat (first | refine kN ?_ _ | refine kD ?_ | refine kA ?_ _)); refine blk_far ?_ NB436_438.out _; (with_reducible repeat (first | refine kN ?_ _ | refine kD ?_ | refine kA ?_ _)); exact BK436.out))⟩; have n5_ : Aside0 (w115.heap[gb438]? = some (.cells #[.int .i64 ((rd_T42 l1 x37_1).f0), .int .i64 ((rd_T42 l1 x37_1).f1), .int .i64 ((rd_T42 l1 x37_1).f2), .slice A437_3 ((rd_T42 l1 x37_1).f3).length c437_3] 42 (0, 0))) := ⟨(by rw [hw]; exact (by (with_reducible repeat (first | refine kN ?_ _ | refine kD ?_ | refine kA ?_ _)); refine blk_put (cs := #[.int .i64 ((rd_T42 l1 x37_1).f0), .int .i64 ((rd_T42 l1 x37_1).f1), .int .i64 ((rd_T42 l1 x37_1).f2), .slice none 0 0]) ?_ 3 _ rfl; (with_reducible repeat (first | refine kN ?_ _ | refine kD ?_ | refine kA ?_ _)); refine blk_put (cs := #[.int .i64 ((rd_T42 l1 x37_1).f0), .int .i64 ((rd_T42 l1 x37_1).f1), .int .i64 0, .slice none 0 0]) ?_ 2 _ rfl; (with_reducible repeat (first | refine kN ?_ _ | refine kD ?_ | refine kA ?_ _)); refine blk_put (cs := #[.int .i64 ((rd_T42 l1 x37_1).f0), .int .i64 0, .int .i64 0, .slice none 0 0]) ?_ 1 _ rfl; (with_reducible repeat (first | refine kN ?_ _ | refine kD ?_ | refine kA ?_ _)); refine blk_put (cs := #[.int .i64 0, .int .i64 0, .int .i64 0, .slice none 0 0]) ?_ 0 _ rfl; (with_reducible repeat (first | refine kN ?_ _ | refine kD ?_ | refine kA ?_ _)); exact BK438.out))⟩; have n6_ : Aside0 (Below w.heap.size w w115) := ⟨(by rw [hw]; exact (by repeat (first | (with_reducible first | exact HB.out | apply bA | apply bN | apply bD | refine bS ?_ GE436.out | refine bS ?_ GE438.out) | exact HB.out)))⟩; clear hw; clear HO_8; clear HO_35; clear HO_437001; clear HL437_3; clear BK436; clear BK438; clear HB; have HO_8 := n0_; have HO_35 := n1_; have HO_437001 := n2_; have HL437_3 := n3_; have BK436 := n4_; have BK438 := n5_; have HB := n6_; clear n0_ n1_ n2_ n3_ n4_ n5_ n6_; have hcz116_0 : w115.cell? ⟨gb436, 0, none⟩ = some (.int .i64 x437000_1) := (blk_cell BK436.out 0).trans rfl; have hcz116_1 : w115.cell? ⟨gb436, 1, none⟩ = some (u437001) := (blk_cell BK436.out 1).trans rfl; have hfz116_0 := blk_frozen BK436.out 0; have hfz116_1 := blk_frozen BK436.out 1; have hcz117_0 : w115.cell? ⟨gb438, 0, none⟩ = some (.int .i64 ((rd_T42 l1 x37_1).f0)) := (blk_cell BK438.out 0).trans rfl; have hcz117_1 : w115.cell? ⟨gb438, 1, none⟩ = some (.int .i64 ((rd_T42 l1 x37_1).f1)) := (blk_cell BK438.out 1).trans rfl; have hcz117_2 : w115.cell? ⟨gb438, 2, none⟩ = some (.int .i64 ((rd_T42 l1 x37_1).f2)) := (blk_cell BK438.out 2).trans rfl; have hcz117_3 : w115.cell? ⟨gb438, 3, none⟩ = some (.slice A437_3 ((rd_T42 l1 x37_1).f3).length c437_3) := (blk_cell BK438.out 3).trans rfl; have hfz117_0 := blk_frozen BK438.out 0; have hfz117_1 := blk_frozen BK438.out 1; have hfz117_2 := blk_frozen BK438.out 2; have hfz117_3 := blk_frozen BK438.out 3; obtain ⟨Ao118, co118, eo118⟩ := Kd.V_slice HO_437001.out; subst eo118) | ((with_reducible refine gate_callee (f := 8) rfl ?_); refine goesL_ (some 44) rfl rfl Try.func8 (by kernel_rfl) rfl #[.agg #[.int .i64 x437000_1, .slice Ao118 x437001_1.length co118], .slice A437_3 ((rd_T42 l1 x37_1).f3).length c437_3] rfl (by (try simp only [List.map_toArray, List.map_cons, List.map_nil]); first | done | rfl | (simp only [List.length_drop, List.length_take]; rfl)) ?_; (with_reducible refine (squelchlaw21_few.calls k1 x437000_1 (fun k_ => ((P1_ k_ ∨ w.heap.size ≤ k_) ∧ (some k_ ≠ (u8 : Value).ownBlock ∧ (k_ ≠ gb436 ∧ k_ ≠ gb438)))) _ _ x437001_1 (fun k_ => ((P1_ k_ ∨ w.heap.size ≤ k_) ∧ (some k_ ≠ (u8 : Value).ownBlock ∧ (k_ ≠ gb436 ∧ k_ ≠ gb438)))) _ _ ((rd_T42 l1 x37_1).f3) true _ ?side1 ?side2 A17.out).mono ?_); (case side1 => exact HO_437001.out); (case side2 => exact HL437_3.out); rintro e w119 ⟨rfl, hb⟩; refine ⟨_, rfl, ?_⟩; have n0_ := aM (Kd.N_below (by (with_reducible repeat (first | apply Kd.N_alloc | apply Kd.N_drewN | apply Kd.N_drew)); exact HO_8.out) hb); have n1_ := aM (Kd.V_below (by (with_reducible repeat (first | apply Kd.V_alloc | apply Kd.V_drewN | apply Kd.V_drew)); exact HO_35.out) hb); have n2_ := aM (Kd.V_below (by (with_reducible repeat (first | apply Kd.V_alloc | apply Kd.V_drewN | apply Kd.V_drew)); exact HO_437001.out) hb); have n3_ := aM (Kd.V_below (by (with_reducible repeat (first | apply Kd.V_alloc | apply Kd.V_drewN | apply Kd.V_drew)); exact HL437_3.out) hb); have n4_ := aM (blk_below (g := gb436) (o := .cells #[.int .i64 x437000_1, .slice Ao118 x437001_1.length co118] 24 (0, 0)) (by (with_reducible repeat (first | refine kN ?_ _ | refine kD ?_ | refine kA ?_ _)); exact BK436.out) hb); have n5_ := aM (Kd.C_below (by repeat (first | (with_reducible exact (Kd.V_reads' HL437_3.out).2.2) | (with_reducible refine Kd.C_alloc ?_ _) | (with_reducible refine Kd.C_drewN ?_ _) | (with_reducible refine Kd.C_drew ?_) | exact (Kd.V_reads' HL437_3.out).2.2)) hb); have n6_ := aM (blk_below (g := gb438) (o := .cells #[.int .i64 ((rd_T42 l1 x37_1).f0), .int .i64 ((rd_T42 l1 x37_1).f1), .int .i64 ((rd_T42 l1 x37_1).f2), .slice A437_3 ((rd_T42 l1 x37_1).f3).length c437_3] 42 (0, 0)) (by (with_reducible repeat (first | refine kN ?_ _ | refine kD ?_ | refine kA ?_ _)); exact BK438.out) hb); have n7_ := aM (below_step (by repeat (first | (with_reducible first | exact HB.out | apply bA | apply bN | apply bD | refine bS ?_ GE436.out | refine bS ?_ GE438.out) | exact HB.out)) hb); clear HO_8; clear HO_35; clear HO_437001; clear HL437_3; clear BK436; clear HR437_3; clear BK438; clear HB; have HO_8 := n0_; have HO_35 := n1_; have HO_437001 := n2_; have HL437_3 := n3_; have BK436 := n4_; have HR437_3 := n5_; have BK438 := n6_; have HB := n7_; clear n0_ n1_ n2_ n3_ n4_ n5_ n6_ n7_; (try clear hb); (try clear hb2); (try clear hk); (try clear hi); have hcz120_0 : w119.cell? ⟨gb438, 0, none⟩ = some (.int .i64 ((rd_T42 l1 x37_1).f0)) := (blk_cell BK438.out 0).trans rfl; have hcz120_1 : w119.cell? ⟨gb438, 1, none⟩ = some (.int .i64 ((rd_T42 l1 x37_1).f1)) := (blk_cell BK438.out 1).trans rfl; have hcz120_2 : w119.cell? ⟨gb438, 2, none⟩ = some (.int .i64 ((rd_T42 l1 x37_1).f2)) := (blk_cell BK438.out 2).trans rfl; have hcz120_3 : w119.cell? ⟨gb438, 3, none⟩ = some (.slice A437_3 ((rd_T42 l1 x37_1).f3).length c437_3) := (blk_cell BK438.out 3).trans rfl; have hfz120_0 := blk_frozen BK438.out 0; have hfz120_1 := blk_frozen BK438.out 1; have hfz120_2 := blk_frozen BK438.out 2; have hfz120_3 := blk_frozen BK438.out 3; have hcz121_0 : w119.cell? ⟨gb436, 0, none⟩ = some (.int .i64 x437000_1) := (blk_cell BK436.out 0).trans rfl; have hcz121_1 : w119.cell? ⟨gb436, 1, none⟩ = some (.slice Ao118 x437001_1.length co118) := (blk_cell BK436.out 1).trans rfl; have hfz121_0 := blk_frozen BK436.out 0; have hfz121_1 := blk_frozen BK436.out 1) | ((with_reducible refine gate_callee (f := 14) rfl ?_); refine goesL_ (some 53) rfl rfl Try.func14 (by kernel_rfl) rfl #[.agg #[.int .i64 x437000_1, .slice Ao118 x437001_1.length co118], .agg #[.int .i64 ((rd_T42 l1 x37_1).f0), .int .i64 ((rd_T42 l1 x37_1).f1), .int .i64 ((rd_T42 l1 x37_1).f2), .slice A437_3 ((rd_T42 l1 x37_1).f3).length c437_3]] rfl (by (try simp only [List.map_toArray, List.map_cons, List.map_nil]); first | done | rfl | (simp only [List.length_drop, List.length_take]; rfl)) ?_; (with_reducible refine (squelchlaw21_body.calls k1 x437000_1 (fun k_ => ((P1_ k_ ∨ w.heap.size ≤ k_) ∧ (some k_ ≠ (u8 : Value).ownBlock ∧ (k_ ≠ gb436 ∧ k_ ≠ gb438)))) _ _ x437001_1 ((rd_T42 l1 x37_1).f0) ((rd_T42 l1 x37_1).f1) ((rd_T42 l1 x37_1).f2) _ _ ((rd_T42 l1 x37_1).f3) t440 t441 t444 t445 t448 t451 _ ?side1 ?side2 ?side3 A29.out).mono ?_); (case side1 => exact HO_437001.out); (case side2 => repeat (first | exact (by repeat (first | (with_reducible exact (Kd.V_reads' HL437_3.out).2.2) | (with_reducible refine Kd.C_alloc ?_ _) | (with_reducible refine Kd.C_drewN ?_ _) | (with_reducible refine Kd.C_drew ?_) | exact (Kd.V_reads' HL437_3.out).2.2)) | (with_reducible refine Kd.C_alloc ?_ _) | (with_reducible refine Kd.C_drewN ?_ _) | (with_reducible refine Kd.C_drew ?_))); (case side3 => exact HC437_3.out); rintro e w122 ⟨v442, v446, v449, rfl, ho0, ho1, ho2, hb⟩; refine ⟨_, rfl, ?_⟩; have n0_ := aM (Kd.N_mono (Kd.N_told (Kd.N_told (Kd.N_old (by (with_reducible repeat (first | apply Kd.N_alloc | apply Kd.N_drewN | apply Kd.N_drew)); exact HO_8.out) hb) (Kd.R_base ho1)) (Kd.R_base ho2)) (fun _ h_ => h_.1)); have n1_ := aM (Kd.V_mono (Kd.V_told (Kd.V_told (Kd.V_old (by (with_reducible repeat (first | apply Kd.V_alloc | apply Kd.V_drewN | apply Kd.V_drew)); exact HO_35.out) hb) (Kd.R_base ho1)) (Kd.R_base ho2)) (fun _ h_ => h_.1)); have n2_ := aM (Kd.V_mono (Kd.V_told (Kd.V_told (Kd.V_old (by (with_reducible repeat (first | apply Kd.V_alloc | apply Kd.V_drewN | apply Kd.V_drew)); exact HO_437001.out) hb) (Kd.R_base ho1)) (Kd.R_base ho2)) (fun _ h_ => h_.1)); have n3_ := aM (Kd.V_mono (Kd.V_told (Kd.V_told (Kd.V_old (by (with_reducible repeat (first | apply Kd.V_alloc | apply Kd.V_drewN | apply Kd.V_drew)); exact HL437_3.out) hb) (Kd.R_base ho1)) (Kd.R_base ho2)) (fun _ h_ => h_.1)); have n4_ := aM (Kd.V_lower (Kd.V_mono (ok' := fun k_ => (P1_ k_ ∨ w.heap.size ≤ k_) ∧ some k_ ≠ (v446 : Value).ownBlock ∧ some k_ ≠ (v449 : Value).ownBlock ∧ some k_ ≠ (u8 : Value).ownBlock ∧ k_ ≠ gb436 ∧ k_ ≠ gb438) ho0 (fun k_ hk_ => ⟨Or.elim hk_.1 (fun hs_ => hs_.1) (fun hn_ => (.inr (Nat.le_trans (below_size (by repeat (first | (with_reducible first | exact HB.out | apply bA | apply bN | apply bD | refine bS ?_ GE436.out | refine bS ?_ GE438.out) | exact HB.out))) hn_))), hk_.2.1, hk_.2.2, Or.elim hk_.1 (fun hs_ => hs_.2.1) (fun hn_ => (Kd.fresh' (Kd.N_lt (by (with_reducible repeat (first | apply Kd.N_alloc | apply Kd.N_drewN | apply Kd.N_drew)); exact HO_8.out)) k_ hn_)), Or.elim hk_.1 (fun hs_ => hs_.2.2.1) (fun hn_ => (Kd.freshB (g := gb436) (o := .cells #[.int .i64 x437000_1, .slice Ao118 x437001_1.length co118] 24 (0, 0)) (by (with_reducible repeat (first | refine kN ?_ _ | refine kD ?_ | refine kA ?_ _)); exact BK436.out) k_ hn_)), Or.elim hk_.1 (fun hs_ => hs_.2.2.2) (fun hn_ => (Kd.freshB (g := gb438) (o := .cells #[.int .i64 ((rd_T42 l1 x37_1).f0), .int .i64 ((rd_T42 l1 x37_1).f1), .int .i64 ((rd_T42 l1 x37_1).f2), .slice A437_3 ((rd_T42 l1 x37_1).f3).length c437_3] 42 (0, 0)) (by (with_reducible repeat (first | refine kN ?_ _ | refine kD ?_ | refine kA ?_ _)); exact BK438.out) k_ hn_))⟩)) (below_size (by repeat (first | (with_reducible first | exact HB.out | apply bA | apply bN | apply bD | refine bS ?_ GE436.out | refine bS ?_ GE438.out) | exact HB.out)))); have n5_ := aM (Kd.R_lower (Kd.R_newM (M := fun k_ => (w.heap.size ≤ k_)) (Kd.R_mono (ok' := fun k_ => True) ho1 (fun _ hk_ => trivial)) (below_size (by repeat (first | (with_reducible first | exact HB.out | apply bA | apply bN | apply bD | refine bS ?_ GE436.out | refine bS ?_ GE438.out) | exact HB.out))) (fun k_ h_ => h_)) (below_size (by repeat (first | (with_reducible first | exact HB.out | apply bA | apply bN | apply bD | refine bS ?_ GE436.out | refine bS ?_ GE438.out) | exact HB.out)))); have n6_ := aM (Kd.R_lower (Kd.R_newM (M := fun k_ => (w.heap.size ≤ k_)) (Kd.R_mono (ok' := fun k_ => True) ho2 (fun _ hk_ => trivial)) (below_size (by repeat (first | (with_reducible first | exact HB.out | apply bA | apply bN | apply bD | refine bS ?_ GE436.out | refine bS ?_ GE438.out) | exact HB.out))) (fun k_ h_ => h_)) (below_size (by repeat (first | (with_reducible first | exact HB.out | apply bA | apply bN | apply bD | refine bS ?_ GE436.out | refine bS ?_ GE438.out) | exact HB.out)))); have n7_ := aM (blk_below (g := gb436) (o := .cells #[.int .i64 x437000_1, .slice Ao118 x437001_1.length co118] 24 (0, 0)) (by (with_reducible repeat (first | refine kN ?_ _ | refine kD ?_ | refine kA ?_ _)); exact BK436.out) hb); have n8_ := aM (Kd.C_below (by repeat (first | (with_reducible exact (Kd.V_reads' HL437_3.out).2.2) | (with_reducible refine Kd.C_alloc ?_ _) | (with_reducible refine Kd.C_drewN ?_ _) | (with_reducible refine Kd.C_drew ?_) | exact (Kd.V_reads' HL437_3.out).2.2)) hb); have n9_ := aM (blk_below (g := gb438) (o := .cells #[.int .i64 ((rd_T42 l1 x37_1).f0), .int .i64 ((rd_T42 l1 x37_1).f1), .int .i64 ((rd_T42 l1 x37_1).f2), .slice A437_3 ((rd_T42 l1 x37_1).f3).length c437_3] 42 (0, 0)) (by (with_reducible repeat (first | refine kN ?_ _ | refine kD ?_ | refine kA ?_ _)); exact BK438.out) hb); have n10_ := aM (below_step (by repeat (first | (with_reducible first | exact HB.out | apply bA | apply bN | apply bD | refine bS ?_ GE436.out | refine bS ?_ GE438.out) | exact HB.out)) hb); clear HO_8; clear HO_35; clear HO_437001; clear HL437_3; clear BK436; clear HR437_3; clear BK438; clear HB; have HO_8 := n0_; have HO_35 := n1_; have HO_437001 := n2_; have HL437_3 := n3_; have HO443 := n4_; have HO447 := n5_; have HO450 := n6_; have BK436 := n7_; have HR437_3 := n8_; have BK438 := n9_; have HB := n10_; clear n0_ n1_ n2_ n3_ n4_ n5_ n6_ n7_ n8_ n9_ n10_; (try clear hb); (try clear hb2); (try clear hk); (try clear hi); (try clear ho0); (try clear ho1); (try clear ho2)) | ((with_reducible refine gate_dst (N := 11) rfl ?_); (try (refine gate_guard (by rfl) ?_; dsimp only)); refine box_event ?hg (N := 11) ?hd (cs := #[.int .i64 0, .slice none 0 0]) (t := 24) ?hr ?_; (case hd => rfl); (case hg => rfl); (case hr => first | (go_simp; done) | (go_simp; rfl)); intro gb452 hg w123 hbox hb; have n0_ := aM (Kd.N_below (Kd.N_elderB (by (with_reducible repeat (first | apply Kd.N_alloc | apply Kd.N_drewN | apply Kd.N_drew)); exact HO_8.out) gb452 (Nat.le_of_eq hg.symm)) hb); have n1_ := aM (Kd.V_below (Kd.V_elderB (by (with_reducible repeat (first | apply Kd.V_alloc | apply Kd.V_drewN | apply Kd.V_drew)); exact HO_35.out) gb452 (Nat.le_of_eq hg.symm)) hb); have n2_ := aM (Kd.V_below (Kd.V_elderB (by (with_reducible repeat (first | apply Kd.V_alloc | apply Kd.V_drewN | apply Kd.V_drew)); exact HO_437001.out) gb452 (Nat.le_of_eq hg.symm)) hb); have n3_ := aM (Kd.V_below (Kd.V_elderB (by (with_reducible repeat (first | apply Kd.V_alloc | apply Kd.V_drewN | apply Kd.V_drew)); exact HL437_3.out) gb452 (Nat.le_of_eq hg.symm)) hb); have n4_ := aM (Kd.V_below (Kd.V_elderB (by (with_reducible repeat (first | apply Kd.V_alloc | apply Kd.V_drewN | apply Kd.V_drew)); exact HO443.out) gb452 (Nat.le_of_eq hg.symm)) hb); have n5_ := aM (Kd.R_below (by (with_reducible repeat (first | apply Kd.R_alloc | apply Kd.R_drewN | apply Kd.R_drew)); exact HO447.out) hb); have n6_ := aM (Kd.R_below (by (with_reducible repeat (first | apply Kd.R_alloc | apply Kd.R_drewN | apply Kd.R_drew)); exact HO450.out) hb); have n7_ := aM (blk_below (g := gb436) (o := .cells #[.int .i64 x437000_1, .slice Ao118 x437001_1.length co118] 24 (0, 0)) (by (with_reducible repeat (first | refine kN ?_ _ | refine kD ?_ | refine kA ?_ _)); exact BK436.out) hb); have n8_ := aM (Kd.C_below (by repeat (first | (with_reducible exact (Kd.V_reads' HL437_3.out).2.2) | (with_reducible refine Kd.C_alloc ?_ _) | (with_reducible refine Kd.C_drewN ?_ _) | (with_reducible refine Kd.C_drew ?_) | exact (Kd.V_reads' HL437_3.out).2.2)) hb); have n9_ := aM (blk_below (g := gb438) (o := .cells #[.int .i64 ((rd_T42 l1 x37_1).f0), .int .i64 ((rd_T42 l1 x37_1).f1), .int .i64 ((rd_T42 l1 x37_1).f2), .slice A437_3 ((rd_T42 l1 x37_1).f3).length c437_3] 42 (0, 0)) (by (with_reducible repeat (first | refine kN ?_ _ | refine kD ?_ | refine kA ?_ _)); exact BK438.out) hb); have n10_ := aM (below_step (by repeat (first | (with_reducible first | exact HB.out | apply bA | apply bN | apply bD | refine bS ?_ GE436.out | refine bS ?_ GE438.out) | exact HB.out)) hb); have n11_ := aM (hbox); have n12_ := aM ((by rw [hg]; exact (below_size (by repeat (first | (with_reducible first | exact HB.out | apply bA | apply bN | apply bD | refine bS ?_ GE436.out | refine bS ?_ GE438.out) | exact HB.out))) : w.heap.size ≤ gb452)); have n13_ := aM ((by rw [hg]; exact (below_size (by repeat (first | (with_reducible first | exact HB.out | apply bA | apply bN | apply bD | refine bS ?_ GE436.out | refine bS ?_ GE438.out) | exact HB.out))) : w.heap.size ≤ gb452)); have n14_ := aM ((by rw [hg]; exact Nat.ne_of_lt (blk_lt (g := gb436) (o := .cells #[.int .i64 x437000_1, .slice Ao118 x437001_1.length co118] 24 (0, 0)) (by (with_reducible repeat (first | refine kN ?_ _ | refine kD ?_ | refine kA ?_ _)); exact BK436.out)) : gb436 ≠ gb452)); have n15_ := aM ((by rw [hg]; exact Nat.ne_of_gt (blk_lt (g := gb436) (o := .cells #[.int .i64 x437000_1, .slice Ao118 x437001_1.length co118] 24 (0, 0)) (by (with_reducible repeat (first | refine kN ?_ _ | refine kD ?_ | refine kA ?_ _)); exact BK436.out)) : gb452 ≠ gb436)); have n16_ := aM ((by rw [hg]; exact Nat.ne_of_lt (blk_lt (g := gb438) (o := .cells #[.int .i64 ((rd_T42 l1 x37_1).f0), .int .i64 ((rd_T42 l1 x37_1).f1), .int .i64 ((rd_T42 l1 x37_1).f2), .slice A437_3 ((rd_T42 l1 x37_1).f3).length c437_3] 42 (0, 0)) (by (with_reducible repeat (first | refine kN ?_ _ | refine kD ?_ | refine kA ?_ _)); exact BK438.out)) : gb438 ≠ gb452)); have n17_ := aM ((by rw [hg]; exact Nat.ne_of_gt (blk_lt (g := gb438) (o := .cells #[.int .i64 ((rd_T42 l1 x37_1).f0), .int .i64 ((rd_T42 l1 x37_1).f1), .int .i64 ((rd_T42 l1 x37_1).f2), .slice A437_3 ((rd_T42 l1 x37_1).f3).length c437_3] 42 (0, 0)) (by (with_reducible repeat (first | refine kN ?_ _ | refine kD ?_ | refine kA ?_ _)); exact BK438.out)) : gb452 ≠ gb438)); clear HO_8; clear HO_35; clear HO_437001; clear HL437_3; clear HO443; clear HO447; clear HO450; clear BK436; clear HR437_3; clear BK438; clear HB; have HO_8 := n0_; have HO_35 := n1_; have HO_437001 := n2_; have HL437_3 := n3_; have HO443 := n4_; have HO447 := n5_; have HO450 := n6_; have BK436 := n7_; have HR437_3 := n8_; have BK438 := n9_; have HB := n10_; have BK452 := n11_; have GW452 := n12_; have GE452 := n13_; have NB436_452 := n14_; have NB452_436 := n15_; have NB438_452 := n16_; have NB452_438 := n17_; clear n0_ n1_ n2_ n3_ n4_ n5_ n6_ n7_ n8_ n9_ n10_ n11_ n12_ n13_ n14_ n15_ n16_ n17_; clear hb hbox hg) | ((with_reducible refine gate_dst (N := 12) rfl ?_); (try (refine gate_guard (by rfl) ?_; dsimp only)); refine box_event ?hg (N := 12) ?hd (cs := #[.int .i64 0, .slice none 0 0]) (t := 31) ?hr ?_; (case hd => rfl); (case hg => rfl); (case hr => first | (go_simp; done) | (go_simp; rfl)); intro gb453 hg w124 hbox hb; have n0_ := aM (Kd.N_below (Kd.N_elderB (by (with_reducible repeat (first | apply Kd.N_alloc | apply Kd.N_drewN | apply Kd.N_drew)); exact HO_8.out) gb453 (Nat.le_of_eq hg.symm)) hb); have n1_ := aM (Kd.V_below (Kd.V_elderB (by (with_reducible repeat (first | apply Kd.V_alloc | apply Kd.V_drewN | apply Kd.V_drew)); exact HO_35.out) gb453 (Nat.le_of_eq hg.symm)) hb); have n2_ := aM (Kd.V_below (Kd.V_elderB (by (with_reducible repeat (first | apply Kd.V_alloc | apply Kd.V_drewN | apply Kd.V_drew)); exact HO_437001.out) gb453 (Nat.le_of_eq hg.symm)) hb); have n3_ := aM (Kd.V_below (Kd.V_elderB (by (with_reducible repeat (first | apply Kd.V_alloc | apply Kd.V_drewN | apply Kd.V_drew)); exact HL437_3.out) gb453 (Nat.le_of_eq hg.symm)) hb); have n4_ := aM (Kd.V_below (Kd.V_elderB (by (with_reducible repeat (first | apply Kd.V_alloc | apply Kd.V_drewN | apply Kd.V_drew)); exact HO443.out) gb453 (Nat.le_of_eq hg.symm)) hb); have n5_ := aM (Kd.R_below (by (with_reducible repeat (first | apply Kd.R_alloc | apply Kd.R_drewN | apply Kd.R_drew)); exact HO447.out) hb); have n6_ := aM (Kd.R_below (by (with_reducible repeat (first | apply Kd.R_alloc | apply Kd.R_drewN | apply Kd.R_drew)); exact HO450.out) hb); have n7_ := aM (blk_below (g := gb436) (o := .cells #[.int .i64 x437000_1, .slice Ao118 x437001_1.length co118] 24 (0, 0)) (by (with_reducible repeat (first | refine kN ?_ _ | refine kD ?_ | refine kA ?_ _)); exact BK436.out) hb); have n8_ := aM (Kd.C_below (by repeat (first | (with_reducible exact (Kd.V_reads' HL437_3.out).2.2) | (with_reducible refine Kd.C_alloc ?_ _) | (with_reducible refine Kd.C_drewN ?_ _) | (with_reducible refine Kd.C_drew ?_) | exact (Kd.V_reads' HL437_3.out).2.2)) hb); have n9_ := aM (blk_below (g := gb438) (o := .cells #[.int .i64 ((rd_T42 l1 x37_1).f0), .int .i64 ((rd_T42 l1 x37_1).f1), .int .i64 ((rd_T42 l1 x37_1).f2), .slice A437_3 ((rd_T42 l1 x37_1).f3).length c437_3] 42 (0, 0)) (by (with_reducible repeat (first | refine kN ?_ _ | refine kD ?_ | refine kA ?_ _)); exact BK438.out) hb); have n10_ := aM (blk_below (g := gb452) (o := .cells #[.int .i64 0, .slice none 0 0] 24 (0, 0)) (by (with_reducible repeat (first | refine kN ?_ _ | refine kD ?_ | refine kA ?_ _)); exact BK452.out) hb); have n11_ := aM (below_step (by repeat (first | (with_reducible first | exact HB.out | apply bA | apply bN | apply bD | refine bS ?_ GE436.out | refine bS ?_ GE438.out | refine bS ?_ GE452.out) | exact HB.out)) hb); have n12_ := aM (hbox); have n13_ := aM ((by rw [hg]; exact (below_size (by repeat (first | (with_reducible first | exact HB.out | apply bA | apply bN | apply bD | refine bS ?_ GE436.out | refine bS ?_ GE438.out | refine bS ?_ GE452.out) | exact HB.out))) : w.heap.size ≤ gb453)); have n14_ := aM ((by rw [hg]; exact (below_size (by repeat (first | (with_reducible first | exact HB.out | apply bA | apply bN | apply bD | refine bS ?_ GE436.out | refine bS ?_ GE438.out | refine bS ?_ GE452.out) | exact HB.out))) : w.heap.size ≤ gb453)); have n15_ := aM ((by rw [hg]; exact Nat.ne_of_lt (blk_lt (g := gb436) (o := .cells #[.int .i64 x437000_1, .slice Ao118 x437001_1.length co118] 24 (0, 0)) (by (with_reducible repeat (first | refine kN ?_ _ | refine kD ?_ | refine kA ?_ _)); exact BK436.out)) : gb436 ≠ gb453)); have n16_ := aM ((by rw [hg]; exact Nat.ne_of_gt (blk_lt (g := gb436) (o := .cells #[.int .i64 x437000_1, .slice Ao118 x437001_1.length co118] 24 (0, 0)) (by (with_reducible repeat (first | refine kN ?_ _ | refine kD ?_ | refine kA ?_ _)); exact BK436.out)) : gb453 ≠ gb436)); have n17_ := aM ((by rw [hg]; exact Nat.ne_of_lt (blk_lt (g := gb438) (o := .cells #[.int .i64 ((rd_T42 l1 x37_1).f0), .int .i64 ((rd_T42 l1 x37_1).f1), .int .i64 ((rd_T42 l1 x37_1).f2), .slice A437_3 ((rd_T42 l1 x37_1).f3).length c437_3] 42 (0, 0)) (by (with_reducible repeat (first | refine kN ?_ _ | refine kD ?_ | refine kA ?_ _)); exact BK438.out)) : gb438 ≠ gb453)); have n18_ := aM ((by rw [hg]; exact Nat.ne_of_gt (blk_lt (g := gb438) (o := .cells #[.int .i64 ((rd_T42 l1 x37_1).f0), .int .i64 ((rd_T42 l1 x37_1).f1), .int .i64 ((rd_T42 l1 x37_1).f2), .slice A437_3 ((rd_T42 l1 x37_1).f3).length c437_3] 42 (0, 0)) (by (with_reducible repeat (first | refine kN ?_ _ | refine kD ?_ | refine kA ?_ _)); exact BK438.out)) : gb453 ≠ gb438)); have n19_ := aM ((by rw [hg]; exact Nat.ne_of_lt (blk_lt (g := gb452) (o := .cells #[.int .i64 0, .slice none 0 0] 24 (0, 0)) (by (with_reducible repeat (first | refine kN ?_ _ | refine kD ?_ | refine kA ?_ _)); exact BK452.out)) : gb452 ≠ gb453)); have n20_ := aM ((by rw [hg]; exact Nat.ne_of_gt (blk_lt (g := gb452) (o := .cells #[.int .i64 0, .slice none 0 0] 24 (0, 0)) (by (with_reducible repeat (first | refine kN ?_ _ | refine kD ?_ | refine kA ?_ _)); exact BK452.out)) : gb453 ≠ gb452)); clear HO_8; clear HO_35; clear HO_437001; clear HL437_3; clear HO443; clear HO447; clear HO450; clear BK436; clear HR437_3; clear BK438; clear BK452; clear HB; have HO_8 := n0_; have HO_35 := n1_; have HO_437001 := n2_; have HL437_3 := n3_; have HO443 := n4_; have HO447 := n5_; have HO450 := n6_; have BK436 := n7_; have HR437_3 := n8_; have BK438 := n9_; have BK452 := n10_; have HB := n11_; have BK453 := n12_; have GW453 := n13_; have GE453 := n14_; have NB436_453 := n15_; have NB453_436 := n16_; have NB438_453 := n17_; have NB453_438 := n18_; have NB452_453 := n19_; have NB453_452 := n20_; clear n0_ n1_ n2_ n3_ n4_ n5_ n6_ n7_ n8_ n9_ n10_ n11_ n12_ n13_ n14_ n15_ n16_ n17_ n18_ n19_ n20_; clear hb hbox hg; have hnb125 := NB452_436.out; have hnc125 := NB436_452.out; have hnb126 := NB452_438.out; have hnc126 := NB438_452.out; have hnb127 := NB452_453.out; have hnc127 := NB453_452.out; have hcz128_0 : w124.cell? ⟨gb452, 0, none⟩ = some (.int .i64 0) := (blk_cell BK452.out 0).trans rfl; have hcz128_1 : w124.cell? ⟨gb452, 1, none⟩ = some (.slice none 0 0) := (blk_cell BK452.out 1).trans rfl; have hfz128_0 := blk_frozen BK452.out 0; have hfz128_1 := blk_frozen BK452.out 1; obtain ⟨Ao129, co129, eo129⟩ := Kd.V_slice HO443.out; subst eo129; have hnb130 := NB453_436.out; have hnc130 := NB436_453.out; have hnb131 := NB453_438.out; have hnc131 := NB438_453.out; have hcz132_0 : w124.cell? ⟨gb453, 0, none⟩ = some (.int .i64 0) := (blk_cell BK453.out 0).trans rfl; have hcz132_1 : w124.cell? ⟨gb453, 1, none⟩ = some (.slice none 0 0) := (blk_cell BK453.out 1).trans rfl; have hfz132_0 := blk_frozen BK453.out 0; have hfz132_1 := blk_frozen BK453.out 1; obtain ⟨Ao133, co133, eo133⟩ := Kd.R_slice HO447.out; subst eo133))
            go_roundg k1
            case measure => have := HK1.out; omega
            case rel => exact ⟨(x8_1), (wrap64 (x37_1 + 1)), (x437000_1), (x437001_1), (.slice Ao118 x437001_1.length co118), (by first | rfl | (simp; done) | (simp [*]; done)), H', ⟨by have := HK1.out; omega⟩, ⟨by (with_reducible repeat (first | apply Kd.N_alloc | apply Kd.N_drewN | apply Kd.N_drew)); exact Kd.N_mono (Kd.N_far (p := ⟨gb453, 1, none⟩) (Kd.N_far (p := ⟨gb453, 0, none⟩) (Kd.N_far (p := ⟨gb452, 1, none⟩) (Kd.N_far (p := ⟨gb452, 0, none⟩) (Kd.N_mono (Kd.N_mono HO_8.out (fun k_ hk => (⟨hk, hk.1.2⟩ : _ ∧ k_ ≠ gb452))) (fun k_ hk => (⟨hk, hk.1.2⟩ : _ ∧ k_ ≠ gb453))) (fun _ hk => hk.1.2) (.int .i64 t440)) (fun _ hk => hk.1.2) (.slice Ao129 t441.length co129)) (fun _ hk => hk.2) (.int .i64 t444)) (fun _ hk => hk.2) (.slice Ao133 t445.length co133)) (fun _ hk => ⟨hk.1.1.1.1.1.1.1, hk.1.1.1.1.1.1.2.1⟩)⟩, ⟨by (with_reducible repeat (first | apply Kd.V_alloc | apply Kd.V_drewN | apply Kd.V_drew)); exact Kd.V_mono (Kd.V_far (p := ⟨gb453, 1, none⟩) (Kd.V_far (p := ⟨gb453, 0, none⟩) (Kd.V_far (p := ⟨gb452, 1, none⟩) (Kd.V_far (p := ⟨gb452, 0, none⟩) (Kd.V_mono (Kd.V_mono HO_35.out (fun k_ hk => (⟨hk, hk.1.2⟩ : _ ∧ k_ ≠ gb452))) (fun k_ hk => (⟨hk, hk.1.2⟩ : _ ∧ k_ ≠ gb453))) (fun _ hk => hk.1.2) (.int .i64 t440)) (fun _ hk => hk.1.2) (.slice Ao129 t441.length co129)) (fun _ hk => hk.2) (.int .i64 t444)) (fun _ hk => hk.2) (.slice Ao133 t445.length co133)) (fun _ hk => ⟨hk.1.1.1.1.1.1.1, ⟨hk.1.1.1.1.1.1.2.1, hk.1.1.1.1.1.1.2.2.1⟩⟩)⟩, ⟨by (with_reducible repeat (first | apply Kd.V_alloc | apply Kd.V_drewN | apply Kd.V_drew)); exact Kd.V_mono (Kd.V_far (p := ⟨gb453, 1, none⟩) (Kd.V_far (p := ⟨gb453, 0, none⟩) (Kd.V_far (p := ⟨gb452, 1, none⟩) (Kd.V_far (p := ⟨gb452, 0, none⟩) (Kd.V_mono (Kd.V_mono HO_437001.out (fun k_ hk => (⟨hk, hk.1.2⟩ : _ ∧ k_ ≠ gb452))) (fun k_ hk => (⟨hk, hk.1.2⟩ : _ ∧ k_ ≠ gb453))) (fun _ hk => hk.1.2) (.int .i64 t440)) (fun _ hk => hk.1.2) (.slice Ao129 t441.length co129)) (fun _ hk => hk.2) (.int .i64 t444)) (fun _ hk => hk.2) (.slice Ao133 t445.length co133)) (fun _ hk => ⟨hk.1.1.1.1.1.1.1, ⟨hk.1.1.1.1.1.1.2.1, hk.1.1.1.1.1.1.2.2.1⟩⟩)⟩, ⟨by (with_reducible repeat (first | refine kN ?_ _ | refine kD ?_ | refine kA ?_ _)); refine blk_far ?_ NB436_453.out _; (with_reducible repeat (first | refine kN ?_ _ | refine kD ?_ | refine kA ?_ _)); refine blk_far ?_ NB436_453.out _; (with_reducible repeat (first | refine kN ?_ _ | refine kD ?_ | refine kA ?_ _)); refine blk_far ?_ NB436_452.out _; (with_reducible repeat (first | refine kN ?_ _ | refine kD ?_ | refine kA ?_ _)); refine blk_far ?_ NB436_452.out _; (with_reducible repeat (first | refine kN ?_ _ | refine kD ?_ | refine kA ?_ _)); exact BK436.out⟩, ⟨by repeat (first | (with_reducible first | exact HB.out | apply bA | apply bN | apply bD | refine bS ?_ GE436.out | refine bS ?_ GE438.out | refine bS ?_ GE452.out | refine bS ?_ GE453.out) | exact HB.out)⟩⟩
         ·replace c18 := Bool.eq_false_iff.mpr c18
          subst c18
          have H1 : (some true) = some r := by rw [if_neg (show ¬ (false = true) by decide)] at H; exact H
          clear H
          have H := H1
          clear H1
          obtain rfl := Option.some.inj H
          have p437 : 0 ≤ (x37_1 : Int) := of_decide_eq_true (by first | (with_reducible assumption) | assumption)
          have q437 : x37_1 < (l1.length : Int) := of_decide_eq_true (by first | (with_reducible assumption) | assumption)
          obtain ⟨ad437, A437_3, c437_3, e437, hx437_0, hx437_1, hx437_2, hx437_3, hl437_3, hi437_3⟩ := at_T42 (Kd.V_reads' HO_35.out).2.2 x37_1 p437 q437
          cases e437
          obtain ⟨ce437, hce437, hMe437, hcc437⟩ := Kd.V_get HO_35.out z42 x37_1 p437 (by first | exact q437 | exact of_decide_eq_true (by first | (with_reducible assumption) | assumption) | (have e_ := (Kd.V_reads' HO_35.out).1; omega))
          obtain ⟨ua437_3, uc437_3, rfl, ul437_3, ge437_3⟩ := k42_openF hMe437
          have hv437_3 := hcc437 3 _ rfl
          rw [add_field _ _ 3 (by omega)] at hv437_3
          replace hv437_3 := Option.some.inj (hv437_3.symm.trans hx437_3)
          injection hv437_3 with hva_ hvn_ hvc_
          rw [hva_] at ge437_3
          rw [hvc_] at ul437_3
          have HL437_3 := aM (show Kd.V k31 31 _ w.heap.size _ _ ((rd_T42 l1 x37_1).f3) from Kd.V_mk ul437_3 ge437_3)
          clear hva_ hvn_ hvc_ ge437_3 ul437_3
          clear hcc437 hce437
          have HR437_3 := aM hi437_3
          have HC437_3 := aM hl437_3
          clear hi437_3 hl437_3
          replace p437 := eq_true p437
          replace q437 := eq_true q437
          go_wp2_with (first | ((with_reducible refine gate_dst (N := 10) rfl ?_); (try (refine gate_guard (by rfl) ?_; dsimp only)); refine box_event ?hg (N := 10) ?hd (cs := #[.int .i64 0, .int .i64 0, .int .i64 0, .slice none 0 0]) (t := 42) ?hr ?_; (case hd => rfl); (case hg => rfl); (case hr => first | (go_simp; done) | (go_simp; rfl)); intro gb438 hg w134 hbox hb; have n0_ := aM (Kd.N_below (Kd.N_elderB (by (with_reducible repeat (first | apply Kd.N_alloc | apply Kd.N_drewN | apply Kd.N_drew)); exact HO_8.out) gb438 (Nat.le_of_eq hg.symm)) hb); have n1_ := aM (Kd.V_below (Kd.V_elderB (by (with_reducible repeat (first | apply Kd.V_alloc | apply Kd.V_drewN | apply Kd.V_drew)); exact HO_35.out) gb438 (Nat.le_of_eq hg.symm)) hb); have n2_ := aM (Kd.V_below (Kd.V_elderB (by (with_reducible repeat (first | apply Kd.V_alloc | apply Kd.V_drewN | apply Kd.V_drew)); exact HO_437001.out) gb438 (Nat.le_of_eq hg.symm)) hb); have n3_ := aM (Kd.V_below (Kd.V_elderB (by (with_reducible repeat (first | apply Kd.V_alloc | apply Kd.V_drewN | apply Kd.V_drew)); exact HL437_3.out) gb438 (Nat.le_of_eq hg.symm)) hb); have n4_ := aM (blk_below (g := gb436) (o := .cells #[.int .i64 x437000_1, u437001] 24 (0, 0)) (by (with_reducible repeat (first | refine kN ?_ _ | refine kD ?_ | refine kA ?_ _)); exact BK436.out) hb); have n5_ := aM (Kd.C_below (by repeat (first | (with_reducible exact (Kd.V_reads' HL437_3.out).2.2) | (with_reducible refine Kd.C_alloc ?_ _) | (with_reducible refine Kd.C_drewN ?_ _) | (with_reducible refine Kd.C_drew ?_) | exact (Kd.V_reads' HL437_3.out).2.2)) hb); have n6_ := aM (below_step (by repeat (first | (with_reducible first | exact HB.out | apply bA | apply bN | apply bD | refine bS ?_ GE436.out) | exact HB.out)) hb); have n7_ := aM (hbox); have n8_ := aM ((by rw [hg]; exact (below_size (by repeat (first | (with_reducible first | exact HB.out | apply bA | apply bN | apply bD | refine bS ?_ GE436.out) | exact HB.out))) : w.heap.size ≤ gb438)); have n9_ := aM ((by rw [hg]; exact (below_size (by repeat (first | (with_reducible first | exact HB.out | apply bA | apply bN | apply bD | refine bS ?_ GE436.out) | exact HB.out))) : w.heap.size ≤ gb438)); have n10_ := aM ((by rw [hg]; exact Nat.ne_of_lt (blk_lt (g := gb436) (o := .cells #[.int .i64 x437000_1, u437001] 24 (0, 0)) (by (with_reducible repeat (first | refine kN ?_ _ | refine kD ?_ | refine kA ?_ _)); exact BK436.out)) : gb436 ≠ gb438)); have n11_ := aM ((by rw [hg]; exact Nat.ne_of_gt (blk_lt (g := gb436) (o := .cells #[.int .i64 x437000_1, u437001] 24 (0, 0)) (by (with_reducible repeat (first | refine kN ?_ _ | refine kD ?_ | refine kA ?_ _)); exact BK436.out)) : gb438 ≠ gb436)); clear HO_8; clear HO_35; clear HO_437001; clear HL437_3; clear BK436; clear HR437_3; clear HB; have HO_8 := n0_; have HO_35 := n1_; have HO_437001 := n2_; have HL437_3 := n3_; have BK436 := n4_; have HR437_3 := n5_; have HB := n6_; have BK438 := n7_; have GW438 := n8_; have GE438 := n9_; have NB436_438 := n10_; have NB438_436 := n11_; clear n0_ n1_ n2_ n3_ n4_ n5_ n6_ n7_ n8_ n9_ n10_ n11_; clear hb hbox hg; have hnb135 := NB438_436.out; have hnc135 := NB436_438.out; have hcz136_0 : w134.cell? ⟨gb438, 0, none⟩ = some (.int .i64 0) := (blk_cell BK438.out 0).trans rfl; have hcz136_1 : w134.cell? ⟨gb438, 1, none⟩ = some (.int .i64 0) := (blk_cell BK438.out 1).trans rfl; have hcz136_2 : w134.cell? ⟨gb438, 2, none⟩ = some (.int .i64 0) := (blk_cell BK438.out 2).trans rfl; have hcz136_3 : w134.cell? ⟨gb438, 3, none⟩ = some (.slice none 0 0) := (blk_cell BK438.out 3).trans rfl; have hfz136_0 := blk_frozen BK438.out 0; have hfz136_1 := blk_frozen BK438.out 1; have hfz136_2 := blk_frozen BK438.out 2; have hfz136_3 := blk_frozen BK438.out 3) | ((with_reducible refine gate_store (t := 42) (p := 10) rfl ?_); refine store_event (t := 42) (p := 10) (v := ?vo_w137) (w1 := ((((w134.setCell ⟨gb438, 0, none⟩ (.int .i64 ((rd_T42 l1 x37_1).f0))).setCell ⟨gb438, 1, none⟩ (.int .i64 ((rd_T42 l1 x37_1).f1))).setCell ⟨gb438, 2, none⟩ (.int .i64 ((rd_T42 l1 x37_1).f2))).setCell ⟨gb438, 3, none⟩ (.slice A437_3 ((rd_T42 l1 x37_1).f3).length c437_3))) ?hg ?ho ?hn ?hr ?_; (case ho => rfl); (case hg => rfl); (case hn => rfl); (case hr => first | (go_simp; done) | (go_simp; rfl)); intro w137 hw; have n0_ : Aside0 (Kd.N k31 31 w137 w.heap.size (fun k_ => (P1_ k_ ∨ w.heap.size ≤ k_) ∧ k_ ≠ gb436 ∧ k_ ≠ gb438) u8 x8_1) := ⟨(by rw [hw]; exact (by (with_reducible repeat (first | apply Kd.N_alloc | apply Kd.N_drewN | apply Kd.N_drew)); exact Kd.N_mono (Kd.N_far (p := ⟨gb438, 3, none⟩) (Kd.N_far (p := ⟨gb438, 2, none⟩) (Kd.N_far (p := ⟨gb438, 1, none⟩) (Kd.N_far (p := ⟨gb438, 0, none⟩) (Kd.N_mono HO_8.out (fun k_ hk => (⟨hk, hk.2⟩ : _ ∧ k_ ≠ gb438))) (fun _ hk => hk.2) (.int .i64 ((rd_T42 l1 x37_1).f0))) (fun _ hk => hk.2) (.int .i64 ((rd_T42 l1 x37_1).f1))) (fun _ hk => hk.2) (.int .i64 ((rd_T42 l1 x37_1).f2))) (fun _ hk => hk.2) (.slice A437_3 ((rd_T42 l1 x37_1).f3).length c437_3)) (fun _ hk => ⟨hk.1.1.1, ⟨hk.1.1.2, hk.1.2⟩⟩)))⟩; have n1_ : Aside0 (Kd.V k42 42 w137 w.heap.size (fun k_ => (P1_ k_ ∨ w.heap.size ≤ k_) ∧ some k_ ≠ (u8 : Value).ownBlock ∧ k_ ≠ gb436 ∧ k_ ≠ gb438) (.slice (some ad437) l1.length c1) l1) := ⟨(by rw [hw]; exact (by (with_reducible repeat (first | apply Kd.V_alloc | apply Kd.V_drewN | apply Kd.V_drew)); exact Kd.V_mono (Kd.V_far (p := ⟨gb438, 3, none⟩) (Kd.V_far (p := ⟨gb438, 2, none⟩) (Kd.V_far (p := ⟨gb438, 1, none⟩) (Kd.V_far (p := ⟨gb438, 0, none⟩) (Kd.V_mono HO_35.out (fun k_ hk => (⟨hk, hk.2⟩ : _ ∧ k_ ≠ gb438))) (fun _ hk => hk.2) (.int .i64 ((rd_T42 l1 x37_1).f0))) (fun _ hk => hk.2) (.int .i64 ((rd_T42 l1 x37_1).f1))) (fun _ hk => hk.2) (.int .i64 ((rd_T42 l1 x37_1).f2))) (fun _ hk => hk.2) (.slice A437_3 ((rd_T42 l1 x37_1).f3).length c437_3)) (fun _ hk => ⟨hk.1.1.1, ⟨hk.1.1.2.1, ⟨hk.1.1.2.2, hk.1.2⟩⟩⟩)))⟩; have n2_ : Aside0 (Kd.V k31 31 w137 w.heap.size (fun k_ => (P1_ k_ ∨ w.heap.size ≤ k_) ∧ some k_ ≠ (u8 : Value).ownBlock ∧ k_ ≠ gb436 ∧ k_ ≠ gb438) u437001 x437001_1) := ⟨(by rw [hw]; exact (by (with_reducible repeat (first | apply Kd.V_alloc | apply Kd.V_drewN | apply Kd.V_drew)); exact Kd.V_mono (Kd.V_far (p := ⟨gb438, 3, none⟩) (Kd.V_far (p := ⟨gb438, 2, none⟩) (Kd.V_far (p := ⟨gb438, 1, none⟩) (Kd.V_far (p := ⟨gb438, 0, none⟩) (Kd.V_mono HO_437001.out (fun k_ hk => (⟨hk, hk.2⟩ : _ ∧ k_ ≠ gb438))) (fun _ hk => hk.2) (.int .i64 ((rd_T42 l1 x37_1).f0))) (fun _ hk => hk.2) (.int .i64 ((rd_T42 l1 x37_1).f1))) (fun _ hk => hk.2) (.int .i64 ((rd_T42 l1 x37_1).f2))) (fun _ hk => hk.2) (.slice A437_3 ((rd_T42 l1 x37_1).f3).length c437_3)) (fun _ hk => ⟨hk.1.1.1, ⟨hk.1.1.2.1, ⟨hk.1.1.2.2, hk.1.2⟩⟩⟩)))⟩; have n3_ : Aside0 (Kd.V k31 31 w137 w.heap.size (fun k_ => (P1_ k_ ∨ w.heap.size ≤ k_) ∧ some k_ ≠ (u8 : Value).ownBlock ∧ k_ ≠ gb436 ∧ k_ ≠ gb438) (.slice A437_3 ((rd_T42 l1 x37_1).f3).length c437_3) ((rd_T42 l1 x37_1).f3)) := ⟨(by rw [hw]; exact (by (with_reducible repeat (first | apply Kd.V_alloc | apply Kd.V_drewN | apply Kd.V_drew)); exact Kd.V_mono (Kd.V_far (p := ⟨gb438, 3, none⟩) (Kd.V_far (p := ⟨gb438, 2, none⟩) (Kd.V_far (p := ⟨gb438, 1, none⟩) (Kd.V_far (p := ⟨gb438, 0, none⟩) (Kd.V_mono HL437_3.out (fun k_ hk => (⟨hk, hk.2⟩ : _ ∧ k_ ≠ gb438))) (fun _ hk => hk.2) (.int .i64 ((rd_T42 l1 x37_1).f0))) (fun _ hk => hk.2) (.int .i64 ((rd_T42 l1 x37_1).f1))) (fun _ hk => hk.2) (.int .i64 ((rd_T42 l1 x37_1).f2))) (fun _ hk => hk.2) (.slice A437_3 ((rd_T42 l1 x37_1).f3).length c437_3)) (fun _ hk => ⟨hk.1.1.1, ⟨hk.1.1.2.1, ⟨hk.1.1.2.2, hk.1.2⟩⟩⟩)))⟩; have n4_ : Aside0 (w137.heap[gb436]? = some (.cells #[.int .i64 x437000_1, u437001] 24 (0, 0))) := ⟨(by rw [hw]; exact (by (with_reducible repeat (first | refine kN ?_ _ | refine kD ?_ | refine kA ?_ _)); refine blk_far ?_ NB436_438.out _; (with_reducible repeat (first | refine kN ?_ _ | refine kD ?_ | refine kA ?_ _)); refine blk_far ?_ NB436_438.out _; (with_reducible repeat (first | refine kN ?_ _ | refine kD ?_ | refine kA ?_ _)); refine blk_far ?_ NB436_438.out _; (with_reducible repeat (first | refine kN ?_ _ | refine kD ?_ | refine kA ?_ _)); refine blk_far ?_ NB436_438.out _; (with_reducible repeat (first | refine kN ?_ _ | refine kD ?_ | refine kA ?_ _)); exact BK436.out))⟩; have n5_ : Aside0 (w137.heap[gb438]? = some (.cells #[.int .i64 ((rd_T42 l1 x37_1).f0), .int .i64 ((rd_T42 l1 x37_1).f1), .int .i64 ((rd_T42 l1 x37_1).f2), .slice A437_3 ((rd_T42 l1 x37_1).f3).length c437_3] 42 (0, 0))) := ⟨(by rw [hw]; exact (by (with_reducible repeat (first | refine kN ?_ _ | refine kD ?_ | refine kA ?_ _)); refine blk_put (cs := #[.int .i64 ((rd_T42 l1 x37_1).f0), .int .i64 ((rd_T42 l1 x37_1).f1), .int .i64 ((rd_T42 l1 x37_1).f2), .slice none 0 0]) ?_ 3 _ rfl; (with_reducible repeat (first | refine kN ?_ _ | refine kD ?_ | refine kA ?_ _)); refine blk_put (cs := #[.int .i64 ((rd_T42 l1 x37_1).f0), .int .i64 ((rd_T42 l1 x37_1).f1), .int .i64 0, .slice none 0 0]) ?_ 2 _ rfl; (with_reducible repeat (first | refine kN ?_ _ | refine kD ?_ | refine kA ?_ _)); refine blk_put (cs := #[.int .i64 ((rd_T42 l1 x37_1).f0), .int .i64 0, .int .i64 0, .slice none 0 0]) ?_ 1 _ rfl; (with_reducible repeat (first | refine kN ?_ _ | refine kD ?_ | refine kA ?_ _)); refine blk_put (cs := #[.int .i64 0, .int .i64 0, .int .i64 0, .slice none 0 0]) ?_ 0 _ rfl; (with_reducible repeat (first | refine kN ?_ _ | refine kD ?_ | refine kA ?_ _)); exact BK438.out))⟩; have n6_ : Aside0 (Below w.heap.size w w137) := ⟨(by rw [hw]; exact (by repeat (first | (with_reducible first | exact HB.out | apply bA | apply bN | apply bD | refine bS ?_ GE436.out | refine bS ?_ GE438.out) | exact HB.out)))⟩; clear hw; clear HO_8; clear HO_35; clear HO_437001; clear HL437_3; clear BK436; clear BK438; clear HB; have HO_8 := n0_; have HO_35 := n1_; have HO_437001 := n2_; have HL437_3 := n3_; have BK436 := n4_; have BK438 := n5_; have HB := n6_; clear n0_ n1_ n2_ n3_ n4_ n5_ n6_; have hcz138_0 : w137.cell? ⟨gb436, 0, none⟩ = some (.int .i64 x437000_1) := (blk_cell BK436.out 0).trans rfl; have hcz138_1 : w137.cell? ⟨gb436, 1, none⟩ = some (u437001) := (blk_cell BK436.out 1).trans rfl; have hfz138_0 := blk_frozen BK436.out 0; have hfz138_1 := blk_frozen BK436.out 1; have hcz139_0 : w137.cell? ⟨gb438, 0, none⟩ = some (.int .i64 ((rd_T42 l1 x37_1).f0)) := (blk_cell BK438.out 0).trans rfl; have hcz139_1 : w137.cell? ⟨gb438, 1, none⟩ = some (.int .i64 ((rd_T42 l1 x37_1).f1)) := (blk_cell BK438.out 1).trans rfl; have hcz139_2 : w137.cell? ⟨gb438, 2, none⟩ = some (.int .i64 ((rd_T42 l1 x37_1).f2)) := (blk_cell BK438.out 2).trans rfl; have hcz139_3 : w137.cell? ⟨gb438, 3, none⟩ = some (.slice A437_3 ((rd_T42 l1 x37_1).f3).length c437_3) := (blk_cell BK438.out 3).trans rfl; have hfz139_0 := blk_frozen BK438.out 0; have hfz139_1 := blk_frozen BK438.out 1; have hfz139_2 := blk_frozen BK438.out 2; have hfz139_3 := blk_frozen BK438.out 3; obtain ⟨Ao140, co140, eo140⟩ := Kd.V_slice HO_437001.out; subst eo140) | ((with_reducible refine gate_callee (f := 8) rfl ?_); refine goesL_ (some 44) rfl rfl Try.func8 (by kernel_rfl) rfl #[.agg #[.int .i64 x437000_1, .slice Ao140 x437001_1.length co140], .slice A437_3 ((rd_T42 l1 x37_1).f3).length c437_3] rfl (by (try simp only [List.map_toArray, List.map_cons, List.map_nil]); first | done | rfl | (simp only [List.length_drop, List.length_take]; rfl)) ?_; (with_reducible refine (squelchlaw21_few.calls k1 x437000_1 (fun k_ => ((P1_ k_ ∨ w.heap.size ≤ k_) ∧ (some k_ ≠ (u8 : Value).ownBlock ∧ (k_ ≠ gb436 ∧ k_ ≠ gb438)))) _ _ x437001_1 (fun k_ => ((P1_ k_ ∨ w.heap.size ≤ k_) ∧ (some k_ ≠ (u8 : Value).ownBlock ∧ (k_ ≠ gb436 ∧ k_ ≠ gb438)))) _ _ ((rd_T42 l1 x37_1).f3) false _ ?side1 ?side2 A17.out).mono ?_); (case side1 => exact HO_437001.out); (case side2 => exact HL437_3.out); rintro e w141 ⟨rfl, hb⟩; refine ⟨_, rfl, ?_⟩; have n0_ := aM (Kd.N_below (by (with_reducible repeat (first | apply Kd.N_alloc | apply Kd.N_drewN | apply Kd.N_drew)); exact HO_8.out) hb); have n1_ := aM (Kd.V_below (by (with_reducible repeat (first | apply Kd.V_alloc | apply Kd.V_drewN | apply Kd.V_drew)); exact HO_35.out) hb); have n2_ := aM (Kd.V_below (by (with_reducible repeat (first | apply Kd.V_alloc | apply Kd.V_drewN | apply Kd.V_drew)); exact HO_437001.out) hb); have n3_ := aM (Kd.V_below (by (with_reducible repeat (first | apply Kd.V_alloc | apply Kd.V_drewN | apply Kd.V_drew)); exact HL437_3.out) hb); have n4_ := aM (blk_below (g := gb436) (o := .cells #[.int .i64 x437000_1, .slice Ao140 x437001_1.length co140] 24 (0, 0)) (by (with_reducible repeat (first | refine kN ?_ _ | refine kD ?_ | refine kA ?_ _)); exact BK436.out) hb); have n5_ := aM (Kd.C_below (by repeat (first | (with_reducible exact (Kd.V_reads' HL437_3.out).2.2) | (with_reducible refine Kd.C_alloc ?_ _) | (with_reducible refine Kd.C_drewN ?_ _) | (with_reducible refine Kd.C_drew ?_) | exact (Kd.V_reads' HL437_3.out).2.2)) hb); have n6_ := aM (blk_below (g := gb438) (o := .cells #[.int .i64 ((rd_T42 l1 x37_1).f0), .int .i64 ((rd_T42 l1 x37_1).f1), .int .i64 ((rd_T42 l1 x37_1).f2), .slice A437_3 ((rd_T42 l1 x37_1).f3).length c437_3] 42 (0, 0)) (by (with_reducible repeat (first | refine kN ?_ _ | refine kD ?_ | refine kA ?_ _)); exact BK438.out) hb); have n7_ := aM (below_step (by repeat (first | (with_reducible first | exact HB.out | apply bA | apply bN | apply bD | refine bS ?_ GE436.out | refine bS ?_ GE438.out) | exact HB.out)) hb); clear HO_8; clear HO_35; clear HO_437001; clear HL437_3; clear BK436; clear HR437_3; clear BK438; clear HB; have HO_8 := n0_; have HO_35 := n1_; have HO_437001 := n2_; have HL437_3 := n3_; have BK436 := n4_; have HR437_3 := n5_; have BK438 := n6_; have HB := n7_; clear n0_ n1_ n2_ n3_ n4_ n5_ n6_ n7_; (try clear hb); (try clear hb2); (try clear hk); (try clear hi)))
          go_ret
          exact ⟨by first | rfl | (simp [errW_none, errW_some] <;> rfl) | (simp [*, errW_none, errW_some] <;> rfl) | (simp [wrap64]; done), by repeat (first | (with_reducible first | exact HB.out | apply bA | apply bN | apply bD | refine bS ?_ GE436.out | refine bS ?_ GE438.out) | exact HB.out)⟩
        ·rw [if_neg c16] at H
         exact absurd H (by simp)
       ·rw [if_neg c15] at H
        exact absurd H (by simp)
      ·rw [if_neg c14] at H
       have c14b0 : decide (x37_1 < (l1.length : Int)) = false := decide_eq_false c14
       clear c14
       obtain rfl := Option.some.inj H
       go_wp2
       go_ret
       exact ⟨by first | rfl | (simp [errW_none, errW_some] <;> rfl) | (simp [*, errW_none, errW_some] <;> rfl) | (simp [wrap64]; done), by repeat (first | (with_reducible first | exact HB.out | apply bA | apply bN | apply bD | refine bS ?_ GE436.out) | exact HB.out)⟩
   ·rw [if_neg c8] at H
    have c8b0 : (t435 == 0) = false := beq_eq_false_iff_ne.mpr c8
    have c8b1 : (t435 != 0) = true := bne_iff_ne.mpr c8
    obtain rfl := Option.some.inj H
    exact absurd HR_.out (by simp)
 ·replace c4 := Bool.eq_false_iff.mpr c4
  subst c4
  have H1 : (some false) = some r := by rw [if_neg (show ¬ (false = true) by decide)] at H; exact H
  clear H
  have H := H1
  clear H1
  obtain rfl := Option.some.inj H
  exact absurd HR_.out (by simp)

def squelchlaw21_PoolSent.Pure : Prop := ∀ (a0 : Int) (l1 : List (S42)), (Lit.int .i64 a0).wf = true → (l1.length * 48 ≤ 140737488351232 ∧ l1.length ≤ 9223372036854775807 ∧ ∀ y0_ ∈ l1, ((Lit.int .i64 y0_.f0).wf = true ∧ (Lit.int .i64 y0_.f1).wf = true ∧ (Lit.int .i64 y0_.f2).wf = true ∧ (y0_.f3.length * 32 ≤ 140737488351232 ∧ y0_.f3.length ≤ 9223372036854775807 ∧ ∀ y1_ ∈ y0_.f3, ((Lit.int .i64 y1_.f0).wf = true ∧ (y1_.f1.length * 1 ≤ 140737488351232 ∧ y1_.f1.length ≤ 9223372036854775807 ∧ ∀ y2_ ∈ y1_.f1, (Lit.int .u8 y2_).wf = true))))) → ∃ k, squelchlaw21_PoolSent.f k a0 l1 = some true

end Go.Proofs.Yteleojddlaflnaa.PA
-- slim
