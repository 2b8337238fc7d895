-- Written for this claim by this session's own printer (wip/patch_print.py over the kit's print).
import Derived.Test.YteleojddlaflnaaPAx0
import Derived.Test.YteleojddlaflnaaPAx5
import Derived.Test.YteleojddlaflnaaPAx6
import Derived.Test.YteleojddlaflnaaPAx8
import Derived.Test.YteleojddlaflnaaPAx9
import Derived.Test.YteleojddlaflnaaPAx10
import Derived.Test.YteleojddlaflnaaHTake
import Derived.Test.YteleojddlaflnaaHSwap
namespace Go.Proofs.Yteleojddlaflnaa.PA
open Go.RowKit Go.Proofs.YteleojddlaflnaaW.PrintWords Go.Proofs.YteleojddlaflnaaW.PrintLast Go.Proofs.YteleojddlaflnaaW.PrintMore
attribute [local go_sem] max2_int min2_int max_two min_two max_three min_three max_four min_four   -- for this text's walks alone
set_option linter.unusedVariables false
set_option linter.unusedSimpArgs false

/-! ### squelchlaw21_PoolBack: function 5 -/
mutual
def squelchlaw21_PoolBack.j0 : Nat → Int → Int → Int → Bool → Bool → Int → List (S31) → Option (Bool)
 | 0, _, _, _, _, _, _, _ => none
 | k + 1, x1, x2, x3, x9, x43, x312000, x312001 => if x43 = true then (some x9) else (if (x312001.length : Int) = 0 then (none) else (if 0 ≤ (Int.tmod (wrap64 ((Int.tmod x1 (x312001.length : Int)) + (x312001.length : Int))) (x312001.length : Int)) then (if (Int.tmod (wrap64 ((Int.tmod x1 (x312001.length : Int)) + (x312001.length : Int))) (x312001.length : Int)) < (x312001.length : Int) then (if (wrap64 (8 * (((rd_T31 x312001 (Int.tmod (wrap64 ((Int.tmod x1 (x312001.length : Int)) + (x312001.length : Int))) (x312001.length : Int))).f1).length : Int))) = 0 then (none) else ((pool_Spoil.f k x312000 x312001 (Int.tmod (wrap64 ((Int.tmod x1 (x312001.length : Int)) + (x312001.length : Int))) (x312001.length : Int)) (Int.tmod (wrap64 ((Int.tmod x3 (wrap64 (8 * (((rd_T31 x312001 (Int.tmod (wrap64 ((Int.tmod x1 (x312001.length : Int)) + (x312001.length : Int))) (x312001.length : Int))).f1).length : Int)))) + (wrap64 (8 * (((rd_T31 x312001 (Int.tmod (wrap64 ((Int.tmod x1 (x312001.length : Int)) + (x312001.length : Int))) (x312001.length : Int))).f1).length : Int))))) (wrap64 (8 * (((rd_T31 x312001 (Int.tmod (wrap64 ((Int.tmod x1 (x312001.length : Int)) + (x312001.length : Int))) (x312001.length : Int))).f1).length : Int))))).bind fun bt316 => ((pool_Spoil.f k bt316.1 bt316.2.1 (Int.tmod (wrap64 ((Int.tmod x1 (x312001.length : Int)) + (x312001.length : Int))) (x312001.length : Int)) (Int.tmod (wrap64 ((Int.tmod x3 (wrap64 (8 * (((rd_T31 x312001 (Int.tmod (wrap64 ((Int.tmod x1 (x312001.length : Int)) + (x312001.length : Int))) (x312001.length : Int))).f1).length : Int)))) + (wrap64 (8 * (((rd_T31 x312001 (Int.tmod (wrap64 ((Int.tmod x1 (x312001.length : Int)) + (x312001.length : Int))) (x312001.length : Int))).f1).length : Int))))) (wrap64 (8 * (((rd_T31 x312001 (Int.tmod (wrap64 ((Int.tmod x1 (x312001.length : Int)) + (x312001.length : Int))) (x312001.length : Int))).f1).length : Int))))).bind fun bt322 => ((pool_Swap.f k x312000 x312001 (Int.tmod (wrap64 ((Int.tmod x1 (x312001.length : Int)) + (x312001.length : Int))) (x312001.length : Int)) (Int.tmod (wrap64 ((Int.tmod x2 (x312001.length : Int)) + (x312001.length : Int))) (x312001.length : Int))).bind fun bt328 => ((pool_Swap.f k bt328.1 bt328.2.1 (Int.tmod (wrap64 ((Int.tmod x2 (x312001.length : Int)) + (x312001.length : Int))) (x312001.length : Int)) (Int.tmod (wrap64 ((Int.tmod x1 (x312001.length : Int)) + (x312001.length : Int))) (x312001.length : Int))).bind fun bt334 => (if bt316.2.2 = 0 then (if bt322.2.2 = 0 then (if bt328.2.2 = 0 then (if bt334.2.2 = 0 then ((pool_Same.f k bt316.1 bt316.2.1 x312000 x312001).bind fun t340 => (if t340 = true then (squelchlaw21_PoolBack.j1 k (Int.tmod (wrap64 ((Int.tmod x1 (x312001.length : Int)) + (x312001.length : Int))) (x312001.length : Int)) x9 true x312000 x312001) else ((pool_Same.f k bt322.1 bt322.2.1 x312000 x312001).bind fun t341 => (if t341 = true then ((pool_Same.f k bt334.1 bt334.2.1 x312000 x312001).bind fun t342 => (squelchlaw21_PoolBack.j1 k (Int.tmod (wrap64 ((Int.tmod x1 (x312001.length : Int)) + (x312001.length : Int))) (x312001.length : Int)) x9 (!t342) x312000 x312001)) else (squelchlaw21_PoolBack.j1 k (Int.tmod (wrap64 ((Int.tmod x1 (x312001.length : Int)) + (x312001.length : Int))) (x312001.length : Int)) x9 true x312000 x312001))))) else (squelchlaw21_PoolBack.j1 k (Int.tmod (wrap64 ((Int.tmod x1 (x312001.length : Int)) + (x312001.length : Int))) (x312001.length : Int)) x9 true x312000 x312001)) else (squelchlaw21_PoolBack.j1 k (Int.tmod (wrap64 ((Int.tmod x1 (x312001.length : Int)) + (x312001.length : Int))) (x312001.length : Int)) x9 true x312000 x312001)) else (squelchlaw21_PoolBack.j1 k (Int.tmod (wrap64 ((Int.tmod x1 (x312001.length : Int)) + (x312001.length : Int))) (x312001.length : Int)) x9 true x312000 x312001)) else (squelchlaw21_PoolBack.j1 k (Int.tmod (wrap64 ((Int.tmod x1 (x312001.length : Int)) + (x312001.length : Int))) (x312001.length : Int)) x9 true x312000 x312001))))))) else (none)) else (none)))
def squelchlaw21_PoolBack.j1 : Nat → Int → Bool → Bool → Int → List (S31) → Option (Bool)
 | 0, _, _, _, _, _ => none
 | k + 1, x1, x9, x144, x312000, x312001 => if x144 = true then (some false) else ((pool_Double.f k x312000 x312001 x1).bind fun bt343 => (if bt343.2.2 = 0 then ((pool_Drop.f k bt343.1 bt343.2.1 (x312001.length : Int)).bind fun bt349 => (if bt349.2.2 = 0 then ((pool_Same.f k bt349.1 bt349.2.1 x312000 x312001).bind fun t355 => (if t355 = true then (if 0 ≤ (x312001.length : Int) then (if (x312001.length : Int) < (bt343.2.1.length : Int) then (if 0 ≤ x1 then (if x1 < (x312001.length : Int) then ((squelchref21_SameGram.f ((rd_T31 bt343.2.1 (x312001.length : Int)).f0) ((rd_T31 bt343.2.1 (x312001.length : Int)).f1) ((rd_T31 x312001 x1).f0) ((rd_T31 x312001 x1).f1)).bind fun t358 => (if t358 = true then (squelchlaw21_PoolBack.j2 k x9 x312000 x312001) else (some false))) else (none)) else (none)) else (none)) else (none)) else (some false))) else (some false))) else (if bt343.2.2 = 2 then (if (x312001.length : Int) < x312000 then (some false) else (squelchlaw21_PoolBack.j2 k x9 x312000 x312001)) else (some false))))
def squelchlaw21_PoolBack.j2 : Nat → Bool → Int → List (S31) → Option (Bool)
 | 0, _, _, _ => none
 | k + 1, x9, x312000, x312001 => squelchlaw21_PoolBack.l0 k x9 x312001 (x312001.length : Int) 0 x312000 x312001
def squelchlaw21_PoolBack.l0 : Nat → Bool → List (S31) → Int → Int → Int → List (S31) → Option (Bool)
 | 0, _, _, _, _, _, _ => none
 | k + 1, x9, x197, x198, x199, x360000, x360001 => if x199 < x198 then (if 0 ≤ x199 then (if x199 < (x197.length : Int) then ((pool_Take.f k x360000 x360001 0).bind fun bt362 => (if bt362.2.2.2.2 = 0 then ((squelchref21_SameGram.f bt362.2.2.1 bt362.2.2.2.1 ((rd_T31 x197 x199).f0) ((rd_T31 x197 x199).f1)).bind fun t373 => (if t373 = true then (squelchlaw21_PoolBack.l0 k x9 x197 x198 (wrap64 (x199 + 1)) bt362.1 bt362.2.1) else (some false))) else (some false))) else (none)) else (none)) else (if x9 = true then (some ((x360001.length : Int) == 0)) else (some false))
end
def squelchlaw21_PoolBack.f (k : Nat) (a0_0 : Int) (l0_1 : List (S31)) (a1 : Int) (a2 : Int) (a3 : Int) : Option (Bool) := (squelchlaw21_live.f k).bind fun t312 => ((squelchlaw21_few.f k a0_0 l0_1 ([] : List (S31))).bind fun t313 => (if t313 = true then ((squelchref21_Check.f k a0_0 l0_1).bind fun t314 => (if t314 = 0 then (squelchlaw21_PoolBack.j0 k a1 a2 a3 t312 ((l0_1.length : Int) == 0) a0_0 l0_1) else (squelchlaw21_PoolBack.j0 k a1 a2 a3 t312 true a0_0 l0_1))) else (squelchlaw21_PoolBack.j0 k a1 a2 a3 t312 true a0_0 l0_1)))
theorem squelchlaw21_PoolBack.mono_l : ∀ k, (∀ y0 y1 y2 y3 y4 y5 y6, LeO (squelchlaw21_PoolBack.j0 k y0 y1 y2 y3 y4 y5 y6) (squelchlaw21_PoolBack.j0 (k + 1) y0 y1 y2 y3 y4 y5 y6)) ∧ (∀ y0 y1 y2 y3 y4, LeO (squelchlaw21_PoolBack.j1 k y0 y1 y2 y3 y4) (squelchlaw21_PoolBack.j1 (k + 1) y0 y1 y2 y3 y4)) ∧ (∀ y0 y1 y2, LeO (squelchlaw21_PoolBack.j2 k y0 y1 y2) (squelchlaw21_PoolBack.j2 (k + 1) y0 y1 y2)) ∧ (∀ y0 y1 y2 y3 y4 y5, LeO (squelchlaw21_PoolBack.l0 k y0 y1 y2 y3 y4 y5) (squelchlaw21_PoolBack.l0 (k + 1) y0 y1 y2 y3 y4 y5))
 | 0 => ⟨fun _ _ _ _ _ _ _ r h => by simp [squelchlaw21_PoolBack.j0] at h, fun _ _ _ _ _ r h => by simp [squelchlaw21_PoolBack.j1] at h, fun _ _ _ r h => by simp [squelchlaw21_PoolBack.j2] at h, fun _ _ _ _ _ _ r h => by simp [squelchlaw21_PoolBack.l0] at h⟩
 | k + 1 => by
  obtain ⟨ih0, ih1, ih2, ih3⟩ := squelchlaw21_PoolBack.mono_l k
  refine ⟨?_, ?_, ?_, ?_⟩
  ·intro y0 y1 y2 y3 y4 y5 y6
   unfold squelchlaw21_PoolBack.j0
   repeat' first
   | (with_reducible exact ih0 _ _ _ _ _ _ _)
   | (with_reducible exact ih1 _ _ _ _ _)
   | (with_reducible exact ih2 _ _ _)
   | (with_reducible exact ih3 _ _ _ _ _ _)
   | (with_reducible exact pool_Double.mono _ _ _ _)
   | (with_reducible exact pool_Drop.mono _ _ _ _)
   | (with_reducible exact pool_Same.mono _ _ _ _ _)
   | (with_reducible exact pool_Spoil.mono _ _ _ _ _)
   | (with_reducible exact pool_Swap.mono _ _ _ _ _)
   | (with_reducible exact pool_Take.mono _ _ _ _)
   | (with_reducible exact squelchlaw21_few.mono _ _ _ _)
   | (with_reducible exact squelchlaw21_live.mono _)
   | (with_reducible exact squelchref21_Check.mono _ _ _)
   | (with_reducible exact LeO.refl _)
   | (with_reducible exact LeO.none _)
   | (with_reducible refine LeO.ite ?_ ?_)
   | (with_reducible refine LeO.bind ?_ (fun _ => ?_))
   | exact ih0 _ _ _ _ _ _ _
   | exact ih1 _ _ _ _ _
   | exact ih2 _ _ _
   | exact ih3 _ _ _ _ _ _
   | exact pool_Double.mono _ _ _ _
   | exact pool_Drop.mono _ _ _ _
   | exact pool_Same.mono _ _ _ _ _
   | exact pool_Spoil.mono _ _ _ _ _
   | exact pool_Swap.mono _ _ _ _ _
   | exact pool_Take.mono _ _ _ _
   | exact squelchlaw21_few.mono _ _ _ _
   | exact squelchlaw21_live.mono _
   | exact squelchref21_Check.mono _ _ _
   | exact LeO.none _
   | refine LeO.ite ?_ ?_
   | refine LeO.bind ?_ (fun _ => ?_)
  ·intro y0 y1 y2 y3 y4
   unfold squelchlaw21_PoolBack.j1
   repeat' first
   | (with_reducible exact ih0 _ _ _ _ _ _ _)
   | (with_reducible exact ih1 _ _ _ _ _)
   | (with_reducible exact ih2 _ _ _)
   | (with_reducible exact ih3 _ _ _ _ _ _)
   | (with_reducible exact pool_Double.mono _ _ _ _)
   | (with_reducible exact pool_Drop.mono _ _ _ _)
   | (with_reducible exact pool_Same.mono _ _ _ _ _)
   | (with_reducible exact pool_Spoil.mono _ _ _ _ _)
   | (with_reducible exact pool_Swap.mono _ _ _ _ _)
   | (with_reducible exact pool_Take.mono _ _ _ _)
   | (with_reducible exact squelchlaw21_few.mono _ _ _ _)
   | (with_reducible exact squelchlaw21_live.mono _)
   | (with_reducible exact squelchref21_Check.mono _ _ _)
   | (with_reducible exact LeO.refl _)
   | (with_reducible exact LeO.none _)
   | (with_reducible refine LeO.ite ?_ ?_)
   | (with_reducible refine LeO.bind ?_ (fun _ => ?_))
   | exact ih0 _ _ _ _ _ _ _
   | exact ih1 _ _ _ _ _
   | exact ih2 _ _ _
   | exact ih3 _ _ _ _ _ _
   | exact pool_Double.mono _ _ _ _
   | exact pool_Drop.mono _ _ _ _
   | exact pool_Same.mono _ _ _ _ _
   | exact pool_Spoil.mono _ _ _ _ _
   | exact pool_Swap.mono _ _ _ _ _
   | exact pool_Take.mono _ _ _ _
   | exact squelchlaw21_few.mono _ _ _ _
   | exact squelchlaw21_live.mono _
   | exact squelchref21_Check.mono _ _ _
   | exact LeO.none _
   | refine LeO.ite ?_ ?_
   | refine LeO.bind ?_ (fun _ => ?_)
  ·intro y0 y1 y2
   unfold squelchlaw21_PoolBack.j2
   repeat' first
   | (with_reducible exact ih0 _ _ _ _ _ _ _)
   | (with_reducible exact ih1 _ _ _ _ _)
   | (with_reducible exact ih2 _ _ _)
   | (with_reducible exact ih3 _ _ _ _ _ _)
   | (with_reducible exact pool_Double.mono _ _ _ _)
   | (with_reducible exact pool_Drop.mono _ _ _ _)
   | (with_reducible exact pool_Same.mono _ _ _ _ _)
   | (with_reducible exact pool_Spoil.mono _ _ _ _ _)
   | (with_reducible exact pool_Swap.mono _ _ _ _ _)
   | (with_reducible exact pool_Take.mono _ _ _ _)
   | (with_reducible exact squelchlaw21_few.mono _ _ _ _)
   | (with_reducible exact squelchlaw21_live.mono _)
   | (with_reducible exact squelchref21_Check.mono _ _ _)
   | (with_reducible exact LeO.refl _)
   | (with_reducible exact LeO.none _)
   | (with_reducible refine LeO.ite ?_ ?_)
   | (with_reducible refine LeO.bind ?_ (fun _ => ?_))
   | exact ih0 _ _ _ _ _ _ _
   | exact ih1 _ _ _ _ _
   | exact ih2 _ _ _
   | exact ih3 _ _ _ _ _ _
   | exact pool_Double.mono _ _ _ _
   | exact pool_Drop.mono _ _ _ _
   | exact pool_Same.mono _ _ _ _ _
   | exact pool_Spoil.mono _ _ _ _ _
   | exact pool_Swap.mono _ _ _ _ _
   | exact pool_Take.mono _ _ _ _
   | exact squelchlaw21_few.mono _ _ _ _
   | exact squelchlaw21_live.mono _
   | exact squelchref21_Check.mono _ _ _
   | exact LeO.none _
   | refine LeO.ite ?_ ?_
   | refine LeO.bind ?_ (fun _ => ?_)
  ·intro y0 y1 y2 y3 y4 y5
   unfold squelchlaw21_PoolBack.l0
   repeat' first
   | (with_reducible exact ih0 _ _ _ _ _ _ _)
   | (with_reducible exact ih1 _ _ _ _ _)
   | (with_reducible exact ih2 _ _ _)
   | (with_reducible exact ih3 _ _ _ _ _ _)
   | (with_reducible exact pool_Double.mono _ _ _ _)
   | (with_reducible exact pool_Drop.mono _ _ _ _)
   | (with_reducible exact pool_Same.mono _ _ _ _ _)
   | (with_reducible exact pool_Spoil.mono _ _ _ _ _)
   | (with_reducible exact pool_Swap.mono _ _ _ _ _)
   | (with_reducible exact pool_Take.mono _ _ _ _)
   | (with_reducible exact squelchlaw21_few.mono _ _ _ _)
   | (with_reducible exact squelchlaw21_live.mono _)
   | (with_reducible exact squelchref21_Check.mono _ _ _)
   | (with_reducible exact LeO.refl _)
   | (with_reducible exact LeO.none _)
   | (with_reducible refine LeO.ite ?_ ?_)
   | (with_reducible refine LeO.bind ?_ (fun _ => ?_))
   | exact ih0 _ _ _ _ _ _ _
   | exact ih1 _ _ _ _ _
   | exact ih2 _ _ _
   | exact ih3 _ _ _ _ _ _
   | exact pool_Double.mono _ _ _ _
   | exact pool_Drop.mono _ _ _ _
   | exact pool_Same.mono _ _ _ _ _
   | exact pool_Spoil.mono _ _ _ _ _
   | exact pool_Swap.mono _ _ _ _ _
   | exact pool_Take.mono _ _ _ _
   | exact squelchlaw21_few.mono _ _ _ _
   | exact squelchlaw21_live.mono _
   | exact squelchref21_Check.mono _ _ _
   | exact LeO.none _
   | refine LeO.ite ?_ ?_
   | refine LeO.bind ?_ (fun _ => ?_)
theorem squelchlaw21_PoolBack.mono : ∀ a0 a1 a2 a3 a4 k, LeO (squelchlaw21_PoolBack.f k a0 a1 a2 a3 a4) (squelchlaw21_PoolBack.f (k + 1) a0 a1 a2 a3 a4) := by
 intro a0 a1 a2 a3 a4 k
 obtain ⟨ih0, ih1, ih2, ih3⟩ := squelchlaw21_PoolBack.mono_l k
 unfold squelchlaw21_PoolBack.f
 repeat' first
   | (with_reducible exact ih0 _ _ _ _ _ _ _)
   | (with_reducible exact ih1 _ _ _ _ _)
   | (with_reducible exact ih2 _ _ _)
   | (with_reducible exact ih3 _ _ _ _ _ _)
   | (with_reducible exact pool_Double.mono _ _ _ _)
   | (with_reducible exact pool_Drop.mono _ _ _ _)
   | (with_reducible exact pool_Same.mono _ _ _ _ _)
   | (with_reducible exact pool_Spoil.mono _ _ _ _ _)
   | (with_reducible exact pool_Swap.mono _ _ _ _ _)
   | (with_reducible exact pool_Take.mono _ _ _ _)
   | (with_reducible exact squelchlaw21_few.mono _ _ _ _)
   | (with_reducible exact squelchlaw21_live.mono _)
   | (with_reducible exact squelchref21_Check.mono _ _ _)
   | (with_reducible exact LeO.refl _)
   | (with_reducible exact LeO.none _)
   | (with_reducible refine LeO.ite ?_ ?_)
   | (with_reducible refine LeO.bind ?_ (fun _ => ?_))
   | exact ih0 _ _ _ _ _ _ _
   | exact ih1 _ _ _ _ _
   | exact ih2 _ _ _
   | exact ih3 _ _ _ _ _ _
   | exact pool_Double.mono _ _ _ _
   | exact pool_Drop.mono _ _ _ _
   | exact pool_Same.mono _ _ _ _ _
   | exact pool_Spoil.mono _ _ _ _ _
   | exact pool_Swap.mono _ _ _ _ _
   | exact pool_Take.mono _ _ _ _
   | exact squelchlaw21_few.mono _ _ _ _
   | exact squelchlaw21_live.mono _
   | exact squelchref21_Check.mono _ _ _
   | exact LeO.none _
   | refine LeO.ite ?_ ?_
   | refine LeO.bind ?_ (fun _ => ?_)
def squelchlaw21_PoolBack.T4 : Bool × List (List Nat × List Nat) := (true, [([], []), ([], []), ([1], [1]), ([2], [2]), ([0, 3], [0, 3]), ([], []), ([5], [5]), ([6], [6]), ([4, 7], [4, 7]), ([], []), ([9], [9]), ([10], [10]), ([8, 11], [8, 11]), ([12, 0, 1, 2, 3, 4, 5, 6, 7, 8, 9, 10, 11, 12], [0, 12])])
def squelchlaw21_PoolBack.B4 : List Nat := [0, 0, 2, 6, 15, 0, 32, 96, 255, 0, 512, 1536, 4095, 8191]
theorem squelchlaw21_PoolBack.tab4 : rtab .any (opsOf Try.f5 4) = squelchlaw21_PoolBack.T4 := by kernel_rfl
theorem squelchlaw21_PoolBack.bits4 : waitsOk squelchlaw21_PoolBack.T4.2 squelchlaw21_PoolBack.B4 = true := by kernel_rfl
def squelchlaw21_PoolBack.T5 : Bool × List (List Nat × List Nat) := (true, [([], []), ([], []), ([1], [1]), ([2], [2]), ([0, 3], [0, 3]), ([], []), ([5], [5]), ([6], [6]), ([4, 7], [4, 7]), ([], []), ([9], [9]), ([10], [10]), ([8, 11], [8, 11]), ([12, 0, 1, 2, 3, 4, 5, 6, 7, 8, 9, 10, 11, 12], [0, 12])])
def squelchlaw21_PoolBack.B5 : List Nat := [0, 0, 2, 6, 15, 0, 32, 96, 255, 0, 512, 1536, 4095, 8191]
theorem squelchlaw21_PoolBack.tab5 : rtab .any (opsOf Try.f5 5) = squelchlaw21_PoolBack.T5 := by kernel_rfl
theorem squelchlaw21_PoolBack.bits5 : waitsOk squelchlaw21_PoolBack.T5.2 squelchlaw21_PoolBack.B5 = true := by kernel_rfl
def squelchlaw21_PoolBack.T17 : Bool × List (List Nat × List Nat) := (true, [([], []), ([0], [0]), ([1], [1]), ([2], [2]), ([2], [2]), ([3, 4, 2, 2], [2, 3, 4]), ([5, 2], [2, 5]), ([2, 6], [2, 6]), ([7, 5], [7]), ([8], [8]), ([9, 8], [8, 9]), ([8], [8]), ([11, 8], [8, 11]), ([12, 8], [8, 12]), ([10, 13, 8], [8, 10, 13]), ([14, 8], [8, 14]), ([8], [8]), ([16, 8], [8, 16]), ([8], [8]), ([17, 18, 8], [8, 17, 18]), ([19, 8], [8, 19]), ([15, 20, 8, 8], [8, 15, 20]), ([21, 8], [8, 21]), ([8, 22], [8, 22])])
def squelchlaw21_PoolBack.B17 : List Nat := [0, 1, 3, 7, 7, 31, 63, 127, 255, 511, 1023, 511, 2559, 6655, 16383, 32767, 511, 66047, 511, 459263, 983551, 2097151, 4194303, 8388607]
theorem squelchlaw21_PoolBack.tab17 : rtab .any (opsOf Try.f5 17) = squelchlaw21_PoolBack.T17 := by kernel_rfl
theorem squelchlaw21_PoolBack.bits17 : waitsOk squelchlaw21_PoolBack.T17.2 squelchlaw21_PoolBack.B17 = true := by kernel_rfl
set_option maxHeartbeats 8000000 in
set_option maxRecDepth 100000 in
theorem squelchlaw21_PoolBack.calls (k : Nat) (a0_0 : Int) (P0_1_ : Nat → Prop) (A0_1 : Option Addr) (c0_1 : Nat) (l0_1 : List (S31)) (a1 : Int) (a2 : Int) (a3 : Int) (r : Bool) (w : World) (hs0_1 : Kd.V k31 31 w w.heap.size (fun k_ => P0_1_ k_) (.slice A0_1 l0_1.length c0_1) l0_1) (h : squelchlaw21_PoolBack.f k a0_0 l0_1 a1 a2 a3 = some r) (hr_ : r = true) :
  Calls Try.prog 5 #[.agg #[.int .i64 a0_0, .slice A0_1 l0_1.length c0_1], .int .i64 a1, .int .i64 a2, .int .i64 a3] w fun e w' => e = .returned (.bool r) ∧ Below w.heap.size w w' := by
 have HR_ := Aside0.mk hr_
 clear hr_
 have hu24 := Try.underlying24
 have hu31 := Try.underlying31
 have HO0_1 := Aside0.mk (show Kd.V k31 31 w w.heap.size (fun k_ => (P0_1_ k_ ∨ w.heap.size ≤ k_)) (.slice A0_1 l0_1.length c0_1) l0_1 from Kd.V_mono hs0_1 (fun k_ hk => .inl hk))
 have HB := Aside0.mk (Below.refl w.heap.size w)
 have H : ((squelchlaw21_live.f k).bind fun t312 => ((squelchlaw21_few.f k a0_0 l0_1 ([] : List (S31))).bind fun t313 => (if t313 = true then ((squelchref21_Check.f k a0_0 l0_1).bind fun t314 => (if t314 = 0 then (squelchlaw21_PoolBack.j0 k a1 a2 a3 t312 ((l0_1.length : Int) == 0) a0_0 l0_1) else (squelchlaw21_PoolBack.j0 k a1 a2 a3 t312 true a0_0 l0_1))) else (squelchlaw21_PoolBack.j0 k a1 a2 a3 t312 true a0_0 l0_1)))) = some r := h
 clear h
 replace H := Option.bind_eq_some_iff.mp H
 obtain ⟨t312, A50, H⟩ := H
 replace H : ((squelchlaw21_few.f k a0_0 l0_1 ([] : List (S31))).bind fun t313 => (if t313 = true then ((squelchref21_Check.f k a0_0 l0_1).bind fun t314 => (if t314 = 0 then (squelchlaw21_PoolBack.j0 k a1 a2 a3 t312 ((l0_1.length : Int) == 0) a0_0 l0_1) else (squelchlaw21_PoolBack.j0 k a1 a2 a3 t312 true a0_0 l0_1))) else (squelchlaw21_PoolBack.j0 k a1 a2 a3 t312 true a0_0 l0_1))) = some r := H
 have A5 := Aside0.mk A50
 clear A50
 have HC6 := Aside0.mk H
 clear H
 go_enter Try.func5, Try.ntmps5
 go_upto_region 2 with (first | ((with_reducible refine gate_dst (N := 4) rfl ?_); (try (refine gate_guard (by rfl) ?_; dsimp only)); refine box_event ?hg (N := 4) ?hd (cs := #[.int .i64 a0_0, .slice A0_1 l0_1.length c0_1]) (t := 24) ?hr ?_; (case hd => rfl); (case hg => rfl); (case hr => first | (go_simp; done) | (go_simp; rfl)); intro gb311 hg w7 hbox hb; have n0_ := Aside0.mk (Kd.V_below (Kd.V_elderB (by (with_reducible repeat (first | apply Kd.V_alloc | apply Kd.V_drewN | apply Kd.V_drew)); exact HO0_1.out) gb311 (Nat.le_of_eq hg.symm)) hb); have n1_ := Aside0.mk (below_step (by repeat (first | (with_reducible first | exact HB.out | apply below_alloc | apply pw_below_drewN | apply below_drew1) | exact HB.out)) hb); have n2_ := Aside0.mk (hbox); have n3_ := Aside0.mk ((by rw [hg]; exact (below_size (by repeat (first | (with_reducible first | exact HB.out | apply below_alloc | apply pw_below_drewN | apply below_drew1) | exact HB.out))) : w.heap.size ≤ gb311)); have n4_ := Aside0.mk ((by rw [hg]; exact (below_size (by repeat (first | (with_reducible first | exact HB.out | apply below_alloc | apply pw_below_drewN | apply below_drew1) | exact HB.out))) : w.heap.size ≤ gb311)); clear HO0_1; clear HB; have HO0_1 := n0_; have HB := n1_; have BK311 := n2_; have GW311 := n3_; have GE311 := n4_; clear n0_ n1_ n2_ n3_ n4_; clear hb hbox hg) | ((with_reducible refine gate_callee (f := 7) rfl ?_); refine goesL_ (some 29) rfl rfl Try.func7 (by kernel_rfl) rfl #[] rfl (by (try simp only [List.map_toArray, List.map_cons, List.map_nil]); first | done | rfl | (simp only [List.length_drop, List.length_take]; rfl)) ?_; (with_reducible refine (squelchlaw21_live.calls k  t312 _ A5.out).mono ?_); rintro e w8 ⟨rfl, hb⟩; refine ⟨_, rfl, ?_⟩; have n0_ := Aside0.mk (Kd.V_below (by (with_reducible repeat (first | apply Kd.V_alloc | apply Kd.V_drewN | apply Kd.V_drew)); exact HO0_1.out) hb); have n1_ := Aside0.mk (blk_below (g := gb311) (o := .cells #[.int .i64 a0_0, .slice A0_1 l0_1.length c0_1] 24 (0, 0)) (by (with_reducible repeat (first | refine blk_drewN ?_ _ | refine blk_drew ?_ | refine blk_alloc ?_ _)); exact BK311.out) hb); have n2_ := Aside0.mk (below_step (by repeat (first | (with_reducible first | exact HB.out | apply below_alloc | apply pw_below_drewN | apply below_drew1 | refine below_set ?_ GE311.out) | exact HB.out)) hb); clear HO0_1; clear BK311; clear HB; have HO0_1 := n0_; have BK311 := n1_; have HB := n2_; clear n0_ n1_ n2_; (try clear hb); (try clear hb2); (try clear hk); (try clear hi)))
 (try simp only [Act.put, List.setIfInBounds_toArray, List.set_cons_zero, List.set_cons_succ])
 go_cut [43] (fun v43 wc => ∃ (kq : Nat) (x43_5 : Bool), v43 = .bool x43_5 ∧ Aside0 (squelchlaw21_PoolBack.j0 kq a1 a2 a3 t312 x43_5 a0_0 l0_1 = some r) ∧ Aside0 (kq ≤ k) ∧ Aside0 (Kd.V k31 31 wc w.heap.size (fun k_ => (P0_1_ k_ ∨ w.heap.size ≤ k_) ∧ k_ ≠ gb311) (.slice A0_1 l0_1.length c0_1) l0_1) ∧ Aside0 (wc.heap[gb311]? = some (.cells #[.int .i64 a0_0, (.slice A0_1 l0_1.length c0_1)] 24 (0, 0))) ∧ Aside0 (Below w.heap.size w wc))
 case first =>
  have H := HC6.out
  clear HC6
  replace H := Option.bind_eq_some_iff.mp H
  obtain ⟨t313, A90, H⟩ := H
  replace H : (if t313 = true then ((squelchref21_Check.f k a0_0 l0_1).bind fun t314 => (if t314 = 0 then (squelchlaw21_PoolBack.j0 k a1 a2 a3 t312 ((l0_1.length : Int) == 0) a0_0 l0_1) else (squelchlaw21_PoolBack.j0 k a1 a2 a3 t312 true a0_0 l0_1))) else (squelchlaw21_PoolBack.j0 k a1 a2 a3 t312 true a0_0 l0_1)) = some r := H
  have A9 := Aside0.mk A90
  clear A90
  by_cases c10 : t313 = true
  ·subst c10
   have H1 : ((squelchref21_Check.f k a0_0 l0_1).bind fun t314 => (if t314 = 0 then (squelchlaw21_PoolBack.j0 k a1 a2 a3 t312 ((l0_1.length : Int) == 0) a0_0 l0_1) else (squelchlaw21_PoolBack.j0 k a1 a2 a3 t312 true a0_0 l0_1))) = some r := by rw [if_pos rfl] at H; exact H
   clear H
   have H := H1
   clear H1
   replace H := Option.bind_eq_some_iff.mp H
   obtain ⟨t314, A110, H⟩ := H
   replace H : (if t314 = 0 then (squelchlaw21_PoolBack.j0 k a1 a2 a3 t312 ((l0_1.length : Int) == 0) a0_0 l0_1) else (squelchlaw21_PoolBack.j0 k a1 a2 a3 t312 true a0_0 l0_1)) = some r := H
   have A11 := Aside0.mk A110
   clear A110
   by_cases c12 : t314 = 0
   ·rw [if_pos c12] at H
    have c12b0 : (t314 == 0) = true := beq_iff_eq.mpr c12
    have c12b1 : (t314 != 0) = false := bne_eq_false_iff_eq.mpr c12
    clear c12
    (first | rw [c12b0] | (simp only [i64_w, i32_w]; rw [c12b0]) | skip)
    have H' := Aside0.mk H
    clear H
    have hcz13_0 : w8.cell? ⟨gb311, 0, none⟩ = some (.int .i64 a0_0) := (blk_cell BK311.out 0).trans rfl
    have hcz13_1 : w8.cell? ⟨gb311, 1, none⟩ = some (.slice A0_1 l0_1.length c0_1) := (blk_cell BK311.out 1).trans rfl
    have hfz13_0 := blk_frozen BK311.out 0
    have hfz13_1 := blk_frozen BK311.out 1
    go_wp2_with (first | ((with_reducible refine gate_callee (f := 8) rfl ?_); refine goesL_ (some 31) rfl rfl Try.func8 (by kernel_rfl) rfl #[.agg #[.int .i64 a0_0, .slice A0_1 l0_1.length c0_1], .slice none 0 0] rfl (by (try simp only [List.map_toArray, List.map_cons, List.map_nil]); first | done | rfl | (simp only [List.length_drop, List.length_take]; rfl)) ?_; (refine (squelchlaw21_few.calls k a0_0 (fun k_ => ((P0_1_ k_ ∨ w.heap.size ≤ k_) ∧ k_ ≠ gb311)) _ _ l0_1 (fun k_ => False) _ _ ([] : List (S31)) true _ ?side1 ?side2 A9.out).mono ?_); (case side1 => exact HO0_1.out); (case side2 => exact Kd.V_nil _ _ _ _ _); rintro e w14 ⟨rfl, hb⟩; refine ⟨_, rfl, ?_⟩; have n0_ := Aside0.mk (Kd.V_below (by (with_reducible repeat (first | apply Kd.V_alloc | apply Kd.V_drewN | apply Kd.V_drew)); exact HO0_1.out) hb); have n1_ := Aside0.mk (blk_below (g := gb311) (o := .cells #[.int .i64 a0_0, .slice A0_1 l0_1.length c0_1] 24 (0, 0)) (by (with_reducible repeat (first | refine blk_drewN ?_ _ | refine blk_drew ?_ | refine blk_alloc ?_ _)); exact BK311.out) hb); have n2_ := Aside0.mk (below_step (by repeat (first | (with_reducible first | exact HB.out | apply below_alloc | apply pw_below_drewN | apply below_drew1 | refine below_set ?_ GE311.out) | exact HB.out)) hb); clear HO0_1; clear BK311; clear HB; have HO0_1 := n0_; have BK311 := n1_; have HB := n2_; clear n0_ n1_ n2_; (try clear hb); (try clear hb2); (try clear hk); (try clear hi); have hcz15_0 : w14.cell? ⟨gb311, 0, none⟩ = some (.int .i64 a0_0) := (blk_cell BK311.out 0).trans rfl; have hcz15_1 : w14.cell? ⟨gb311, 1, none⟩ = some (.slice A0_1 l0_1.length c0_1) := (blk_cell BK311.out 1).trans rfl; have hfz15_0 := blk_frozen BK311.out 0; have hfz15_1 := blk_frozen BK311.out 1) | (go_at_call 9; (with_reducible refine (squelchref21_Check.calls k a0_0 _ _ l0_1 t314 _ ?side1 ?side2 A11.out).mono ?_); (case side1 => repeat (first | exact (Kd.V_reads' HO0_1.out).2.2 | (with_reducible refine Kd.C_alloc ?_ _) | (with_reducible refine Kd.C_drewN ?_ _) | (with_reducible refine Kd.C_drew ?_))); (case side2 => exact (Kd.V_reads' HO0_1.out).2.1); rintro e w16 ⟨rfl, hb⟩; have n0_ := Aside0.mk (Kd.V_below (by (with_reducible repeat (first | apply Kd.V_alloc | apply Kd.V_drewN | apply Kd.V_drew)); exact HO0_1.out) hb); have n1_ := Aside0.mk (blk_below (g := gb311) (o := .cells #[.int .i64 a0_0, .slice A0_1 l0_1.length c0_1] 24 (0, 0)) (by (with_reducible repeat (first | refine blk_drewN ?_ _ | refine blk_drew ?_ | refine blk_alloc ?_ _)); exact BK311.out) hb); have n2_ := Aside0.mk (below_step (by repeat (first | (with_reducible first | exact HB.out | apply below_alloc | apply pw_below_drewN | apply below_drew1 | refine below_set ?_ GE311.out) | exact HB.out)) hb); clear HO0_1; clear BK311; clear HB; have HO0_1 := n0_; have BK311 := n1_; have HB := n2_; clear n0_ n1_ n2_; (try clear hb); (try clear hb2); (try clear hk); (try clear hi); have hcz17_0 : w16.cell? ⟨gb311, 0, none⟩ = some (.int .i64 a0_0) := (blk_cell BK311.out 0).trans rfl; have hcz17_1 : w16.cell? ⟨gb311, 1, none⟩ = some (.slice A0_1 l0_1.length c0_1) := (blk_cell BK311.out 1).trans rfl; have hfz17_0 := blk_frozen BK311.out 0; have hfz17_1 := blk_frozen BK311.out 1))
    go_meet
    case rel => exact ⟨_, (((l0_1.length : Int) == 0)), (by first | rfl | (simp; done) | (simp [*]; done)), H', ⟨by first | omega | exact Nat.le_refl _⟩, ⟨by (with_reducible repeat (first | apply Kd.V_alloc | apply Kd.V_drewN | apply Kd.V_drew)); exact HO0_1.out⟩, ⟨by (with_reducible repeat (first | refine blk_drewN ?_ _ | refine blk_drew ?_ | refine blk_alloc ?_ _)); exact BK311.out⟩, ⟨by repeat (first | (with_reducible first | exact HB.out | apply below_alloc | apply pw_below_drewN | apply below_drew1 | refine below_set ?_ GE311.out) | exact HB.out)⟩⟩
   ·rw [if_neg c12] at H
    have c12b0 : (t314 == 0) = false := beq_eq_false_iff_ne.mpr c12
    have c12b1 : (t314 != 0) = true := bne_iff_ne.mpr c12
    (first | rw [c12b0] | (simp only [i64_w, i32_w]; rw [c12b0]) | skip)
    have H' := Aside0.mk H
    clear H
    have hcz18_0 : w8.cell? ⟨gb311, 0, none⟩ = some (.int .i64 a0_0) := (blk_cell BK311.out 0).trans rfl
    have hcz18_1 : w8.cell? ⟨gb311, 1, none⟩ = some (.slice A0_1 l0_1.length c0_1) := (blk_cell BK311.out 1).trans rfl
    have hfz18_0 := blk_frozen BK311.out 0
    have hfz18_1 := blk_frozen BK311.out 1
    go_wp2_with (first | ((with_reducible refine gate_callee (f := 8) rfl ?_); refine goesL_ (some 31) rfl rfl Try.func8 (by kernel_rfl) rfl #[.agg #[.int .i64 a0_0, .slice A0_1 l0_1.length c0_1], .slice none 0 0] rfl (by (try simp only [List.map_toArray, List.map_cons, List.map_nil]); first | done | rfl | (simp only [List.length_drop, List.length_take]; rfl)) ?_; (refine (squelchlaw21_few.calls k a0_0 (fun k_ => ((P0_1_ k_ ∨ w.heap.size ≤ k_) ∧ k_ ≠ gb311)) _ _ l0_1 (fun k_ => False) _ _ ([] : List (S31)) true _ ?side1 ?side2 A9.out).mono ?_); (case side1 => exact HO0_1.out); (case side2 => exact Kd.V_nil _ _ _ _ _); rintro e w19 ⟨rfl, hb⟩; refine ⟨_, rfl, ?_⟩; have n0_ := Aside0.mk (Kd.V_below (by (with_reducible repeat (first | apply Kd.V_alloc | apply Kd.V_drewN | apply Kd.V_drew)); exact HO0_1.out) hb); have n1_ := Aside0.mk (blk_below (g := gb311) (o := .cells #[.int .i64 a0_0, .slice A0_1 l0_1.length c0_1] 24 (0, 0)) (by (with_reducible repeat (first | refine blk_drewN ?_ _ | refine blk_drew ?_ | refine blk_alloc ?_ _)); exact BK311.out) hb); have n2_ := Aside0.mk (below_step (by repeat (first | (with_reducible first | exact HB.out | apply below_alloc | apply pw_below_drewN | apply below_drew1 | refine below_set ?_ GE311.out) | exact HB.out)) hb); clear HO0_1; clear BK311; clear HB; have HO0_1 := n0_; have BK311 := n1_; have HB := n2_; clear n0_ n1_ n2_; (try clear hb); (try clear hb2); (try clear hk); (try clear hi); have hcz20_0 : w19.cell? ⟨gb311, 0, none⟩ = some (.int .i64 a0_0) := (blk_cell BK311.out 0).trans rfl; have hcz20_1 : w19.cell? ⟨gb311, 1, none⟩ = some (.slice A0_1 l0_1.length c0_1) := (blk_cell BK311.out 1).trans rfl; have hfz20_0 := blk_frozen BK311.out 0; have hfz20_1 := blk_frozen BK311.out 1) | (go_at_call 9; (with_reducible refine (squelchref21_Check.calls k a0_0 _ _ l0_1 t314 _ ?side1 ?side2 A11.out).mono ?_); (case side1 => repeat (first | exact (Kd.V_reads' HO0_1.out).2.2 | (with_reducible refine Kd.C_alloc ?_ _) | (with_reducible refine Kd.C_drewN ?_ _) | (with_reducible refine Kd.C_drew ?_))); (case side2 => exact (Kd.V_reads' HO0_1.out).2.1); rintro e w21 ⟨rfl, hb⟩; have n0_ := Aside0.mk (Kd.V_below (by (with_reducible repeat (first | apply Kd.V_alloc | apply Kd.V_drewN | apply Kd.V_drew)); exact HO0_1.out) hb); have n1_ := Aside0.mk (blk_below (g := gb311) (o := .cells #[.int .i64 a0_0, .slice A0_1 l0_1.length c0_1] 24 (0, 0)) (by (with_reducible repeat (first | refine blk_drewN ?_ _ | refine blk_drew ?_ | refine blk_alloc ?_ _)); exact BK311.out) hb); have n2_ := Aside0.mk (below_step (by repeat (first | (with_reducible first | exact HB.out | apply below_alloc | apply pw_below_drewN | apply below_drew1 | refine below_set ?_ GE311.out) | exact HB.out)) hb); clear HO0_1; clear BK311; clear HB; have HO0_1 := n0_; have BK311 := n1_; have HB := n2_; clear n0_ n1_ n2_; (try clear hb); (try clear hb2); (try clear hk); (try clear hi)))
    go_meet
    case rel => exact ⟨_, (true), (by first | rfl | (simp; done) | (simp [*]; done)), H', ⟨by first | omega | exact Nat.le_refl _⟩, ⟨by (with_reducible repeat (first | apply Kd.V_alloc | apply Kd.V_drewN | apply Kd.V_drew)); exact HO0_1.out⟩, ⟨by (with_reducible repeat (first | refine blk_drewN ?_ _ | refine blk_drew ?_ | refine blk_alloc ?_ _)); exact BK311.out⟩, ⟨by repeat (first | (with_reducible first | exact HB.out | apply below_alloc | apply pw_below_drewN | apply below_drew1 | refine below_set ?_ GE311.out) | exact HB.out)⟩⟩
  ·replace c10 := Bool.eq_false_iff.mpr c10
   subst c10
   have H1 : (squelchlaw21_PoolBack.j0 k a1 a2 a3 t312 true a0_0 l0_1) = some r := by rw [if_neg (show ¬ (false = true) by decide)] at H; exact H
   clear H
   have H := H1
   clear H1
   have H' := Aside0.mk H
   clear H
   have hcz22_0 : w8.cell? ⟨gb311, 0, none⟩ = some (.int .i64 a0_0) := (blk_cell BK311.out 0).trans rfl
   have hcz22_1 : w8.cell? ⟨gb311, 1, none⟩ = some (.slice A0_1 l0_1.length c0_1) := (blk_cell BK311.out 1).trans rfl
   have hfz22_0 := blk_frozen BK311.out 0
   have hfz22_1 := blk_frozen BK311.out 1
   go_wp2_with (first | ((with_reducible refine gate_callee (f := 8) rfl ?_); refine goesL_ (some 31) rfl rfl Try.func8 (by kernel_rfl) rfl #[.agg #[.int .i64 a0_0, .slice A0_1 l0_1.length c0_1], .slice none 0 0] rfl (by (try simp only [List.map_toArray, List.map_cons, List.map_nil]); first | done | rfl | (simp only [List.length_drop, List.length_take]; rfl)) ?_; (refine (squelchlaw21_few.calls k a0_0 (fun k_ => ((P0_1_ k_ ∨ w.heap.size ≤ k_) ∧ k_ ≠ gb311)) _ _ l0_1 (fun k_ => False) _ _ ([] : List (S31)) false _ ?side1 ?side2 A9.out).mono ?_); (case side1 => exact HO0_1.out); (case side2 => exact Kd.V_nil _ _ _ _ _); rintro e w23 ⟨rfl, hb⟩; refine ⟨_, rfl, ?_⟩; have n0_ := Aside0.mk (Kd.V_below (by (with_reducible repeat (first | apply Kd.V_alloc | apply Kd.V_drewN | apply Kd.V_drew)); exact HO0_1.out) hb); have n1_ := Aside0.mk (blk_below (g := gb311) (o := .cells #[.int .i64 a0_0, .slice A0_1 l0_1.length c0_1] 24 (0, 0)) (by (with_reducible repeat (first | refine blk_drewN ?_ _ | refine blk_drew ?_ | refine blk_alloc ?_ _)); exact BK311.out) hb); have n2_ := Aside0.mk (below_step (by repeat (first | (with_reducible first | exact HB.out | apply below_alloc | apply pw_below_drewN | apply below_drew1 | refine below_set ?_ GE311.out) | exact HB.out)) hb); clear HO0_1; clear BK311; clear HB; have HO0_1 := n0_; have BK311 := n1_; have HB := n2_; clear n0_ n1_ n2_; (try clear hb); (try clear hb2); (try clear hk); (try clear hi)))
   go_meet
   case rel => exact ⟨_, (true), (by first | rfl | (simp; done) | (simp [*]; done)), H', ⟨by first | omega | exact Nat.le_refl _⟩, ⟨by (with_reducible repeat (first | apply Kd.V_alloc | apply Kd.V_drewN | apply Kd.V_drew)); exact HO0_1.out⟩, ⟨by (with_reducible repeat (first | refine blk_drewN ?_ _ | refine blk_drew ?_ | refine blk_alloc ?_ _)); exact BK311.out⟩, ⟨by repeat (first | (with_reducible first | exact HB.out | apply below_alloc | apply pw_below_drewN | apply below_drew1 | refine below_set ?_ GE311.out) | exact HB.out)⟩⟩
 case rest =>
  clear HC6
  try clear c1
  try clear p2
  try clear c5
  try clear c7
  try clear c8
  try clear c10
  try clear c12
  try clear c12b0
  try clear c12b1
  try clear hcz13_0
  try clear hcz13_1
  try clear hcz15_0
  try clear hcz15_1
  try clear hcz17_0
  try clear hcz17_1
  try clear hcz18_0
  try clear hcz18_1
  try clear hcz20_0
  try clear hcz20_1
  try clear hcz22_0
  try clear hcz22_1
  try clear hfz13_0
  try clear hfz13_1
  try clear hfz15_0
  try clear hfz15_1
  try clear hfz17_0
  try clear hfz17_1
  try clear hfz18_0
  try clear hfz18_1
  try clear hfz20_0
  try clear hfz20_1
  try clear hfz22_0
  try clear hfz22_1
  obtain ⟨kq, x43_5, rfl, HA, HJ5, HO_312001, BK311, HB⟩ := hcut
  cases kq with
  | zero => exact absurd HA.out (by simp [squelchlaw21_PoolBack.j0])
  | succ kj5 =>
   have H := HA.out
   clear HA
   simp only [squelchlaw21_PoolBack.j0] at H
   by_cases c24 : x43_5 = true
   ·subst c24
    have H1 : (some t312) = some r := by rw [if_pos rfl] at H; exact H
    clear H
    have H := H1
    clear H1
    obtain rfl := Option.some.inj H
    go_wp2
    go_ret
    exact ⟨by first | rfl | (simp [errW_none, errW_some] <;> rfl) | (simp [*, errW_none, errW_some] <;> rfl) | (simp [wrap64]; done), by repeat (first | (with_reducible first | exact HB.out | apply below_alloc | apply pw_below_drewN | apply below_drew1 | refine below_set ?_ GE311.out) | exact HB.out)⟩
   ·replace c24 := Bool.eq_false_iff.mpr c24
    subst c24
    have H1 : (if (l0_1.length : Int) = 0 then (none) else (if 0 ≤ (Int.tmod (wrap64 ((Int.tmod a1 (l0_1.length : Int)) + (l0_1.length : Int))) (l0_1.length : Int)) then (if (Int.tmod (wrap64 ((Int.tmod a1 (l0_1.length : Int)) + (l0_1.length : Int))) (l0_1.length : Int)) < (l0_1.length : Int) then (if (wrap64 (8 * (((rd_T31 l0_1 (Int.tmod (wrap64 ((Int.tmod a1 (l0_1.length : Int)) + (l0_1.length : Int))) (l0_1.length : Int))).f1).length : Int))) = 0 then (none) else ((pool_Spoil.f kj5 a0_0 l0_1 (Int.tmod (wrap64 ((Int.tmod a1 (l0_1.length : Int)) + (l0_1.length : Int))) (l0_1.length : Int)) (Int.tmod (wrap64 ((Int.tmod a3 (wrap64 (8 * (((rd_T31 l0_1 (Int.tmod (wrap64 ((Int.tmod a1 (l0_1.length : Int)) + (l0_1.length : Int))) (l0_1.length : Int))).f1).length : Int)))) + (wrap64 (8 * (((rd_T31 l0_1 (Int.tmod (wrap64 ((Int.tmod a1 (l0_1.length : Int)) + (l0_1.length : Int))) (l0_1.length : Int))).f1).length : Int))))) (wrap64 (8 * (((rd_T31 l0_1 (Int.tmod (wrap64 ((Int.tmod a1 (l0_1.length : Int)) + (l0_1.length : Int))) (l0_1.length : Int))).f1).length : Int))))).bind fun bt316 => ((pool_Spoil.f kj5 bt316.1 bt316.2.1 (Int.tmod (wrap64 ((Int.tmod a1 (l0_1.length : Int)) + (l0_1.length : Int))) (l0_1.length : Int)) (Int.tmod (wrap64 ((Int.tmod a3 (wrap64 (8 * (((rd_T31 l0_1 (Int.tmod (wrap64 ((Int.tmod a1 (l0_1.length : Int)) + (l0_1.length : Int))) (l0_1.length : Int))).f1).length : Int)))) + (wrap64 (8 * (((rd_T31 l0_1 (Int.tmod (wrap64 ((Int.tmod a1 (l0_1.length : Int)) + (l0_1.length : Int))) (l0_1.length : Int))).f1).length : Int))))) (wrap64 (8 * (((rd_T31 l0_1 (Int.tmod (wrap64 ((Int.tmod a1 (l0_1.length : Int)) + (l0_1.length : Int))) (l0_1.length : Int))).f1).length : Int))))).bind fun bt322 => ((pool_Swap.f kj5 a0_0 l0_1 (Int.tmod (wrap64 ((Int.tmod a1 (l0_1.length : Int)) + (l0_1.length : Int))) (l0_1.length : Int)) (Int.tmod (wrap64 ((Int.tmod a2 (l0_1.length : Int)) + (l0_1.length : Int))) (l0_1.length : Int))).bind fun bt328 => ((pool_Swap.f kj5 bt328.1 bt328.2.1 (Int.tmod (wrap64 ((Int.tmod a2 (l0_1.length : Int)) + (l0_1.length : Int))) (l0_1.length : Int)) (Int.tmod (wrap64 ((Int.tmod a1 (l0_1.length : Int)) + (l0_1.length : Int))) (l0_1.length : Int))).bind fun bt334 => (if bt316.2.2 = 0 then (if bt322.2.2 = 0 then (if bt328.2.2 = 0 then (if bt334.2.2 = 0 then ((pool_Same.f kj5 bt316.1 bt316.2.1 a0_0 l0_1).bind fun t340 => (if t340 = true then (squelchlaw21_PoolBack.j1 kj5 (Int.tmod (wrap64 ((Int.tmod a1 (l0_1.length : Int)) + (l0_1.length : Int))) (l0_1.length : Int)) t312 true a0_0 l0_1) else ((pool_Same.f kj5 bt322.1 bt322.2.1 a0_0 l0_1).bind fun t341 => (if t341 = true then ((pool_Same.f kj5 bt334.1 bt334.2.1 a0_0 l0_1).bind fun t342 => (squelchlaw21_PoolBack.j1 kj5 (Int.tmod (wrap64 ((Int.tmod a1 (l0_1.length : Int)) + (l0_1.length : Int))) (l0_1.length : Int)) t312 (!t342) a0_0 l0_1)) else (squelchlaw21_PoolBack.j1 kj5 (Int.tmod (wrap64 ((Int.tmod a1 (l0_1.length : Int)) + (l0_1.length : Int))) (l0_1.length : Int)) t312 true a0_0 l0_1))))) else (squelchlaw21_PoolBack.j1 kj5 (Int.tmod (wrap64 ((Int.tmod a1 (l0_1.length : Int)) + (l0_1.length : Int))) (l0_1.length : Int)) t312 true a0_0 l0_1)) else (squelchlaw21_PoolBack.j1 kj5 (Int.tmod (wrap64 ((Int.tmod a1 (l0_1.length : Int)) + (l0_1.length : Int))) (l0_1.length : Int)) t312 true a0_0 l0_1)) else (squelchlaw21_PoolBack.j1 kj5 (Int.tmod (wrap64 ((Int.tmod a1 (l0_1.length : Int)) + (l0_1.length : Int))) (l0_1.length : Int)) t312 true a0_0 l0_1)) else (squelchlaw21_PoolBack.j1 kj5 (Int.tmod (wrap64 ((Int.tmod a1 (l0_1.length : Int)) + (l0_1.length : Int))) (l0_1.length : Int)) t312 true a0_0 l0_1))))))) else (none)) else (none))) = some r := by rw [if_neg (show ¬ (false = true) by decide)] at H; exact H
    clear H
    have H := H1
    clear H1
    by_cases c25 : (l0_1.length : Int) = 0
    ·rw [if_pos c25] at H
     exact absurd H (by simp)
    ·rw [if_neg c25] at H
     have c25b0 : ((l0_1.length : Int) == 0) = false := beq_eq_false_iff_ne.mpr c25
     have c25b1 : ((l0_1.length : Int) != 0) = true := bne_iff_ne.mpr c25
     have c25b2 : ¬ (l0_1 = []) := fun h_ => c25 (by rw [h_]; rfl)
     obtain ⟨ji26, hji26⟩ : ∃ j_ : Int, (Int.tmod (wrap64 ((Int.tmod a1 (l0_1.length : Int)) + (l0_1.length : Int))) (l0_1.length : Int)) = j_ := ⟨_, rfl⟩
     replace H : (if 0 ≤ (ji26) then (if (ji26) < (l0_1.length : Int) then (if (wrap64 (8 * (((rd_T31 l0_1 (ji26)).f1).length : Int))) = 0 then (none) else ((pool_Spoil.f kj5 a0_0 l0_1 (ji26) (Int.tmod (wrap64 ((Int.tmod a3 (wrap64 (8 * (((rd_T31 l0_1 (ji26)).f1).length : Int)))) + (wrap64 (8 * (((rd_T31 l0_1 (ji26)).f1).length : Int))))) (wrap64 (8 * (((rd_T31 l0_1 (ji26)).f1).length : Int))))).bind fun bt316 => ((pool_Spoil.f kj5 bt316.1 bt316.2.1 (ji26) (Int.tmod (wrap64 ((Int.tmod a3 (wrap64 (8 * (((rd_T31 l0_1 (ji26)).f1).length : Int)))) + (wrap64 (8 * (((rd_T31 l0_1 (ji26)).f1).length : Int))))) (wrap64 (8 * (((rd_T31 l0_1 (ji26)).f1).length : Int))))).bind fun bt322 => ((pool_Swap.f kj5 a0_0 l0_1 (ji26) (Int.tmod (wrap64 ((Int.tmod a2 (l0_1.length : Int)) + (l0_1.length : Int))) (l0_1.length : Int))).bind fun bt328 => ((pool_Swap.f kj5 bt328.1 bt328.2.1 (Int.tmod (wrap64 ((Int.tmod a2 (l0_1.length : Int)) + (l0_1.length : Int))) (l0_1.length : Int)) (ji26)).bind fun bt334 => (if bt316.2.2 = 0 then (if bt322.2.2 = 0 then (if bt328.2.2 = 0 then (if bt334.2.2 = 0 then ((pool_Same.f kj5 bt316.1 bt316.2.1 a0_0 l0_1).bind fun t340 => (if t340 = true then (squelchlaw21_PoolBack.j1 kj5 ji26 t312 true a0_0 l0_1) else ((pool_Same.f kj5 bt322.1 bt322.2.1 a0_0 l0_1).bind fun t341 => (if t341 = true then ((pool_Same.f kj5 bt334.1 bt334.2.1 a0_0 l0_1).bind fun t342 => (squelchlaw21_PoolBack.j1 kj5 ji26 t312 (!t342) a0_0 l0_1)) else (squelchlaw21_PoolBack.j1 kj5 ji26 t312 true a0_0 l0_1))))) else (squelchlaw21_PoolBack.j1 kj5 ji26 t312 true a0_0 l0_1)) else (squelchlaw21_PoolBack.j1 kj5 ji26 t312 true a0_0 l0_1)) else (squelchlaw21_PoolBack.j1 kj5 ji26 t312 true a0_0 l0_1)) else (squelchlaw21_PoolBack.j1 kj5 ji26 t312 true a0_0 l0_1))))))) else (none)) else (none)) = some r := by first | (rw [hji26] at H; exact H) | (simp only [hji26] at H ⊢; exact H)
     by_cases c27 : 0 ≤ (ji26)
     ·rw [if_pos c27] at H
      have c27b0 : decide (0 ≤ (ji26)) = true := decide_eq_true c27
      clear c27
      by_cases c28 : (ji26) < (l0_1.length : Int)
      ·rw [if_pos c28] at H
       have c28b0 : decide ((ji26) < (l0_1.length : Int)) = true := decide_eq_true c28
       clear c28
       by_cases c29 : (wrap64 (8 * (((rd_T31 l0_1 (ji26)).f1).length : Int))) = 0
       ·rw [if_pos c29] at H
        exact absurd H (by simp)
       ·rw [if_neg c29] at H
        have c29b0 : ((wrap64 (8 * (((rd_T31 l0_1 (ji26)).f1).length : Int))) == 0) = false := beq_eq_false_iff_ne.mpr c29
        have c29b1 : ((wrap64 (8 * (((rd_T31 l0_1 (ji26)).f1).length : Int))) != 0) = true := bne_iff_ne.mpr c29
        replace H := Option.bind_eq_some_iff.mp H
        obtain ⟨⟨t316, t317, t320⟩, A300, H⟩ := H
        replace H : ((pool_Spoil.f kj5 t316 t317 (ji26) (Int.tmod (wrap64 ((Int.tmod a3 (wrap64 (8 * (((rd_T31 l0_1 (ji26)).f1).length : Int)))) + (wrap64 (8 * (((rd_T31 l0_1 (ji26)).f1).length : Int))))) (wrap64 (8 * (((rd_T31 l0_1 (ji26)).f1).length : Int))))).bind fun bt322 => ((pool_Swap.f kj5 a0_0 l0_1 (ji26) (Int.tmod (wrap64 ((Int.tmod a2 (l0_1.length : Int)) + (l0_1.length : Int))) (l0_1.length : Int))).bind fun bt328 => ((pool_Swap.f kj5 bt328.1 bt328.2.1 (Int.tmod (wrap64 ((Int.tmod a2 (l0_1.length : Int)) + (l0_1.length : Int))) (l0_1.length : Int)) (ji26)).bind fun bt334 => (if t320 = 0 then (if bt322.2.2 = 0 then (if bt328.2.2 = 0 then (if bt334.2.2 = 0 then ((pool_Same.f kj5 t316 t317 a0_0 l0_1).bind fun t340 => (if t340 = true then (squelchlaw21_PoolBack.j1 kj5 ji26 t312 true a0_0 l0_1) else ((pool_Same.f kj5 bt322.1 bt322.2.1 a0_0 l0_1).bind fun t341 => (if t341 = true then ((pool_Same.f kj5 bt334.1 bt334.2.1 a0_0 l0_1).bind fun t342 => (squelchlaw21_PoolBack.j1 kj5 ji26 t312 (!t342) a0_0 l0_1)) else (squelchlaw21_PoolBack.j1 kj5 ji26 t312 true a0_0 l0_1))))) else (squelchlaw21_PoolBack.j1 kj5 ji26 t312 true a0_0 l0_1)) else (squelchlaw21_PoolBack.j1 kj5 ji26 t312 true a0_0 l0_1)) else (squelchlaw21_PoolBack.j1 kj5 ji26 t312 true a0_0 l0_1)) else (squelchlaw21_PoolBack.j1 kj5 ji26 t312 true a0_0 l0_1))))) = some r := H
        have A30 := Aside0.mk A300
        clear A300
        replace H := Option.bind_eq_some_iff.mp H
        obtain ⟨⟨t322, t323, t326⟩, A310, H⟩ := H
        replace H : ((pool_Swap.f kj5 a0_0 l0_1 (ji26) (Int.tmod (wrap64 ((Int.tmod a2 (l0_1.length : Int)) + (l0_1.length : Int))) (l0_1.length : Int))).bind fun bt328 => ((pool_Swap.f kj5 bt328.1 bt328.2.1 (Int.tmod (wrap64 ((Int.tmod a2 (l0_1.length : Int)) + (l0_1.length : Int))) (l0_1.length : Int)) (ji26)).bind fun bt334 => (if t320 = 0 then (if t326 = 0 then (if bt328.2.2 = 0 then (if bt334.2.2 = 0 then ((pool_Same.f kj5 t316 t317 a0_0 l0_1).bind fun t340 => (if t340 = true then (squelchlaw21_PoolBack.j1 kj5 ji26 t312 true a0_0 l0_1) else ((pool_Same.f kj5 t322 t323 a0_0 l0_1).bind fun t341 => (if t341 = true then ((pool_Same.f kj5 bt334.1 bt334.2.1 a0_0 l0_1).bind fun t342 => (squelchlaw21_PoolBack.j1 kj5 ji26 t312 (!t342) a0_0 l0_1)) else (squelchlaw21_PoolBack.j1 kj5 ji26 t312 true a0_0 l0_1))))) else (squelchlaw21_PoolBack.j1 kj5 ji26 t312 true a0_0 l0_1)) else (squelchlaw21_PoolBack.j1 kj5 ji26 t312 true a0_0 l0_1)) else (squelchlaw21_PoolBack.j1 kj5 ji26 t312 true a0_0 l0_1)) else (squelchlaw21_PoolBack.j1 kj5 ji26 t312 true a0_0 l0_1)))) = some r := H
        have A31 := Aside0.mk A310
        clear A310
        replace H := Option.bind_eq_some_iff.mp H
        obtain ⟨⟨t328, t329, t332⟩, A320, H⟩ := H
        replace H : ((pool_Swap.f kj5 t328 t329 (Int.tmod (wrap64 ((Int.tmod a2 (l0_1.length : Int)) + (l0_1.length : Int))) (l0_1.length : Int)) (ji26)).bind fun bt334 => (if t320 = 0 then (if t326 = 0 then (if t332 = 0 then (if bt334.2.2 = 0 then ((pool_Same.f kj5 t316 t317 a0_0 l0_1).bind fun t340 => (if t340 = true then (squelchlaw21_PoolBack.j1 kj5 ji26 t312 true a0_0 l0_1) else ((pool_Same.f kj5 t322 t323 a0_0 l0_1).bind fun t341 => (if t341 = true then ((pool_Same.f kj5 bt334.1 bt334.2.1 a0_0 l0_1).bind fun t342 => (squelchlaw21_PoolBack.j1 kj5 ji26 t312 (!t342) a0_0 l0_1)) else (squelchlaw21_PoolBack.j1 kj5 ji26 t312 true a0_0 l0_1))))) else (squelchlaw21_PoolBack.j1 kj5 ji26 t312 true a0_0 l0_1)) else (squelchlaw21_PoolBack.j1 kj5 ji26 t312 true a0_0 l0_1)) else (squelchlaw21_PoolBack.j1 kj5 ji26 t312 true a0_0 l0_1)) else (squelchlaw21_PoolBack.j1 kj5 ji26 t312 true a0_0 l0_1))) = some r := H
        have A32 := Aside0.mk A320
        clear A320
        replace H := Option.bind_eq_some_iff.mp H
        obtain ⟨⟨t334, t335, t338⟩, A330, H⟩ := H
        replace H : (if t320 = 0 then (if t326 = 0 then (if t332 = 0 then (if t338 = 0 then ((pool_Same.f kj5 t316 t317 a0_0 l0_1).bind fun t340 => (if t340 = true then (squelchlaw21_PoolBack.j1 kj5 ji26 t312 true a0_0 l0_1) else ((pool_Same.f kj5 t322 t323 a0_0 l0_1).bind fun t341 => (if t341 = true then ((pool_Same.f kj5 t334 t335 a0_0 l0_1).bind fun t342 => (squelchlaw21_PoolBack.j1 kj5 ji26 t312 (!t342) a0_0 l0_1)) else (squelchlaw21_PoolBack.j1 kj5 ji26 t312 true a0_0 l0_1))))) else (squelchlaw21_PoolBack.j1 kj5 ji26 t312 true a0_0 l0_1)) else (squelchlaw21_PoolBack.j1 kj5 ji26 t312 true a0_0 l0_1)) else (squelchlaw21_PoolBack.j1 kj5 ji26 t312 true a0_0 l0_1)) else (squelchlaw21_PoolBack.j1 kj5 ji26 t312 true a0_0 l0_1)) = some r := H
        have A33 := Aside0.mk A330
        clear A330
        have HC34 := Aside0.mk H
        clear H
        try go_wp2
        have n0_ := Aside0.mk (Kd.V_drew HO_312001.out)
        have n1_ := Aside0.mk (blk_drew BK311.out)
        have n2_ := Aside0.mk (below_drew1 HB.out)
        clear HO_312001
        clear BK311
        clear HB
        have HO_312001 := n0_
        have BK311 := n1_
        have HB := n2_
        clear n0_ n1_ n2_
        refine start_ (n := 14) (S := fun w' => w'.cell? ⟨gb311, 0, none⟩ = some (.int .i64 a0_0) ∧ w'.cell? ⟨gb311, 1, none⟩ = some (.slice A0_1 l0_1.length c0_1)) (ds := []) #[false, false, false, false, false, false, false, false, false, false, false, false, false, false] (by kernel_rfl) rfl rfl ⟨(blk_cell BK311.out 0).trans rfl, (blk_cell BK311.out 1).trans rfl⟩ (fun hHeld => ?_); refine with_tabW squelchlaw21_PoolBack.tab4 squelchlaw21_PoolBack.bits4 (fun HT_ HW_ => ?_)
        generalize wc.drew = w35 at HO_312001 BK311 HB hHeld ⊢
        refine pure_ (i := 0) (N := some 45) (v := ?_) (a' := ?_) #[true, false, false, false, false, false, false, false, false, false, false, false, false, false] rfl rfl (any_of HT_.out (by kernel_rfl)) (fun _ _ _ h => h) (Or.inl ⟨by rfl, ?_⟩) ?_ ?_
        rotate_left
        ·intro w'
         go_simp
         with_reducible rfl
        rotate_left
        ·simp only [Act.put, List.setIfInBounds_toArray, List.set_cons_zero, List.set_cons_succ, i64_w, i32_w]
         rfl
        refine pure_ (i := 1) (N := some 46) (v := ?_) (a' := ?_) #[true, true, false, false, false, false, false, false, false, false, false, false, false, false] rfl rfl (any_of HT_.out (by kernel_rfl)) (fun _ _ _ h => h) (Or.inl ⟨by rfl, ?_⟩) ?_ ?_
        rotate_left
        ·intro w'
         go_simp
         with_reducible rfl
        rotate_left
        ·simp only [Act.put, List.setIfInBounds_toArray, List.set_cons_zero, List.set_cons_succ, i64_w, i32_w]
         rfl
        refine pure_ (i := 5) (N := some 50) (v := ?_) (a' := ?_) #[true, true, false, false, false, true, false, false, false, false, false, false, false, false] rfl rfl (any_of HT_.out (by kernel_rfl)) (fun _ _ _ h => h) (Or.inl ⟨by rfl, ?_⟩) ?_ ?_
        rotate_left
        ·intro w'
         go_simp
         with_reducible rfl
        rotate_left
        ·simp only [Act.put, List.setIfInBounds_toArray, List.set_cons_zero, List.set_cons_succ, i64_w, i32_w]
         rfl
        refine pure_ (i := 9) (N := some 54) (v := ?_) (a' := ?_) #[true, true, false, false, false, true, false, false, false, true, false, false, false, false] rfl rfl (any_of HT_.out (by kernel_rfl)) (fun _ _ _ h => h) (Or.inl ⟨by rfl, ?_⟩) ?_ ?_
        rotate_left
        ·intro w'
         go_simp
         with_reducible rfl
        rotate_left
        ·simp only [Act.put, List.setIfInBounds_toArray, List.set_cons_zero, List.set_cons_succ, i64_w, i32_w]
         rfl
        refine take_ (i := 2) (N := some 47) (v := ?_) (a' := ?_) #[true, true, true, false, false, true, false, false, false, true, false, false, false, false] rfl rfl (take_ofW HT_.out HW_.out (by kernel_rfl)) (fun _ _ _ h => h) (Or.inl ⟨by rfl, ?_⟩) hHeld ?_ ?_
        rotate_left
        ·rintro w' ⟨s0, s1⟩
         go_simp
         with_reducible rfl
        rotate_left
        ·simp only [Act.put, List.setIfInBounds_toArray, List.set_cons_zero, List.set_cons_succ, i64_w, i32_w]
         rfl
        refine pure_ (i := 3) (N := some 48) (v := ?_) (a' := ?_) #[true, true, true, true, false, true, false, false, false, true, false, false, false, false] rfl rfl (any_of HT_.out (by kernel_rfl)) (fun _ _ _ h => h) (Or.inl ⟨by rfl, ?_⟩) ?_ ?_
        rotate_left
        ·intro w'
         go_simp
         with_reducible rfl
        rotate_left
        ·simp only [Act.put, List.setIfInBounds_toArray, List.set_cons_zero, List.set_cons_succ, i64_w, i32_w]
         rfl
        refine pure_ (i := 4) (N := some 49) (v := ?_) (a' := ?_) #[true, true, true, true, true, true, false, false, false, true, false, false, false, false] rfl rfl (any_of HT_.out (by kernel_rfl)) (fun _ _ _ h => h) (Or.inl ⟨by rfl, ?_⟩) ?_ ?_
        rotate_left
        ·intro w'
         go_simp
         with_reducible rfl
        rotate_left
        ·simp only [Act.put, List.setIfInBounds_toArray, List.set_cons_zero, List.set_cons_succ, i64_w, i32_w]
         rfl
        refine take_ (i := 6) (N := some 51) (v := ?_) (a' := ?_) #[true, true, true, true, true, true, true, false, false, true, false, false, false, false] rfl rfl (take_ofW HT_.out HW_.out (by kernel_rfl)) (fun _ _ _ h => h) (Or.inl ⟨by rfl, ?_⟩) hHeld ?_ ?_
        rotate_left
        ·rintro w' ⟨s0, s1⟩
         go_simp
         with_reducible rfl
        rotate_left
        ·simp only [Act.put, List.setIfInBounds_toArray, List.set_cons_zero, List.set_cons_succ, i64_w, i32_w]
         rfl
        refine pure_ (i := 7) (N := some 52) (v := ?_) (a' := ?_) #[true, true, true, true, true, true, true, true, false, true, false, false, false, false] rfl rfl (any_of HT_.out (by kernel_rfl)) (fun _ _ _ h => h) (Or.inl ⟨by rfl, ?_⟩) ?_ ?_
        rotate_left
        ·intro w'
         go_simp
         with_reducible rfl
        rotate_left
        ·simp only [Act.put, List.setIfInBounds_toArray, List.set_cons_zero, List.set_cons_succ, i64_w, i32_w]
         rfl
        refine pure_ (i := 8) (N := some 53) (v := ?_) (a' := ?_) #[true, true, true, true, true, true, true, true, true, true, false, false, false, false] rfl rfl (any_of HT_.out (by kernel_rfl)) (fun _ _ _ h => h) (Or.inl ⟨by rfl, ?_⟩) ?_ ?_
        rotate_left
        ·intro w'
         go_simp
         with_reducible rfl
        rotate_left
        ·simp only [Act.put, List.setIfInBounds_toArray, List.set_cons_zero, List.set_cons_succ, i64_w, i32_w]
         rfl
        refine take_ (i := 10) (N := some 55) (v := ?_) (a' := ?_) #[true, true, true, true, true, true, true, true, true, true, true, false, false, false] rfl rfl (take_ofW HT_.out HW_.out (by kernel_rfl)) (fun _ _ _ h => h) (Or.inl ⟨by rfl, ?_⟩) hHeld ?_ ?_
        rotate_left
        ·rintro w' ⟨s0, s1⟩
         go_simp
         with_reducible rfl
        rotate_left
        ·simp only [Act.put, List.setIfInBounds_toArray, List.set_cons_zero, List.set_cons_succ, i64_w, i32_w]
         rfl
        refine pure_ (i := 11) (N := some 56) (v := ?_) (a' := ?_) #[true, true, true, true, true, true, true, true, true, true, true, true, false, false] rfl rfl (any_of HT_.out (by kernel_rfl)) (fun _ _ _ h => h) (Or.inl ⟨by rfl, ?_⟩) ?_ ?_
        rotate_left
        ·intro w'
         go_simp
         with_reducible rfl
        rotate_left
        ·simp only [Act.put, List.setIfInBounds_toArray, List.set_cons_zero, List.set_cons_succ, i64_w, i32_w]
         rfl
        refine pure_ (i := 12) (N := some 57) (v := ?_) (a' := ?_) #[true, true, true, true, true, true, true, true, true, true, true, true, true, false] rfl rfl (any_of HT_.out (by kernel_rfl)) (fun _ _ _ h => h) (Or.inl ⟨by rfl, ?_⟩) ?_ ?_
        rotate_left
        ·intro w'
         go_simp
         with_reducible rfl
        rotate_left
        ·simp only [Act.put, List.setIfInBounds_toArray, List.set_cons_zero, List.set_cons_succ, i64_w, i32_w]
         rfl
        refine pure_ (i := 13) (N := some 1) (v := ?_) (a' := ?_) #[true, true, true, true, true, true, true, true, true, true, true, true, true, true] rfl rfl (any_of HT_.out (by kernel_rfl)) (fun _ _ _ h => h) (Or.inl ⟨by rfl, ?_⟩) ?_ ?_
        rotate_left
        ·intro w'
         go_simp
         with_reducible rfl
        rotate_left
        ·simp only [Act.put, List.setIfInBounds_toArray, List.set_cons_zero, List.set_cons_succ, i64_w, i32_w]
         rfl
        refine done_ (done_of HT_.out (by kernel_rfl)) ?_
        try go_wp2
        have n0_ := Aside0.mk (Kd.V_drew HO_312001.out)
        have n1_ := Aside0.mk (blk_drew BK311.out)
        have n2_ := Aside0.mk (below_drew1 HB.out)
        clear HO_312001
        clear BK311
        clear HB
        have HO_312001 := n0_
        have BK311 := n1_
        have HB := n2_
        clear n0_ n1_ n2_
        refine start_ (n := 14) (S := fun w' => w'.cell? ⟨gb311, 0, none⟩ = some (.int .i64 a0_0) ∧ w'.cell? ⟨gb311, 1, none⟩ = some (.slice A0_1 l0_1.length c0_1)) (ds := []) #[false, false, false, false, false, false, false, false, false, false, false, false, false, false] (by kernel_rfl) rfl rfl ⟨(blk_cell BK311.out 0).trans rfl, (blk_cell BK311.out 1).trans rfl⟩ (fun hHeld => ?_); refine with_tabW squelchlaw21_PoolBack.tab5 squelchlaw21_PoolBack.bits5 (fun HT_ HW_ => ?_)
        generalize w35.drew = w36 at HO_312001 BK311 HB hHeld ⊢
        refine pure_ (i := 0) (N := some 58) (v := ?_) (a' := ?_) #[true, false, false, false, false, false, false, false, false, false, false, false, false, false] rfl rfl (any_of HT_.out (by kernel_rfl)) (fun _ _ _ h => h) (Or.inl ⟨by rfl, ?_⟩) ?_ ?_
        rotate_left
        ·intro w'
         go_simp
         with_reducible rfl
        rotate_left
        ·simp only [Act.put, List.setIfInBounds_toArray, List.set_cons_zero, List.set_cons_succ, i64_w, i32_w]
         rfl
        refine pure_ (i := 1) (N := some 59) (v := ?_) (a' := ?_) #[true, true, false, false, false, false, false, false, false, false, false, false, false, false] rfl rfl (any_of HT_.out (by kernel_rfl)) (fun _ _ _ h => h) (Or.inl ⟨by rfl, ?_⟩) ?_ ?_
        rotate_left
        ·intro w'
         go_simp
         with_reducible rfl
        rotate_left
        ·simp only [Act.put, List.setIfInBounds_toArray, List.set_cons_zero, List.set_cons_succ, i64_w, i32_w]
         rfl
        refine pure_ (i := 5) (N := some 63) (v := ?_) (a' := ?_) #[true, true, false, false, false, true, false, false, false, false, false, false, false, false] rfl rfl (any_of HT_.out (by kernel_rfl)) (fun _ _ _ h => h) (Or.inl ⟨by rfl, ?_⟩) ?_ ?_
        rotate_left
        ·intro w'
         go_simp
         with_reducible rfl
        rotate_left
        ·simp only [Act.put, List.setIfInBounds_toArray, List.set_cons_zero, List.set_cons_succ, i64_w, i32_w]
         rfl
        refine pure_ (i := 9) (N := some 67) (v := ?_) (a' := ?_) #[true, true, false, false, false, true, false, false, false, true, false, false, false, false] rfl rfl (any_of HT_.out (by kernel_rfl)) (fun _ _ _ h => h) (Or.inl ⟨by rfl, ?_⟩) ?_ ?_
        rotate_left
        ·intro w'
         go_simp
         with_reducible rfl
        rotate_left
        ·simp only [Act.put, List.setIfInBounds_toArray, List.set_cons_zero, List.set_cons_succ, i64_w, i32_w]
         rfl
        refine take_ (i := 2) (N := some 60) (v := ?_) (a' := ?_) #[true, true, true, false, false, true, false, false, false, true, false, false, false, false] rfl rfl (take_ofW HT_.out HW_.out (by kernel_rfl)) (fun _ _ _ h => h) (Or.inl ⟨by rfl, ?_⟩) hHeld ?_ ?_
        rotate_left
        ·rintro w' ⟨s0, s1⟩
         go_simp
         with_reducible rfl
        rotate_left
        ·simp only [Act.put, List.setIfInBounds_toArray, List.set_cons_zero, List.set_cons_succ, i64_w, i32_w]
         rfl
        refine pure_ (i := 3) (N := some 61) (v := ?_) (a' := ?_) #[true, true, true, true, false, true, false, false, false, true, false, false, false, false] rfl rfl (any_of HT_.out (by kernel_rfl)) (fun _ _ _ h => h) (Or.inl ⟨by rfl, ?_⟩) ?_ ?_
        rotate_left
        ·intro w'
         go_simp
         with_reducible rfl
        rotate_left
        ·simp only [Act.put, List.setIfInBounds_toArray, List.set_cons_zero, List.set_cons_succ, i64_w, i32_w]
         rfl
        refine pure_ (i := 4) (N := some 62) (v := ?_) (a' := ?_) #[true, true, true, true, true, true, false, false, false, true, false, false, false, false] rfl rfl (any_of HT_.out (by kernel_rfl)) (fun _ _ _ h => h) (Or.inl ⟨by rfl, ?_⟩) ?_ ?_
        rotate_left
        ·intro w'
         go_simp
         with_reducible rfl
        rotate_left
        ·simp only [Act.put, List.setIfInBounds_toArray, List.set_cons_zero, List.set_cons_succ, i64_w, i32_w]
         rfl
        refine take_ (i := 6) (N := some 64) (v := ?_) (a' := ?_) #[true, true, true, true, true, true, true, false, false, true, false, false, false, false] rfl rfl (take_ofW HT_.out HW_.out (by kernel_rfl)) (fun _ _ _ h => h) (Or.inl ⟨by rfl, ?_⟩) hHeld ?_ ?_
        rotate_left
        ·rintro w' ⟨s0, s1⟩
         go_simp
         with_reducible rfl
        rotate_left
        ·simp only [Act.put, List.setIfInBounds_toArray, List.set_cons_zero, List.set_cons_succ, i64_w, i32_w]
         rfl
        refine pure_ (i := 7) (N := some 65) (v := ?_) (a' := ?_) #[true, true, true, true, true, true, true, true, false, true, false, false, false, false] rfl rfl (any_of HT_.out (by kernel_rfl)) (fun _ _ _ h => h) (Or.inl ⟨by rfl, ?_⟩) ?_ ?_
        rotate_left
        ·intro w'
         go_simp
         with_reducible rfl
        rotate_left
        ·simp only [Act.put, List.setIfInBounds_toArray, List.set_cons_zero, List.set_cons_succ, i64_w, i32_w]
         rfl
        refine pure_ (i := 8) (N := some 66) (v := ?_) (a' := ?_) #[true, true, true, true, true, true, true, true, true, true, false, false, false, false] rfl rfl (any_of HT_.out (by kernel_rfl)) (fun _ _ _ h => h) (Or.inl ⟨by rfl, ?_⟩) ?_ ?_
        rotate_left
        ·intro w'
         go_simp
         with_reducible rfl
        rotate_left
        ·simp only [Act.put, List.setIfInBounds_toArray, List.set_cons_zero, List.set_cons_succ, i64_w, i32_w]
         rfl
        refine take_ (i := 10) (N := some 68) (v := ?_) (a' := ?_) #[true, true, true, true, true, true, true, true, true, true, true, false, false, false] rfl rfl (take_ofW HT_.out HW_.out (by kernel_rfl)) (fun _ _ _ h => h) (Or.inl ⟨by rfl, ?_⟩) hHeld ?_ ?_
        rotate_left
        ·rintro w' ⟨s0, s1⟩
         go_simp
         with_reducible rfl
        rotate_left
        ·simp only [Act.put, List.setIfInBounds_toArray, List.set_cons_zero, List.set_cons_succ, i64_w, i32_w]
         rfl
        refine pure_ (i := 11) (N := some 69) (v := ?_) (a' := ?_) #[true, true, true, true, true, true, true, true, true, true, true, true, false, false] rfl rfl (any_of HT_.out (by kernel_rfl)) (fun _ _ _ h => h) (Or.inl ⟨by rfl, ?_⟩) ?_ ?_
        rotate_left
        ·intro w'
         go_simp
         with_reducible rfl
        rotate_left
        ·simp only [Act.put, List.setIfInBounds_toArray, List.set_cons_zero, List.set_cons_succ, i64_w, i32_w]
         rfl
        refine pure_ (i := 12) (N := some 70) (v := ?_) (a' := ?_) #[true, true, true, true, true, true, true, true, true, true, true, true, true, false] rfl rfl (any_of HT_.out (by kernel_rfl)) (fun _ _ _ h => h) (Or.inl ⟨by rfl, ?_⟩) ?_ ?_
        rotate_left
        ·intro w'
         go_simp
         with_reducible rfl
        rotate_left
        ·simp only [Act.put, List.setIfInBounds_toArray, List.set_cons_zero, List.set_cons_succ, i64_w, i32_w]
         rfl
        refine pure_ (i := 13) (N := some 2) (v := ?_) (a' := ?_) #[true, true, true, true, true, true, true, true, true, true, true, true, true, true] rfl rfl (any_of HT_.out (by kernel_rfl)) (fun _ _ _ h => h) (Or.inl ⟨by rfl, ?_⟩) ?_ ?_
        rotate_left
        ·intro w'
         go_simp
         with_reducible rfl
        rotate_left
        ·simp only [Act.put, List.setIfInBounds_toArray, List.set_cons_zero, List.set_cons_succ, i64_w, i32_w]
         rfl
        refine done_ (done_of HT_.out (by kernel_rfl)) ?_
        have hcz37_0 : w36.cell? ⟨gb311, 0, none⟩ = some (.int .i64 a0_0) := (blk_cell BK311.out 0).trans rfl
        have hcz37_1 : w36.cell? ⟨gb311, 1, none⟩ = some (.slice A0_1 l0_1.length c0_1) := (blk_cell BK311.out 1).trans rfl
        have hfz37_0 := blk_frozen BK311.out 0
        have hfz37_1 := blk_frozen BK311.out 1
        have p315 : 0 ≤ ((ji26) : Int) := of_decide_eq_true (by first | (with_reducible assumption) | assumption)
        have q315 : (ji26) < (l0_1.length : Int) := of_decide_eq_true (by first | (with_reducible assumption) | assumption)
        obtain ⟨ad315, A315_1, c315_1, e315, hx315_0, hx315_1, hl315_1, hi315_1⟩ := at_T31 (Kd.V_reads' HO_312001.out).2.2 (ji26) p315 q315
        cases e315
        obtain ⟨ce315, hce315, hMe315, hcc315⟩ := Kd.V_get HO_312001.out z31 (ji26) p315 (by first | exact q315 | exact of_decide_eq_true (by first | (with_reducible assumption) | assumption) | (have e_ := (Kd.V_reads' HO_312001.out).1; omega))
        obtain ⟨ua315_1, uc315_1, rfl, ul315_1, ge315_1⟩ := k31_openF hMe315
        have hv315_1 := hcc315 1 _ rfl
        rw [add_field _ _ 1 (by omega)] at hv315_1
        replace hv315_1 := Option.some.inj (hv315_1.symm.trans hx315_1)
        injection hv315_1 with hva_ hvn_ hvc_
        rw [hva_] at ge315_1
        rw [hvc_] at ul315_1
        have HL315_1 := Aside0.mk (show Kd.V (Kd.int .u8) 5 _ w.heap.size _ _ ((rd_T31 l0_1 (ji26)).f1) from Kd.V_mk ul315_1 ge315_1)
        clear hva_ hvn_ hvc_ ge315_1 ul315_1
        clear hcc315 hce315
        have HR315_1 := Aside0.mk hi315_1
        have HC315_1 := Aside0.mk hl315_1
        clear hi315_1 hl315_1
        replace p315 := eq_true p315
        replace q315 := eq_true q315
        go_upto_region 12 with (first | ((with_reducible refine gate_callee (f := 16) rfl ?_); refine goesL_ (some 90) rfl rfl Try.func16 (by kernel_rfl) rfl #[.agg #[.int .i64 a0_0, .slice (some ad315) l0_1.length c0_1], .int .i64 ji26, .int .i64 (Int.tmod (wrap64 ((Int.tmod a3 (wrap64 (8 * (((rd_T31 l0_1 (ji26)).f1).length : Int)))) + (wrap64 (8 * (((rd_T31 l0_1 (ji26)).f1).length : Int))))) (wrap64 (8 * (((rd_T31 l0_1 (ji26)).f1).length : Int))))] rfl (by (try simp only [List.map_toArray, List.map_cons, List.map_nil]); first | done | (simp only [hji26]; rfl) | rfl | (simp only [List.length_drop, List.length_take]; rfl)) ?_; (with_reducible refine (pool_Spoil.calls kj5 a0_0 _ _ l0_1 ji26 (Int.tmod (wrap64 ((Int.tmod a3 (wrap64 (8 * (((rd_T31 l0_1 (ji26)).f1).length : Int)))) + (wrap64 (8 * (((rd_T31 l0_1 (ji26)).f1).length : Int))))) (wrap64 (8 * (((rd_T31 l0_1 (ji26)).f1).length : Int)))) t316 t317 t320 _ ?side1 ?side2 A30.out).mono ?_); (case side1 => repeat (first | exact (Kd.V_reads' HO_312001.out).2.2 | (with_reducible refine Kd.C_alloc ?_ _) | (with_reducible refine Kd.C_drewN ?_ _) | (with_reducible refine Kd.C_drew ?_))); (case side2 => exact (Kd.V_reads' HO_312001.out).2.1); rintro e w38 ⟨v318, rfl, ho0, hb⟩; refine ⟨_, rfl, ?_⟩; have n0_ := Aside0.mk (Kd.V_elder' (by (with_reducible repeat (first | apply Kd.V_alloc | apply Kd.V_drewN | apply Kd.V_drew)); exact HO_312001.out) (Kd.S_base ho0) hb); have n1_ := Aside0.mk (Kd.V_elder' (by (with_reducible repeat (first | apply Kd.V_alloc | apply Kd.V_drewN | apply Kd.V_drew)); exact HL315_1.out) (Kd.S_base ho0) hb); have n2_ := Aside0.mk (Kd.S_lower (Kd.S_newM (M := fun k_ => (w.heap.size ≤ k_)) ho0 (below_size (by repeat (first | (with_reducible first | exact HB.out | apply below_alloc | apply pw_below_drewN | apply below_drew1 | refine below_set ?_ GE311.out) | exact HB.out))) (fun k_ h_ => h_)) (below_size (by repeat (first | (with_reducible first | exact HB.out | apply below_alloc | apply pw_below_drewN | apply below_drew1 | refine below_set ?_ GE311.out) | exact HB.out)))); have n3_ := Aside0.mk (blk_below (g := gb311) (o := .cells #[.int .i64 a0_0, .slice (some ad315) l0_1.length c0_1] 24 (0, 0)) (by (with_reducible repeat (first | refine blk_drewN ?_ _ | refine blk_drew ?_ | refine blk_alloc ?_ _)); exact BK311.out) hb); have n4_ := Aside0.mk (Kd.C_below (by repeat (first | (with_reducible exact HR315_1.out) | (with_reducible refine Kd.C_alloc ?_ _) | (with_reducible refine Kd.C_drewN ?_ _) | (with_reducible refine Kd.C_drew ?_) | exact HR315_1.out)) hb); have n5_ := Aside0.mk (below_step (by repeat (first | (with_reducible first | exact HB.out | apply below_alloc | apply pw_below_drewN | apply below_drew1 | refine below_set ?_ GE311.out) | exact HB.out)) hb); clear HO_312001; clear HL315_1; clear BK311; clear HR315_1; clear HB; have HO_312001 := n0_; have HL315_1 := n1_; have HO319 := n2_; have BK311 := n3_; have HR315_1 := n4_; have HB := n5_; clear n0_ n1_ n2_ n3_ n4_ n5_; (try clear hb); (try clear hb2); (try clear hk); (try clear hi); (try clear ho0)) | ((with_reducible refine gate_dst (N := 11) rfl ?_); (try (refine gate_guard (by rfl) ?_; dsimp only)); refine box_event ?hg (N := 11) ?hd (cs := #[.int .i64 0, .slice none 0 0]) (t := 24) ?hr ?_; (case hd => rfl); (case hg => rfl); (case hr => first | (go_simp; done) | (go_simp; rfl)); intro gb321 hg w39 hbox hb; have n0_ := Aside0.mk (Kd.V_below (Kd.V_elderB (by (with_reducible repeat (first | apply Kd.V_alloc | apply Kd.V_drewN | apply Kd.V_drew)); exact HO_312001.out) gb321 (Nat.le_of_eq hg.symm)) hb); have n1_ := Aside0.mk (Kd.V_below (Kd.V_elderB (by (with_reducible repeat (first | apply Kd.V_alloc | apply Kd.V_drewN | apply Kd.V_drew)); exact HL315_1.out) gb321 (Nat.le_of_eq hg.symm)) hb); have n2_ := Aside0.mk (Kd.S_below (by (with_reducible repeat (first | apply Kd.S_alloc | apply Kd.S_drewN | apply Kd.S_drew)); exact HO319.out) hb); have n3_ := Aside0.mk (blk_below (g := gb311) (o := .cells #[.int .i64 a0_0, .slice (some ad315) l0_1.length c0_1] 24 (0, 0)) (by (with_reducible repeat (first | refine blk_drewN ?_ _ | refine blk_drew ?_ | refine blk_alloc ?_ _)); exact BK311.out) hb); have n4_ := Aside0.mk (Kd.C_below (by repeat (first | (with_reducible exact HR315_1.out) | (with_reducible refine Kd.C_alloc ?_ _) | (with_reducible refine Kd.C_drewN ?_ _) | (with_reducible refine Kd.C_drew ?_) | exact HR315_1.out)) hb); have n5_ := Aside0.mk (below_step (by repeat (first | (with_reducible first | exact HB.out | apply below_alloc | apply pw_below_drewN | apply below_drew1 | refine below_set ?_ GE311.out) | exact HB.out)) hb); have n6_ := Aside0.mk (hbox); have n7_ := Aside0.mk ((by rw [hg]; exact (below_size (by repeat (first | (with_reducible first | exact HB.out | apply below_alloc | apply pw_below_drewN | apply below_drew1 | refine below_set ?_ GE311.out) | exact HB.out))) : w.heap.size ≤ gb321)); have n8_ := Aside0.mk ((by rw [hg]; exact (below_size (by repeat (first | (with_reducible first | exact HB.out | apply below_alloc | apply pw_below_drewN | apply below_drew1 | refine below_set ?_ GE311.out) | exact HB.out))) : w.heap.size ≤ gb321)); have n9_ := Aside0.mk ((by rw [hg]; exact Nat.ne_of_lt (blk_lt (g := gb311) (o := .cells #[.int .i64 a0_0, .slice (some ad315) l0_1.length c0_1] 24 (0, 0)) (by (with_reducible repeat (first | refine blk_drewN ?_ _ | refine blk_drew ?_ | refine blk_alloc ?_ _)); exact BK311.out)) : gb311 ≠ gb321)); have n10_ := Aside0.mk ((by rw [hg]; exact Nat.ne_of_gt (blk_lt (g := gb311) (o := .cells #[.int .i64 a0_0, .slice (some ad315) l0_1.length c0_1] 24 (0, 0)) (by (with_reducible repeat (first | refine blk_drewN ?_ _ | refine blk_drew ?_ | refine blk_alloc ?_ _)); exact BK311.out)) : gb321 ≠ gb311)); clear HO_312001; clear HL315_1; clear HO319; clear BK311; clear HR315_1; clear HB; have HO_312001 := n0_; have HL315_1 := n1_; have HO319 := n2_; have BK311 := n3_; have HR315_1 := n4_; have HB := n5_; have BK321 := n6_; have GW321 := n7_; have GE321 := n8_; have NB311_321 := n9_; have NB321_311 := n10_; clear n0_ n1_ n2_ n3_ n4_ n5_ n6_ n7_ n8_ n9_ n10_; clear hb hbox hg; have hnb40 := NB321_311.out; have hnc40 := NB311_321.out; have hcz41_0 : w39.cell? ⟨gb321, 0, none⟩ = some (.int .i64 0) := (blk_cell BK321.out 0).trans rfl; have hcz41_1 : w39.cell? ⟨gb321, 1, none⟩ = some (.slice none 0 0) := (blk_cell BK321.out 1).trans rfl; have hfz41_0 := blk_frozen BK321.out 0; have hfz41_1 := blk_frozen BK321.out 1; obtain ⟨Ao42, co42, eo42⟩ := Kd.S_slice HO319.out; subst eo42) | ((with_reducible refine gate_callee (f := 16) rfl ?_); refine goesL_ (some 97) rfl rfl Try.func16 (by kernel_rfl) rfl #[.agg #[.int .i64 t316, .slice Ao42 t317.length co42], .int .i64 ji26, .int .i64 (Int.tmod (wrap64 ((Int.tmod a3 (wrap64 (8 * (((rd_T31 l0_1 (ji26)).f1).length : Int)))) + (wrap64 (8 * (((rd_T31 l0_1 (ji26)).f1).length : Int))))) (wrap64 (8 * (((rd_T31 l0_1 (ji26)).f1).length : Int))))] rfl (by (try simp only [List.map_toArray, List.map_cons, List.map_nil]); first | done | (simp only [hji26]; rfl) | rfl | (simp only [List.length_drop, List.length_take]; rfl)) ?_; (with_reducible refine (pool_Spoil.calls kj5 t316 _ _ t317 ji26 (Int.tmod (wrap64 ((Int.tmod a3 (wrap64 (8 * (((rd_T31 l0_1 (ji26)).f1).length : Int)))) + (wrap64 (8 * (((rd_T31 l0_1 (ji26)).f1).length : Int))))) (wrap64 (8 * (((rd_T31 l0_1 (ji26)).f1).length : Int)))) t322 t323 t326 _ ?side1 ?side2 A31.out).mono ?_); (case side1 => refine (Kd.S_reads' (e := 31) (base := w.heap.size) (ok := fun k_ => (((w.heap.size ≤ k_)) ∧ True)) (n := t317.length) (c := co42) ?_).2.2; exact (by (with_reducible repeat (first | apply Kd.S_alloc | apply Kd.S_drewN | apply Kd.S_drew)); exact (Kd.S_mono (Kd.S_far (p := ⟨gb321, 1, none⟩) (Kd.S_far (p := ⟨gb321, 0, none⟩) (Kd.S_types HO319.out BK321.out (by decide)) (fun _ hk => hk.2) (.int .i64 t316)) (fun _ hk => hk.2) (.slice Ao42 t317.length co42)) (fun _ h_ => h_.1)))); (case side2 => exact (Kd.S_reads' HO319.out).2.1); rintro e w43 ⟨v324, rfl, ho0, hb⟩; refine ⟨_, rfl, ?_⟩; have n0_ := Aside0.mk (Kd.V_elder' (by (with_reducible repeat (first | apply Kd.V_alloc | apply Kd.V_drewN | apply Kd.V_drew)); exact (Kd.V_mono (Kd.V_far (p := ⟨gb321, 1, none⟩) (Kd.V_far (p := ⟨gb321, 0, none⟩) (Kd.V_mono HO_312001.out (fun k_ hk => (⟨hk, hk.2⟩ : _ ∧ k_ ≠ gb321))) (fun _ hk => hk.2) (.int .i64 t316)) (fun _ hk => hk.2) (.slice Ao42 t317.length co42)) (fun _ h_ => h_.1))) (Kd.S_base ho0) hb); have n1_ := Aside0.mk (Kd.V_elder' (by (with_reducible repeat (first | apply Kd.V_alloc | apply Kd.V_drewN | apply Kd.V_drew)); exact (Kd.V_mono (Kd.V_far (p := ⟨gb321, 1, none⟩) (Kd.V_far (p := ⟨gb321, 0, none⟩) (Kd.V_mono HL315_1.out (fun k_ hk => (⟨hk, hk.2⟩ : _ ∧ k_ ≠ gb321))) (fun _ hk => hk.2) (.int .i64 t316)) (fun _ hk => hk.2) (.slice Ao42 t317.length co42)) (fun _ h_ => h_.1))) (Kd.S_base ho0) hb); have n2_ := Aside0.mk (Kd.S_elder' (by (with_reducible repeat (first | apply Kd.S_alloc | apply Kd.S_drewN | apply Kd.S_drew)); exact (Kd.S_mono (Kd.S_far (p := ⟨gb321, 1, none⟩) (Kd.S_far (p := ⟨gb321, 0, none⟩) (Kd.S_types HO319.out BK321.out (by decide)) (fun _ hk => hk.2) (.int .i64 t316)) (fun _ hk => hk.2) (.slice Ao42 t317.length co42)) (fun _ h_ => h_.1))) (Kd.S_base ho0) hb); have n3_ := Aside0.mk (Kd.S_lower (Kd.S_new' (Kd.S_newM (M := fun k_ => (w.heap.size ≤ k_)) ho0 (below_size (by repeat (first | (with_reducible first | exact HB.out | apply below_alloc | apply pw_below_drewN | apply below_drew1 | refine below_set ?_ GE311.out | refine below_set ?_ GE321.out) | exact HB.out))) (fun k_ h_ => h_)) (Kd.S_lt (by (with_reducible repeat (first | apply Kd.S_alloc | apply Kd.S_drewN | apply Kd.S_drew)); exact (Kd.S_mono (Kd.S_far (p := ⟨gb321, 1, none⟩) (Kd.S_far (p := ⟨gb321, 0, none⟩) (Kd.S_types HO319.out BK321.out (by decide)) (fun _ hk => hk.2) (.int .i64 t316)) (fun _ hk => hk.2) (.slice Ao42 t317.length co42)) (fun _ h_ => h_.1))))) (below_size (by repeat (first | (with_reducible first | exact HB.out | apply below_alloc | apply pw_below_drewN | apply below_drew1 | refine below_set ?_ GE311.out | refine below_set ?_ GE321.out) | exact HB.out)))); have n4_ := Aside0.mk (blk_below (g := gb311) (o := .cells #[.int .i64 a0_0, .slice (some ad315) l0_1.length c0_1] 24 (0, 0)) (by (with_reducible repeat (first | refine blk_drewN ?_ _ | refine blk_drew ?_ | refine blk_alloc ?_ _)); refine blk_far ?_ NB311_321.out _; (with_reducible repeat (first | refine blk_drewN ?_ _ | refine blk_drew ?_ | refine blk_alloc ?_ _)); refine blk_far ?_ NB311_321.out _; (with_reducible repeat (first | refine blk_drewN ?_ _ | refine blk_drew ?_ | refine blk_alloc ?_ _)); exact BK311.out) hb); have n5_ := Aside0.mk (Kd.C_below ((Kd.V_reads' (by (with_reducible repeat (first | apply Kd.V_alloc | apply Kd.V_drewN | apply Kd.V_drew)); exact (Kd.V_mono (Kd.V_far (p := ⟨gb321, 1, none⟩) (Kd.V_far (p := ⟨gb321, 0, none⟩) (Kd.V_mono HL315_1.out (fun k_ hk => (⟨hk, hk.2⟩ : _ ∧ k_ ≠ gb321))) (fun _ hk => hk.2) (.int .i64 t316)) (fun _ hk => hk.2) (.slice Ao42 t317.length co42)) (fun _ h_ => h_.1)))).2.2) hb); have n6_ := Aside0.mk (blk_below (g := gb321) (o := .cells #[.int .i64 t316, .slice Ao42 t317.length co42] 24 (0, 0)) (by (with_reducible repeat (first | refine blk_drewN ?_ _ | refine blk_drew ?_ | refine blk_alloc ?_ _)); refine blk_put (cs := #[.int .i64 t316, .slice none 0 0]) ?_ 1 _ rfl; (with_reducible repeat (first | refine blk_drewN ?_ _ | refine blk_drew ?_ | refine blk_alloc ?_ _)); refine blk_put (cs := #[.int .i64 0, .slice none 0 0]) ?_ 0 _ rfl; (with_reducible repeat (first | refine blk_drewN ?_ _ | refine blk_drew ?_ | refine blk_alloc ?_ _)); exact BK321.out) hb); have n7_ := Aside0.mk (below_step (by repeat (first | (with_reducible first | exact HB.out | apply below_alloc | apply pw_below_drewN | apply below_drew1 | refine below_set ?_ GE311.out | refine below_set ?_ GE321.out) | exact HB.out)) hb); clear HO_312001; clear HL315_1; clear HO319; clear BK311; clear HR315_1; clear BK321; clear HB; have HO_312001 := n0_; have HL315_1 := n1_; have HO319 := n2_; have HO325 := n3_; have BK311 := n4_; have HR315_1 := n5_; have BK321 := n6_; have HB := n7_; clear n0_ n1_ n2_ n3_ n4_ n5_ n6_ n7_; (try clear hb); (try clear hb2); (try clear hk); (try clear hi); (try clear ho0)) | ((with_reducible refine gate_dst (N := 13) rfl ?_); (try (refine gate_guard (by rfl) ?_; dsimp only)); refine box_event ?hg (N := 13) ?hd (cs := #[.int .i64 0, .slice none 0 0]) (t := 24) ?hr ?_; (case hd => rfl); (case hg => rfl); (case hr => first | (go_simp; done) | (go_simp; rfl)); intro gb327 hg w44 hbox hb; have n0_ := Aside0.mk (Kd.V_below (Kd.V_elderB (by (with_reducible repeat (first | apply Kd.V_alloc | apply Kd.V_drewN | apply Kd.V_drew)); exact HO_312001.out) gb327 (Nat.le_of_eq hg.symm)) hb); have n1_ := Aside0.mk (Kd.V_below (Kd.V_elderB (by (with_reducible repeat (first | apply Kd.V_alloc | apply Kd.V_drewN | apply Kd.V_drew)); exact HL315_1.out) gb327 (Nat.le_of_eq hg.symm)) hb); have n2_ := Aside0.mk (Kd.S_below (by (with_reducible repeat (first | apply Kd.S_alloc | apply Kd.S_drewN | apply Kd.S_drew)); exact HO319.out) hb); have n3_ := Aside0.mk (Kd.S_below (by (with_reducible repeat (first | apply Kd.S_alloc | apply Kd.S_drewN | apply Kd.S_drew)); exact HO325.out) hb); have n4_ := Aside0.mk (blk_below (g := gb311) (o := .cells #[.int .i64 a0_0, .slice (some ad315) l0_1.length c0_1] 24 (0, 0)) (by (with_reducible repeat (first | refine blk_drewN ?_ _ | refine blk_drew ?_ | refine blk_alloc ?_ _)); exact BK311.out) hb); have n5_ := Aside0.mk (Kd.C_below (by repeat (first | (with_reducible exact HR315_1.out) | (with_reducible refine Kd.C_alloc ?_ _) | (with_reducible refine Kd.C_drewN ?_ _) | (with_reducible refine Kd.C_drew ?_) | exact HR315_1.out)) hb); have n6_ := Aside0.mk (blk_below (g := gb321) (o := .cells #[.int .i64 t316, .slice Ao42 t317.length co42] 24 (0, 0)) (by (with_reducible repeat (first | refine blk_drewN ?_ _ | refine blk_drew ?_ | refine blk_alloc ?_ _)); exact BK321.out) hb); have n7_ := Aside0.mk (below_step (by repeat (first | (with_reducible first | exact HB.out | apply below_alloc | apply pw_below_drewN | apply below_drew1 | refine below_set ?_ GE311.out | refine below_set ?_ GE321.out) | exact HB.out)) hb); have n8_ := Aside0.mk (hbox); have n9_ := Aside0.mk ((by rw [hg]; exact (below_size (by repeat (first | (with_reducible first | exact HB.out | apply below_alloc | apply pw_below_drewN | apply below_drew1 | refine below_set ?_ GE311.out | refine below_set ?_ GE321.out) | exact HB.out))) : w.heap.size ≤ gb327)); have n10_ := Aside0.mk ((by rw [hg]; exact (below_size (by repeat (first | (with_reducible first | exact HB.out | apply below_alloc | apply pw_below_drewN | apply below_drew1 | refine below_set ?_ GE311.out | refine below_set ?_ GE321.out) | exact HB.out))) : w.heap.size ≤ gb327)); have n11_ := Aside0.mk ((by rw [hg]; exact Nat.ne_of_lt (blk_lt (g := gb311) (o := .cells #[.int .i64 a0_0, .slice (some ad315) l0_1.length c0_1] 24 (0, 0)) (by (with_reducible repeat (first | refine blk_drewN ?_ _ | refine blk_drew ?_ | refine blk_alloc ?_ _)); exact BK311.out)) : gb311 ≠ gb327)); have n12_ := Aside0.mk ((by rw [hg]; exact Nat.ne_of_gt (blk_lt (g := gb311) (o := .cells #[.int .i64 a0_0, .slice (some ad315) l0_1.length c0_1] 24 (0, 0)) (by (with_reducible repeat (first | refine blk_drewN ?_ _ | refine blk_drew ?_ | refine blk_alloc ?_ _)); exact BK311.out)) : gb327 ≠ gb311)); have n13_ := Aside0.mk ((by rw [hg]; exact Nat.ne_of_lt (blk_lt (g := gb321) (o := .cells #[.int .i64 t316, .slice Ao42 t317.length co42] 24 (0, 0)) (by (with_reducible repeat (first | refine blk_drewN ?_ _ | refine blk_drew ?_ | refine blk_alloc ?_ _)); exact BK321.out)) : gb321 ≠ gb327)); have n14_ := Aside0.mk ((by rw [hg]; exact Nat.ne_of_gt (blk_lt (g := gb321) (o := .cells #[.int .i64 t316, .slice Ao42 t317.length co42] 24 (0, 0)) (by (with_reducible repeat (first | refine blk_drewN ?_ _ | refine blk_drew ?_ | refine blk_alloc ?_ _)); exact BK321.out)) : gb327 ≠ gb321)); clear HO_312001; clear HL315_1; clear HO319; clear HO325; clear BK311; clear HR315_1; clear BK321; clear HB; have HO_312001 := n0_; have HL315_1 := n1_; have HO319 := n2_; have HO325 := n3_; have BK311 := n4_; have HR315_1 := n5_; have BK321 := n6_; have HB := n7_; have BK327 := n8_; have GW327 := n9_; have GE327 := n10_; have NB311_327 := n11_; have NB327_311 := n12_; have NB321_327 := n13_; have NB327_321 := n14_; clear n0_ n1_ n2_ n3_ n4_ n5_ n6_ n7_ n8_ n9_ n10_ n11_ n12_ n13_ n14_; clear hb hbox hg; have hnb45 := NB327_311.out; have hnc45 := NB311_327.out; have hnb46 := NB327_321.out; have hnc46 := NB321_327.out; have hcz47_0 : w44.cell? ⟨gb327, 0, none⟩ = some (.int .i64 0) := (blk_cell BK327.out 0).trans rfl; have hcz47_1 : w44.cell? ⟨gb327, 1, none⟩ = some (.slice none 0 0) := (blk_cell BK327.out 1).trans rfl; have hfz47_0 := blk_frozen BK327.out 0; have hfz47_1 := blk_frozen BK327.out 1; obtain ⟨Ao48, co48, eo48⟩ := Kd.S_slice HO325.out; subst eo48; have hcz49_0 : w44.cell? ⟨gb311, 0, none⟩ = some (.int .i64 a0_0) := (blk_cell BK311.out 0).trans rfl; have hcz49_1 : w44.cell? ⟨gb311, 1, none⟩ = some (.slice (some ad315) l0_1.length c0_1) := (blk_cell BK311.out 1).trans rfl; have hfz49_0 := blk_frozen BK311.out 0; have hfz49_1 := blk_frozen BK311.out 1) | ((with_reducible refine gate_callee (f := 17) rfl ?_); refine goesL_ (some 104) rfl rfl Try.func17 (by kernel_rfl) rfl #[.agg #[.int .i64 a0_0, .slice (some ad315) l0_1.length c0_1], .int .i64 ji26, .int .i64 (Int.tmod (wrap64 ((Int.tmod a2 (l0_1.length : Int)) + (l0_1.length : Int))) (l0_1.length : Int))] rfl (by (try simp only [List.map_toArray, List.map_cons, List.map_nil]); first | done | (simp only [hji26]; rfl) | rfl | (simp only [List.length_drop, List.length_take]; rfl)) ?_; (with_reducible refine (pool_Swap.calls kj5 a0_0 _ _ l0_1 ji26 (Int.tmod (wrap64 ((Int.tmod a2 (l0_1.length : Int)) + (l0_1.length : Int))) (l0_1.length : Int)) t328 t329 t332 _ ?side1 ?side2 A32.out).mono ?_); (case side1 => refine (Kd.V_reads' (e := 31) (base := w.heap.size) (ok := fun k_ => (((((((P0_1_ k_ ∨ w.heap.size ≤ k_)) ∧ k_ ≠ gb311) ∧ some k_ ≠ (.slice Ao42 t317.length co42 : Value).ownBlock) ∧ k_ ≠ gb321) ∧ some k_ ≠ (.slice Ao48 t323.length co48 : Value).ownBlock) ∧ k_ ≠ gb327)) (n := l0_1.length) (c := c0_1) ?_).2.2; exact (by (with_reducible repeat (first | apply Kd.V_alloc | apply Kd.V_drewN | apply Kd.V_drew)); exact (Kd.V_mono (Kd.V_far (p := ⟨gb327, 1, none⟩) (Kd.V_far (p := ⟨gb327, 0, none⟩) (Kd.V_mono HO_312001.out (fun k_ hk => (⟨hk, hk.2⟩ : _ ∧ k_ ≠ gb327))) (fun _ hk => hk.2) (.int .i64 t322)) (fun _ hk => hk.2) (.slice Ao48 t323.length co48)) (fun _ h_ => h_.1)))); (case side2 => exact (Kd.V_reads' HO_312001.out).2.1); rintro e w50 ⟨v330, rfl, ho0, hb⟩; refine ⟨_, rfl, ?_⟩; have n0_ := Aside0.mk (Kd.V_elder' (by (with_reducible repeat (first | apply Kd.V_alloc | apply Kd.V_drewN | apply Kd.V_drew)); exact (Kd.V_mono (Kd.V_far (p := ⟨gb327, 1, none⟩) (Kd.V_far (p := ⟨gb327, 0, none⟩) (Kd.V_mono HO_312001.out (fun k_ hk => (⟨hk, hk.2⟩ : _ ∧ k_ ≠ gb327))) (fun _ hk => hk.2) (.int .i64 t322)) (fun _ hk => hk.2) (.slice Ao48 t323.length co48)) (fun _ h_ => h_.1))) (Kd.S_base ho0) hb); have n1_ := Aside0.mk (Kd.V_elder' (by (with_reducible repeat (first | apply Kd.V_alloc | apply Kd.V_drewN | apply Kd.V_drew)); exact (Kd.V_mono (Kd.V_far (p := ⟨gb327, 1, none⟩) (Kd.V_far (p := ⟨gb327, 0, none⟩) (Kd.V_mono HL315_1.out (fun k_ hk => (⟨hk, hk.2⟩ : _ ∧ k_ ≠ gb327))) (fun _ hk => hk.2) (.int .i64 t322)) (fun _ hk => hk.2) (.slice Ao48 t323.length co48)) (fun _ h_ => h_.1))) (Kd.S_base ho0) hb); have n2_ := Aside0.mk (Kd.S_elder' (by (with_reducible repeat (first | apply Kd.S_alloc | apply Kd.S_drewN | apply Kd.S_drew)); exact (Kd.S_mono (Kd.S_far (p := ⟨gb327, 1, none⟩) (Kd.S_far (p := ⟨gb327, 0, none⟩) (Kd.S_types HO319.out BK327.out (by decide)) (fun _ hk => hk.2) (.int .i64 t322)) (fun _ hk => hk.2) (.slice Ao48 t323.length co48)) (fun _ h_ => h_.1))) (Kd.S_base ho0) hb); have n3_ := Aside0.mk (Kd.S_elder' (by (with_reducible repeat (first | apply Kd.S_alloc | apply Kd.S_drewN | apply Kd.S_drew)); exact (Kd.S_mono (Kd.S_far (p := ⟨gb327, 1, none⟩) (Kd.S_far (p := ⟨gb327, 0, none⟩) (Kd.S_types HO325.out BK327.out (by decide)) (fun _ hk => hk.2) (.int .i64 t322)) (fun _ hk => hk.2) (.slice Ao48 t323.length co48)) (fun _ h_ => h_.1))) (Kd.S_base ho0) hb); have n4_ := Aside0.mk (Kd.S_lower (Kd.S_new' (Kd.S_new' (Kd.S_newM (M := fun k_ => (w.heap.size ≤ k_)) ho0 (below_size (by repeat (first | (with_reducible first | exact HB.out | apply below_alloc | apply pw_below_drewN | apply below_drew1 | refine below_set ?_ GE311.out | refine below_set ?_ GE321.out | refine below_set ?_ GE327.out) | exact HB.out))) (fun k_ h_ => h_)) (Kd.S_lt (by (with_reducible repeat (first | apply Kd.S_alloc | apply Kd.S_drewN | apply Kd.S_drew)); exact (Kd.S_mono (Kd.S_far (p := ⟨gb327, 1, none⟩) (Kd.S_far (p := ⟨gb327, 0, none⟩) (Kd.S_types HO319.out BK327.out (by decide)) (fun _ hk => hk.2) (.int .i64 t322)) (fun _ hk => hk.2) (.slice Ao48 t323.length co48)) (fun _ h_ => h_.1))))) (Kd.S_lt (by (with_reducible repeat (first | apply Kd.S_alloc | apply Kd.S_drewN | apply Kd.S_drew)); exact (Kd.S_mono (Kd.S_far (p := ⟨gb327, 1, none⟩) (Kd.S_far (p := ⟨gb327, 0, none⟩) (Kd.S_types HO325.out BK327.out (by decide)) (fun _ hk => hk.2) (.int .i64 t322)) (fun _ hk => hk.2) (.slice Ao48 t323.length co48)) (fun _ h_ => h_.1))))) (below_size (by repeat (first | (with_reducible first | exact HB.out | apply below_alloc | apply pw_below_drewN | apply below_drew1 | refine below_set ?_ GE311.out | refine below_set ?_ GE321.out | refine below_set ?_ GE327.out) | exact HB.out)))); have n5_ := Aside0.mk (blk_below (g := gb311) (o := .cells #[.int .i64 a0_0, .slice (some ad315) l0_1.length c0_1] 24 (0, 0)) (by (with_reducible repeat (first | refine blk_drewN ?_ _ | refine blk_drew ?_ | refine blk_alloc ?_ _)); refine blk_far ?_ NB311_327.out _; (with_reducible repeat (first | refine blk_drewN ?_ _ | refine blk_drew ?_ | refine blk_alloc ?_ _)); refine blk_far ?_ NB311_327.out _; (with_reducible repeat (first | refine blk_drewN ?_ _ | refine blk_drew ?_ | refine blk_alloc ?_ _)); exact BK311.out) hb); have n6_ := Aside0.mk (Kd.C_below ((Kd.V_reads' (by (with_reducible repeat (first | apply Kd.V_alloc | apply Kd.V_drewN | apply Kd.V_drew)); exact (Kd.V_mono (Kd.V_far (p := ⟨gb327, 1, none⟩) (Kd.V_far (p := ⟨gb327, 0, none⟩) (Kd.V_mono HL315_1.out (fun k_ hk => (⟨hk, hk.2⟩ : _ ∧ k_ ≠ gb327))) (fun _ hk => hk.2) (.int .i64 t322)) (fun _ hk => hk.2) (.slice Ao48 t323.length co48)) (fun _ h_ => h_.1)))).2.2) hb); have n7_ := Aside0.mk (blk_below (g := gb321) (o := .cells #[.int .i64 t316, .slice Ao42 t317.length co42] 24 (0, 0)) (by (with_reducible repeat (first | refine blk_drewN ?_ _ | refine blk_drew ?_ | refine blk_alloc ?_ _)); refine blk_far ?_ NB321_327.out _; (with_reducible repeat (first | refine blk_drewN ?_ _ | refine blk_drew ?_ | refine blk_alloc ?_ _)); refine blk_far ?_ NB321_327.out _; (with_reducible repeat (first | refine blk_drewN ?_ _ | refine blk_drew ?_ | refine blk_alloc ?_ _)); exact BK321.out) hb); have n8_ := Aside0.mk (blk_below (g := gb327) (o := .cells #[.int .i64 t322, .slice Ao48 t323.length co48] 24 (0, 0)) (by (with_reducible repeat (first | refine blk_drewN ?_ _ | refine blk_drew ?_ | refine blk_alloc ?_ _)); refine blk_put (cs := #[.int .i64 t322, .slice none 0 0]) ?_ 1 _ rfl; (with_reducible repeat (first | refine blk_drewN ?_ _ | refine blk_drew ?_ | refine blk_alloc ?_ _)); refine blk_put (cs := #[.int .i64 0, .slice none 0 0]) ?_ 0 _ rfl; (with_reducible repeat (first | refine blk_drewN ?_ _ | refine blk_drew ?_ | refine blk_alloc ?_ _)); exact BK327.out) hb); have n9_ := Aside0.mk (below_step (by repeat (first | (with_reducible first | exact HB.out | apply below_alloc | apply pw_below_drewN | apply below_drew1 | refine below_set ?_ GE311.out | refine below_set ?_ GE321.out | refine below_set ?_ GE327.out) | exact HB.out)) hb); clear HO_312001; clear HL315_1; clear HO319; clear HO325; clear BK311; clear HR315_1; clear BK321; clear BK327; clear HB; have HO_312001 := n0_; have HL315_1 := n1_; have HO319 := n2_; have HO325 := n3_; have HO331 := n4_; have BK311 := n5_; have HR315_1 := n6_; have BK321 := n7_; have BK327 := n8_; have HB := n9_; clear n0_ n1_ n2_ n3_ n4_ n5_ n6_ n7_ n8_ n9_; (try clear hb); (try clear hb2); (try clear hk); (try clear hi); (try clear ho0)) | ((with_reducible refine gate_dst (N := 15) rfl ?_); (try (refine gate_guard (by rfl) ?_; dsimp only)); refine box_event ?hg (N := 15) ?hd (cs := #[.int .i64 0, .slice none 0 0]) (t := 24) ?hr ?_; (case hd => rfl); (case hg => rfl); (case hr => first | (go_simp; done) | (go_simp; rfl)); intro gb333 hg w51 hbox hb; have n0_ := Aside0.mk (Kd.V_below (Kd.V_elderB (by (with_reducible repeat (first | apply Kd.V_alloc | apply Kd.V_drewN | apply Kd.V_drew)); exact HO_312001.out) gb333 (Nat.le_of_eq hg.symm)) hb); have n1_ := Aside0.mk (Kd.V_below (Kd.V_elderB (by (with_reducible repeat (first | apply Kd.V_alloc | apply Kd.V_drewN | apply Kd.V_drew)); exact HL315_1.out) gb333 (Nat.le_of_eq hg.symm)) hb); have n2_ := Aside0.mk (Kd.S_below (by (with_reducible repeat (first | apply Kd.S_alloc | apply Kd.S_drewN | apply Kd.S_drew)); exact HO319.out) hb); have n3_ := Aside0.mk (Kd.S_below (by (with_reducible repeat (first | apply Kd.S_alloc | apply Kd.S_drewN | apply Kd.S_drew)); exact HO325.out) hb); have n4_ := Aside0.mk (Kd.S_below (by (with_reducible repeat (first | apply Kd.S_alloc | apply Kd.S_drewN | apply Kd.S_drew)); exact HO331.out) hb); have n5_ := Aside0.mk (blk_below (g := gb311) (o := .cells #[.int .i64 a0_0, .slice (some ad315) l0_1.length c0_1] 24 (0, 0)) (by (with_reducible repeat (first | refine blk_drewN ?_ _ | refine blk_drew ?_ | refine blk_alloc ?_ _)); exact BK311.out) hb); have n6_ := Aside0.mk (Kd.C_below (by repeat (first | (with_reducible exact HR315_1.out) | (with_reducible refine Kd.C_alloc ?_ _) | (with_reducible refine Kd.C_drewN ?_ _) | (with_reducible refine Kd.C_drew ?_) | exact HR315_1.out)) hb); have n7_ := Aside0.mk (blk_below (g := gb321) (o := .cells #[.int .i64 t316, .slice Ao42 t317.length co42] 24 (0, 0)) (by (with_reducible repeat (first | refine blk_drewN ?_ _ | refine blk_drew ?_ | refine blk_alloc ?_ _)); exact BK321.out) hb); have n8_ := Aside0.mk (blk_below (g := gb327) (o := .cells #[.int .i64 t322, .slice Ao48 t323.length co48] 24 (0, 0)) (by (with_reducible repeat (first | refine blk_drewN ?_ _ | refine blk_drew ?_ | refine blk_alloc ?_ _)); exact BK327.out) hb); have n9_ := Aside0.mk (below_step (by repeat (first | (with_reducible first | exact HB.out | apply below_alloc | apply pw_below_drewN | apply below_drew1 | refine below_set ?_ GE311.out | refine below_set ?_ GE321.out | refine below_set ?_ GE327.out) | exact HB.out)) hb); have n10_ := Aside0.mk (hbox); have n11_ := Aside0.mk ((by rw [hg]; exact (below_size (by repeat (first | (with_reducible first | exact HB.out | apply below_alloc | apply pw_below_drewN | apply below_drew1 | refine below_set ?_ GE311.out | refine below_set ?_ GE321.out | refine below_set ?_ GE327.out) | exact HB.out))) : w.heap.size ≤ gb333)); have n12_ := Aside0.mk ((by rw [hg]; exact (below_size (by repeat (first | (with_reducible first | exact HB.out | apply below_alloc | apply pw_below_drewN | apply below_drew1 | refine below_set ?_ GE311.out | refine below_set ?_ GE321.out | refine below_set ?_ GE327.out) | exact HB.out))) : w.heap.size ≤ gb333)); have n13_ := Aside0.mk ((by rw [hg]; exact Nat.ne_of_lt (blk_lt (g := gb311) (o := .cells #[.int .i64 a0_0, .slice (some ad315) l0_1.length c0_1] 24 (0, 0)) (by (with_reducible repeat (first | refine blk_drewN ?_ _ | refine blk_drew ?_ | refine blk_alloc ?_ _)); exact BK311.out)) : gb311 ≠ gb333)); have n14_ := Aside0.mk ((by rw [hg]; exact Nat.ne_of_gt (blk_lt (g := gb311) (o := .cells #[.int .i64 a0_0, .slice (some ad315) l0_1.length c0_1] 24 (0, 0)) (by (with_reducible repeat (first | refine blk_drewN ?_ _ | refine blk_drew ?_ | refine blk_alloc ?_ _)); exact BK311.out)) : gb333 ≠ gb311)); have n15_ := Aside0.mk ((by rw [hg]; exact Nat.ne_of_lt (blk_lt (g := gb321) (o := .cells #[.int .i64 t316, .slice Ao42 t317.length co42] 24 (0, 0)) (by (with_reducible repeat (first | refine blk_drewN ?_ _ | refine blk_drew ?_ | refine blk_alloc ?_ _)); exact BK321.out)) : gb321 ≠ gb333)); have n16_ := Aside0.mk ((by rw [hg]; exact Nat.ne_of_gt (blk_lt (g := gb321) (o := .cells #[.int .i64 t316, .slice Ao42 t317.length co42] 24 (0, 0)) (by (with_reducible repeat (first | refine blk_drewN ?_ _ | refine blk_drew ?_ | refine blk_alloc ?_ _)); exact BK321.out)) : gb333 ≠ gb321)); have n17_ := Aside0.mk ((by rw [hg]; exact Nat.ne_of_lt (blk_lt (g := gb327) (o := .cells #[.int .i64 t322, .slice Ao48 t323.length co48] 24 (0, 0)) (by (with_reducible repeat (first | refine blk_drewN ?_ _ | refine blk_drew ?_ | refine blk_alloc ?_ _)); exact BK327.out)) : gb327 ≠ gb333)); have n18_ := Aside0.mk ((by rw [hg]; exact Nat.ne_of_gt (blk_lt (g := gb327) (o := .cells #[.int .i64 t322, .slice Ao48 t323.length co48] 24 (0, 0)) (by (with_reducible repeat (first | refine blk_drewN ?_ _ | refine blk_drew ?_ | refine blk_alloc ?_ _)); exact BK327.out)) : gb333 ≠ gb327)); clear HO_312001; clear HL315_1; clear HO319; clear HO325; clear HO331; clear BK311; clear HR315_1; clear BK321; clear BK327; clear HB; have HO_312001 := n0_; have HL315_1 := n1_; have HO319 := n2_; have HO325 := n3_; have HO331 := n4_; have BK311 := n5_; have HR315_1 := n6_; have BK321 := n7_; have BK327 := n8_; have HB := n9_; have BK333 := n10_; have GW333 := n11_; have GE333 := n12_; have NB311_333 := n13_; have NB333_311 := n14_; have NB321_333 := n15_; have NB333_321 := n16_; have NB327_333 := n17_; have NB333_327 := n18_; clear n0_ n1_ n2_ n3_ n4_ n5_ n6_ n7_ n8_ n9_ n10_ n11_ n12_ n13_ n14_ n15_ n16_ n17_ n18_; clear hb hbox hg; have hnb52 := NB333_311.out; have hnc52 := NB311_333.out; have hnb53 := NB333_321.out; have hnc53 := NB321_333.out; have hnb54 := NB333_327.out; have hnc54 := NB327_333.out; have hcz55_0 : w51.cell? ⟨gb333, 0, none⟩ = some (.int .i64 0) := (blk_cell BK333.out 0).trans rfl; have hcz55_1 : w51.cell? ⟨gb333, 1, none⟩ = some (.slice none 0 0) := (blk_cell BK333.out 1).trans rfl; have hfz55_0 := blk_frozen BK333.out 0; have hfz55_1 := blk_frozen BK333.out 1; obtain ⟨Ao56, co56, eo56⟩ := Kd.S_slice HO331.out; subst eo56) | ((with_reducible refine gate_callee (f := 17) rfl ?_); refine goesL_ (some 111) rfl rfl Try.func17 (by kernel_rfl) rfl #[.agg #[.int .i64 t328, .slice Ao56 t329.length co56], .int .i64 (Int.tmod (wrap64 ((Int.tmod a2 (l0_1.length : Int)) + (l0_1.length : Int))) (l0_1.length : Int)), .int .i64 ji26] rfl (by (try simp only [List.map_toArray, List.map_cons, List.map_nil]); first | done | (simp only [hji26]; rfl) | rfl | (simp only [List.length_drop, List.length_take]; rfl)) ?_; (with_reducible refine (pool_Swap.calls kj5 t328 _ _ t329 (Int.tmod (wrap64 ((Int.tmod a2 (l0_1.length : Int)) + (l0_1.length : Int))) (l0_1.length : Int)) ji26 t334 t335 t338 _ ?side1 ?side2 A33.out).mono ?_); (case side1 => refine (Kd.S_reads' (e := 31) (base := w.heap.size) (ok := fun k_ => (((((w.heap.size ≤ k_)) ∧ True) ∧ some k_ ≠ (.slice Ao42 t317.length co42 : Value).ownBlock) ∧ some k_ ≠ (.slice Ao48 t323.length co48 : Value).ownBlock)) (n := t329.length) (c := co56) ?_).2.2; exact (by (with_reducible repeat (first | apply Kd.S_alloc | apply Kd.S_drewN | apply Kd.S_drew)); exact (Kd.S_mono (Kd.S_far (p := ⟨gb333, 1, none⟩) (Kd.S_far (p := ⟨gb333, 0, none⟩) (Kd.S_types HO331.out BK333.out (by decide)) (fun _ hk => hk.2) (.int .i64 t328)) (fun _ hk => hk.2) (.slice Ao56 t329.length co56)) (fun _ h_ => h_.1)))); (case side2 => exact (Kd.S_reads' HO331.out).2.1); rintro e w57 ⟨v336, rfl, ho0, hb⟩; refine ⟨_, rfl, ?_⟩; have n0_ := Aside0.mk (Kd.V_elder' (by (with_reducible repeat (first | apply Kd.V_alloc | apply Kd.V_drewN | apply Kd.V_drew)); exact (Kd.V_mono (Kd.V_far (p := ⟨gb333, 1, none⟩) (Kd.V_far (p := ⟨gb333, 0, none⟩) (Kd.V_mono HO_312001.out (fun k_ hk => (⟨hk, hk.2⟩ : _ ∧ k_ ≠ gb333))) (fun _ hk => hk.2) (.int .i64 t328)) (fun _ hk => hk.2) (.slice Ao56 t329.length co56)) (fun _ h_ => h_.1))) (Kd.S_base ho0) hb); have n1_ := Aside0.mk (Kd.V_elder' (by (with_reducible repeat (first | apply Kd.V_alloc | apply Kd.V_drewN | apply Kd.V_drew)); exact (Kd.V_mono (Kd.V_far (p := ⟨gb333, 1, none⟩) (Kd.V_far (p := ⟨gb333, 0, none⟩) (Kd.V_mono HL315_1.out (fun k_ hk => (⟨hk, hk.2⟩ : _ ∧ k_ ≠ gb333))) (fun _ hk => hk.2) (.int .i64 t328)) (fun _ hk => hk.2) (.slice Ao56 t329.length co56)) (fun _ h_ => h_.1))) (Kd.S_base ho0) hb); have n2_ := Aside0.mk (Kd.S_elder' (by (with_reducible repeat (first | apply Kd.S_alloc | apply Kd.S_drewN | apply Kd.S_drew)); exact (Kd.S_mono (Kd.S_far (p := ⟨gb333, 1, none⟩) (Kd.S_far (p := ⟨gb333, 0, none⟩) (Kd.S_types HO319.out BK333.out (by decide)) (fun _ hk => hk.2) (.int .i64 t328)) (fun _ hk => hk.2) (.slice Ao56 t329.length co56)) (fun _ h_ => h_.1))) (Kd.S_base ho0) hb); have n3_ := Aside0.mk (Kd.S_elder' (by (with_reducible repeat (first | apply Kd.S_alloc | apply Kd.S_drewN | apply Kd.S_drew)); exact (Kd.S_mono (Kd.S_far (p := ⟨gb333, 1, none⟩) (Kd.S_far (p := ⟨gb333, 0, none⟩) (Kd.S_types HO325.out BK333.out (by decide)) (fun _ hk => hk.2) (.int .i64 t328)) (fun _ hk => hk.2) (.slice Ao56 t329.length co56)) (fun _ h_ => h_.1))) (Kd.S_base ho0) hb); have n4_ := Aside0.mk (Kd.S_elder' (by (with_reducible repeat (first | apply Kd.S_alloc | apply Kd.S_drewN | apply Kd.S_drew)); exact (Kd.S_mono (Kd.S_far (p := ⟨gb333, 1, none⟩) (Kd.S_far (p := ⟨gb333, 0, none⟩) (Kd.S_types HO331.out BK333.out (by decide)) (fun _ hk => hk.2) (.int .i64 t328)) (fun _ hk => hk.2) (.slice Ao56 t329.length co56)) (fun _ h_ => h_.1))) (Kd.S_base ho0) hb); have n5_ := Aside0.mk (Kd.S_lower (Kd.S_new' (Kd.S_new' (Kd.S_new' (Kd.S_newM (M := fun k_ => (w.heap.size ≤ k_)) ho0 (below_size (by repeat (first | (with_reducible first | exact HB.out | apply below_alloc | apply pw_below_drewN | apply below_drew1 | refine below_set ?_ GE311.out | refine below_set ?_ GE321.out | refine below_set ?_ GE327.out | refine below_set ?_ GE333.out) | exact HB.out))) (fun k_ h_ => h_)) (Kd.S_lt (by (with_reducible repeat (first | apply Kd.S_alloc | apply Kd.S_drewN | apply Kd.S_drew)); exact (Kd.S_mono (Kd.S_far (p := ⟨gb333, 1, none⟩) (Kd.S_far (p := ⟨gb333, 0, none⟩) (Kd.S_types HO319.out BK333.out (by decide)) (fun _ hk => hk.2) (.int .i64 t328)) (fun _ hk => hk.2) (.slice Ao56 t329.length co56)) (fun _ h_ => h_.1))))) (Kd.S_lt (by (with_reducible repeat (first | apply Kd.S_alloc | apply Kd.S_drewN | apply Kd.S_drew)); exact (Kd.S_mono (Kd.S_far (p := ⟨gb333, 1, none⟩) (Kd.S_far (p := ⟨gb333, 0, none⟩) (Kd.S_types HO325.out BK333.out (by decide)) (fun _ hk => hk.2) (.int .i64 t328)) (fun _ hk => hk.2) (.slice Ao56 t329.length co56)) (fun _ h_ => h_.1))))) (Kd.S_lt (by (with_reducible repeat (first | apply Kd.S_alloc | apply Kd.S_drewN | apply Kd.S_drew)); exact (Kd.S_mono (Kd.S_far (p := ⟨gb333, 1, none⟩) (Kd.S_far (p := ⟨gb333, 0, none⟩) (Kd.S_types HO331.out BK333.out (by decide)) (fun _ hk => hk.2) (.int .i64 t328)) (fun _ hk => hk.2) (.slice Ao56 t329.length co56)) (fun _ h_ => h_.1))))) (below_size (by repeat (first | (with_reducible first | exact HB.out | apply below_alloc | apply pw_below_drewN | apply below_drew1 | refine below_set ?_ GE311.out | refine below_set ?_ GE321.out | refine below_set ?_ GE327.out | refine below_set ?_ GE333.out) | exact HB.out)))); have n6_ := Aside0.mk (blk_below (g := gb311) (o := .cells #[.int .i64 a0_0, .slice (some ad315) l0_1.length c0_1] 24 (0, 0)) (by (with_reducible repeat (first | refine blk_drewN ?_ _ | refine blk_drew ?_ | refine blk_alloc ?_ _)); refine blk_far ?_ NB311_333.out _; (with_reducible repeat (first | refine blk_drewN ?_ _ | refine blk_drew ?_ | refine blk_alloc ?_ _)); refine blk_far ?_ NB311_333.out _; (with_reducible repeat (first | refine blk_drewN ?_ _ | refine blk_drew ?_ | refine blk_alloc ?_ _)); exact BK311.out) hb); have n7_ := Aside0.mk (Kd.C_below ((Kd.V_reads' (by (with_reducible repeat (first | apply Kd.V_alloc | apply Kd.V_drewN | apply Kd.V_drew)); exact (Kd.V_mono (Kd.V_far (p := ⟨gb333, 1, none⟩) (Kd.V_far (p := ⟨gb333, 0, none⟩) (Kd.V_mono HL315_1.out (fun k_ hk => (⟨hk, hk.2⟩ : _ ∧ k_ ≠ gb333))) (fun _ hk => hk.2) (.int .i64 t328)) (fun _ hk => hk.2) (.slice Ao56 t329.length co56)) (fun _ h_ => h_.1)))).2.2) hb); have n8_ := Aside0.mk (blk_below (g := gb321) (o := .cells #[.int .i64 t316, .slice Ao42 t317.length co42] 24 (0, 0)) (by (with_reducible repeat (first | refine blk_drewN ?_ _ | refine blk_drew ?_ | refine blk_alloc ?_ _)); refine blk_far ?_ NB321_333.out _; (with_reducible repeat (first | refine blk_drewN ?_ _ | refine blk_drew ?_ | refine blk_alloc ?_ _)); refine blk_far ?_ NB321_333.out _; (with_reducible repeat (first | refine blk_drewN ?_ _ | refine blk_drew ?_ | refine blk_alloc ?_ _)); exact BK321.out) hb); have n9_ := Aside0.mk (blk_below (g := gb327) (o := .cells #[.int .i64 t322, .slice Ao48 t323.length co48] 24 (0, 0)) (by (with_reducible repeat (first | refine blk_drewN ?_ _ | refine blk_drew ?_ | refine blk_alloc ?_ _)); refine blk_far ?_ NB327_333.out _; (with_reducible repeat (first | refine blk_drewN ?_ _ | refine blk_drew ?_ | refine blk_alloc ?_ _)); refine blk_far ?_ NB327_333.out _; (with_reducible repeat (first | refine blk_drewN ?_ _ | refine blk_drew ?_ | refine blk_alloc ?_ _)); exact BK327.out) hb); have n10_ := Aside0.mk (blk_below (g := gb333) (o := .cells #[.int .i64 t328, .slice Ao56 t329.length co56] 24 (0, 0)) (by (with_reducible repeat (first | refine blk_drewN ?_ _ | refine blk_drew ?_ | refine blk_alloc ?_ _)); refine blk_put (cs := #[.int .i64 t328, .slice none 0 0]) ?_ 1 _ rfl; (with_reducible repeat (first | refine blk_drewN ?_ _ | refine blk_drew ?_ | refine blk_alloc ?_ _)); refine blk_put (cs := #[.int .i64 0, .slice none 0 0]) ?_ 0 _ rfl; (with_reducible repeat (first | refine blk_drewN ?_ _ | refine blk_drew ?_ | refine blk_alloc ?_ _)); exact BK333.out) hb); have n11_ := Aside0.mk (below_step (by repeat (first | (with_reducible first | exact HB.out | apply below_alloc | apply pw_below_drewN | apply below_drew1 | refine below_set ?_ GE311.out | refine below_set ?_ GE321.out | refine below_set ?_ GE327.out | refine below_set ?_ GE333.out) | exact HB.out)) hb); clear HO_312001; clear HL315_1; clear HO319; clear HO325; clear HO331; clear BK311; clear HR315_1; clear BK321; clear BK327; clear BK333; clear HB; have HO_312001 := n0_; have HL315_1 := n1_; have HO319 := n2_; have HO325 := n3_; have HO331 := n4_; have HO337 := n5_; have BK311 := n6_; have HR315_1 := n7_; have BK321 := n8_; have BK327 := n9_; have BK333 := n10_; have HB := n11_; clear n0_ n1_ n2_ n3_ n4_ n5_ n6_ n7_ n8_ n9_ n10_ n11_; (try clear hb); (try clear hb2); (try clear hk); (try clear hi); (try clear ho0)) | ((with_reducible refine gate_dst (N := 17) rfl ?_); (try (refine gate_guard (by rfl) ?_; dsimp only)); refine box_event ?hg (N := 17) ?hd (cs := #[.int .i64 0, .slice none 0 0]) (t := 24) ?hr ?_; (case hd => rfl); (case hg => rfl); (case hr => first | (go_simp; done) | (go_simp; rfl)); intro gb339 hg w58 hbox hb; have n0_ := Aside0.mk (Kd.V_below (Kd.V_elderB (by (with_reducible repeat (first | apply Kd.V_alloc | apply Kd.V_drewN | apply Kd.V_drew)); exact HO_312001.out) gb339 (Nat.le_of_eq hg.symm)) hb); have n1_ := Aside0.mk (Kd.V_below (Kd.V_elderB (by (with_reducible repeat (first | apply Kd.V_alloc | apply Kd.V_drewN | apply Kd.V_drew)); exact HL315_1.out) gb339 (Nat.le_of_eq hg.symm)) hb); have n2_ := Aside0.mk (Kd.S_below (by (with_reducible repeat (first | apply Kd.S_alloc | apply Kd.S_drewN | apply Kd.S_drew)); exact HO319.out) hb); have n3_ := Aside0.mk (Kd.S_below (by (with_reducible repeat (first | apply Kd.S_alloc | apply Kd.S_drewN | apply Kd.S_drew)); exact HO325.out) hb); have n4_ := Aside0.mk (Kd.S_below (by (with_reducible repeat (first | apply Kd.S_alloc | apply Kd.S_drewN | apply Kd.S_drew)); exact HO331.out) hb); have n5_ := Aside0.mk (Kd.S_below (by (with_reducible repeat (first | apply Kd.S_alloc | apply Kd.S_drewN | apply Kd.S_drew)); exact HO337.out) hb); have n6_ := Aside0.mk (blk_below (g := gb311) (o := .cells #[.int .i64 a0_0, .slice (some ad315) l0_1.length c0_1] 24 (0, 0)) (by (with_reducible repeat (first | refine blk_drewN ?_ _ | refine blk_drew ?_ | refine blk_alloc ?_ _)); exact BK311.out) hb); have n7_ := Aside0.mk (Kd.C_below (by repeat (first | (with_reducible exact HR315_1.out) | (with_reducible refine Kd.C_alloc ?_ _) | (with_reducible refine Kd.C_drewN ?_ _) | (with_reducible refine Kd.C_drew ?_) | exact HR315_1.out)) hb); have n8_ := Aside0.mk (blk_below (g := gb321) (o := .cells #[.int .i64 t316, .slice Ao42 t317.length co42] 24 (0, 0)) (by (with_reducible repeat (first | refine blk_drewN ?_ _ | refine blk_drew ?_ | refine blk_alloc ?_ _)); exact BK321.out) hb); have n9_ := Aside0.mk (blk_below (g := gb327) (o := .cells #[.int .i64 t322, .slice Ao48 t323.length co48] 24 (0, 0)) (by (with_reducible repeat (first | refine blk_drewN ?_ _ | refine blk_drew ?_ | refine blk_alloc ?_ _)); exact BK327.out) hb); have n10_ := Aside0.mk (blk_below (g := gb333) (o := .cells #[.int .i64 t328, .slice Ao56 t329.length co56] 24 (0, 0)) (by (with_reducible repeat (first | refine blk_drewN ?_ _ | refine blk_drew ?_ | refine blk_alloc ?_ _)); exact BK333.out) hb); have n11_ := Aside0.mk (below_step (by repeat (first | (with_reducible first | exact HB.out | apply below_alloc | apply pw_below_drewN | apply below_drew1 | refine below_set ?_ GE311.out | refine below_set ?_ GE321.out | refine below_set ?_ GE327.out | refine below_set ?_ GE333.out) | exact HB.out)) hb); have n12_ := Aside0.mk (hbox); have n13_ := Aside0.mk ((by rw [hg]; exact (below_size (by repeat (first | (with_reducible first | exact HB.out | apply below_alloc | apply pw_below_drewN | apply below_drew1 | refine below_set ?_ GE311.out | refine below_set ?_ GE321.out | refine below_set ?_ GE327.out | refine below_set ?_ GE333.out) | exact HB.out))) : w.heap.size ≤ gb339)); have n14_ := Aside0.mk ((by rw [hg]; exact (below_size (by repeat (first | (with_reducible first | exact HB.out | apply below_alloc | apply pw_below_drewN | apply below_drew1 | refine below_set ?_ GE311.out | refine below_set ?_ GE321.out | refine below_set ?_ GE327.out | refine below_set ?_ GE333.out) | exact HB.out))) : w.heap.size ≤ gb339)); have n15_ := Aside0.mk ((by rw [hg]; exact Nat.ne_of_lt (blk_lt (g := gb311) (o := .cells #[.int .i64 a0_0, .slice (some ad315) l0_1.length c0_1] 24 (0, 0)) (by (with_reducible repeat (first | refine blk_drewN ?_ _ | refine blk_drew ?_ | refine blk_alloc ?_ _)); exact BK311.out)) : gb311 ≠ gb339)); have n16_ := Aside0.mk ((by rw [hg]; exact Nat.ne_of_gt (blk_lt (g := gb311) (o := .cells #[.int .i64 a0_0, .slice (some ad315) l0_1.length c0_1] 24 (0, 0)) (by (with_reducible repeat (first | refine blk_drewN ?_ _ | refine blk_drew ?_ | refine blk_alloc ?_ _)); exact BK311.out)) : gb339 ≠ gb311)); have n17_ := Aside0.mk ((by rw [hg]; exact Nat.ne_of_lt (blk_lt (g := gb321) (o := .cells #[.int .i64 t316, .slice Ao42 t317.length co42] 24 (0, 0)) (by (with_reducible repeat (first | refine blk_drewN ?_ _ | refine blk_drew ?_ | refine blk_alloc ?_ _)); exact BK321.out)) : gb321 ≠ gb339)); have n18_ := Aside0.mk ((by rw [hg]; exact Nat.ne_of_gt (blk_lt (g := gb321) (o := .cells #[.int .i64 t316, .slice Ao42 t317.length co42] 24 (0, 0)) (by (with_reducible repeat (first | refine blk_drewN ?_ _ | refine blk_drew ?_ | refine blk_alloc ?_ _)); exact BK321.out)) : gb339 ≠ gb321)); have n19_ := Aside0.mk ((by rw [hg]; exact Nat.ne_of_lt (blk_lt (g := gb327) (o := .cells #[.int .i64 t322, .slice Ao48 t323.length co48] 24 (0, 0)) (by (with_reducible repeat (first | refine blk_drewN ?_ _ | refine blk_drew ?_ | refine blk_alloc ?_ _)); exact BK327.out)) : gb327 ≠ gb339)); have n20_ := Aside0.mk ((by rw [hg]; exact Nat.ne_of_gt (blk_lt (g := gb327) (o := .cells #[.int .i64 t322, .slice Ao48 t323.length co48] 24 (0, 0)) (by (with_reducible repeat (first | refine blk_drewN ?_ _ | refine blk_drew ?_ | refine blk_alloc ?_ _)); exact BK327.out)) : gb339 ≠ gb327)); have n21_ := Aside0.mk ((by rw [hg]; exact Nat.ne_of_lt (blk_lt (g := gb333) (o := .cells #[.int .i64 t328, .slice Ao56 t329.length co56] 24 (0, 0)) (by (with_reducible repeat (first | refine blk_drewN ?_ _ | refine blk_drew ?_ | refine blk_alloc ?_ _)); exact BK333.out)) : gb333 ≠ gb339)); have n22_ := Aside0.mk ((by rw [hg]; exact Nat.ne_of_gt (blk_lt (g := gb333) (o := .cells #[.int .i64 t328, .slice Ao56 t329.length co56] 24 (0, 0)) (by (with_reducible repeat (first | refine blk_drewN ?_ _ | refine blk_drew ?_ | refine blk_alloc ?_ _)); exact BK333.out)) : gb339 ≠ gb333)); clear HO_312001; clear HL315_1; clear HO319; clear HO325; clear HO331; clear HO337; clear BK311; clear HR315_1; clear BK321; clear BK327; clear BK333; clear HB; have HO_312001 := n0_; have HL315_1 := n1_; have HO319 := n2_; have HO325 := n3_; have HO331 := n4_; have HO337 := n5_; have BK311 := n6_; have HR315_1 := n7_; have BK321 := n8_; have BK327 := n9_; have BK333 := n10_; have HB := n11_; have BK339 := n12_; have GW339 := n13_; have GE339 := n14_; have NB311_339 := n15_; have NB339_311 := n16_; have NB321_339 := n17_; have NB339_321 := n18_; have NB327_339 := n19_; have NB339_327 := n20_; have NB333_339 := n21_; have NB339_333 := n22_; clear n0_ n1_ n2_ n3_ n4_ n5_ n6_ n7_ n8_ n9_ n10_ n11_ n12_ n13_ n14_ n15_ n16_ n17_ n18_ n19_ n20_ n21_ n22_; clear hb hbox hg; have hnb59 := NB339_311.out; have hnc59 := NB311_339.out; have hnb60 := NB339_321.out; have hnc60 := NB321_339.out; have hnb61 := NB339_327.out; have hnc61 := NB327_339.out; have hnb62 := NB339_333.out; have hnc62 := NB333_339.out; have hcz63_0 : w58.cell? ⟨gb339, 0, none⟩ = some (.int .i64 0) := (blk_cell BK339.out 0).trans rfl; have hcz63_1 : w58.cell? ⟨gb339, 1, none⟩ = some (.slice none 0 0) := (blk_cell BK339.out 1).trans rfl; have hfz63_0 := blk_frozen BK339.out 0; have hfz63_1 := blk_frozen BK339.out 1; obtain ⟨Ao64, co64, eo64⟩ := Kd.S_slice HO337.out; subst eo64))
        (try simp only [Act.put, List.setIfInBounds_toArray, List.set_cons_zero, List.set_cons_succ])
        go_cut [144] (fun v144 wc => ∃ (kq : Nat) (x144_33 : Bool), v144 = .bool x144_33 ∧ Aside0 (squelchlaw21_PoolBack.j1 kq ji26 t312 x144_33 a0_0 l0_1 = some r) ∧ Aside0 (kq ≤ kj5) ∧ Aside0 (Kd.V k31 31 wc w.heap.size (fun k_ => (P0_1_ k_ ∨ w.heap.size ≤ k_) ∧ k_ ≠ gb311) (.slice (some ad315) l0_1.length c0_1) l0_1) ∧ Aside0 (wc.heap[gb311]? = some (.cells #[.int .i64 a0_0, (.slice (some ad315) l0_1.length c0_1)] 24 (0, 0))) ∧ Aside0 (Kd.C (Kd.int .u8) wc A315_1 ((rd_T31 l0_1 (ji26)).f1).length ((rd_T31 l0_1 (ji26)).f1)) ∧ Aside0 (Below w.heap.size w wc))
        case first =>
         have H := HC34.out
         clear HC34
         by_cases c65 : t320 = 0
         ·rw [if_pos c65] at H
          have c65b0 : (t320 == 0) = true := beq_iff_eq.mpr c65
          have c65b1 : (t320 != 0) = false := bne_eq_false_iff_eq.mpr c65
          clear c65
          (first | rw [c65b0] | (simp only [i64_w, i32_w]; rw [c65b0]) | skip)
          by_cases c66 : t326 = 0
          ·rw [if_pos c66] at H
           have c66b0 : (t326 == 0) = true := beq_iff_eq.mpr c66
           have c66b1 : (t326 != 0) = false := bne_eq_false_iff_eq.mpr c66
           clear c66
           by_cases c67 : t332 = 0
           ·rw [if_pos c67] at H
            have c67b0 : (t332 == 0) = true := beq_iff_eq.mpr c67
            have c67b1 : (t332 != 0) = false := bne_eq_false_iff_eq.mpr c67
            clear c67
            by_cases c68 : t338 = 0
            ·rw [if_pos c68] at H
             have c68b0 : (t338 == 0) = true := beq_iff_eq.mpr c68
             have c68b1 : (t338 != 0) = false := bne_eq_false_iff_eq.mpr c68
             clear c68
             replace H := Option.bind_eq_some_iff.mp H
             obtain ⟨t340, A690, H⟩ := H
             replace H : (if t340 = true then (squelchlaw21_PoolBack.j1 kj5 ji26 t312 true a0_0 l0_1) else ((pool_Same.f kj5 t322 t323 a0_0 l0_1).bind fun t341 => (if t341 = true then ((pool_Same.f kj5 t334 t335 a0_0 l0_1).bind fun t342 => (squelchlaw21_PoolBack.j1 kj5 ji26 t312 (!t342) a0_0 l0_1)) else (squelchlaw21_PoolBack.j1 kj5 ji26 t312 true a0_0 l0_1)))) = some r := H
             have A69 := Aside0.mk A690
             clear A690
             by_cases c70 : t340 = true
             ·subst c70
              have H1 : (squelchlaw21_PoolBack.j1 kj5 ji26 t312 true a0_0 l0_1) = some r := by rw [if_pos rfl] at H; exact H
              clear H
              have H := H1
              clear H1
              exfalso
              revert H
              cases kj5 with
              | zero => simp [squelchlaw21_PoolBack.j1]
              | succ k_ => simp only [squelchlaw21_PoolBack.j1, eq_self, if_true]; intro h_; exact absurd HR_.out (by rw [← Option.some.inj h_]; decide)
             ·replace c70 := Bool.eq_false_iff.mpr c70
              subst c70
              have H1 : ((pool_Same.f kj5 t322 t323 a0_0 l0_1).bind fun t341 => (if t341 = true then ((pool_Same.f kj5 t334 t335 a0_0 l0_1).bind fun t342 => (squelchlaw21_PoolBack.j1 kj5 ji26 t312 (!t342) a0_0 l0_1)) else (squelchlaw21_PoolBack.j1 kj5 ji26 t312 true a0_0 l0_1))) = some r := by rw [if_neg (show ¬ (false = true) by decide)] at H; exact H
              clear H
              have H := H1
              clear H1
              replace H := Option.bind_eq_some_iff.mp H
              obtain ⟨t341, A710, H⟩ := H
              replace H : (if t341 = true then ((pool_Same.f kj5 t334 t335 a0_0 l0_1).bind fun t342 => (squelchlaw21_PoolBack.j1 kj5 ji26 t312 (!t342) a0_0 l0_1)) else (squelchlaw21_PoolBack.j1 kj5 ji26 t312 true a0_0 l0_1)) = some r := H
              have A71 := Aside0.mk A710
              clear A710
              by_cases c72 : t341 = true
              ·subst c72
               have H1 : ((pool_Same.f kj5 t334 t335 a0_0 l0_1).bind fun t342 => (squelchlaw21_PoolBack.j1 kj5 ji26 t312 (!t342) a0_0 l0_1)) = some r := by rw [if_pos rfl] at H; exact H
               clear H
               have H := H1
               clear H1
               replace H := Option.bind_eq_some_iff.mp H
               obtain ⟨t342, A730, H⟩ := H
               replace H : (squelchlaw21_PoolBack.j1 kj5 ji26 t312 (!t342) a0_0 l0_1) = some r := H
               have A73 := Aside0.mk A730
               clear A730
               have H' := Aside0.mk H
               clear H
               have hnb74 := NB321_311.out
               have hnc74 := NB311_321.out
               have hnb75 := NB321_327.out
               have hnc75 := NB327_321.out
               have hnb76 := NB321_333.out
               have hnc76 := NB333_321.out
               have hnb77 := NB321_339.out
               have hnc77 := NB339_321.out
               have hcz78_0 : w58.cell? ⟨gb321, 0, none⟩ = some (.int .i64 t316) := (blk_cell BK321.out 0).trans rfl
               have hcz78_1 : w58.cell? ⟨gb321, 1, none⟩ = some (.slice Ao42 t317.length co42) := (blk_cell BK321.out 1).trans rfl
               have hfz78_0 := blk_frozen BK321.out 0
               have hfz78_1 := blk_frozen BK321.out 1
               have hnb79 := NB311_327.out
               have hnc79 := NB327_311.out
               have hnb80 := NB311_333.out
               have hnc80 := NB333_311.out
               have hnb81 := NB311_339.out
               have hnc81 := NB339_311.out
               have hcz82_0 : w58.cell? ⟨gb311, 0, none⟩ = some (.int .i64 a0_0) := (blk_cell BK311.out 0).trans rfl
               have hcz82_1 : w58.cell? ⟨gb311, 1, none⟩ = some (.slice (some ad315) l0_1.length c0_1) := (blk_cell BK311.out 1).trans rfl
               have hfz82_0 := blk_frozen BK311.out 0
               have hfz82_1 := blk_frozen BK311.out 1
               go_wp2_with (first | (go_at_call 18; (with_reducible refine (pool_Same.calls kj5 t316 _ _ t317 a0_0 _ _ l0_1 false _ ?side1 ?side2 ?side3 ?side4 A69.out).mono ?_); (case side1 => refine (Kd.S_reads' (e := 31) (base := w.heap.size) (ok := fun k_ => ((((((w.heap.size ≤ k_)) ∧ True) ∧ some k_ ≠ (.slice Ao48 t323.length co48 : Value).ownBlock) ∧ some k_ ≠ (.slice Ao56 t329.length co56 : Value).ownBlock) ∧ some k_ ≠ (.slice Ao64 t335.length co64 : Value).ownBlock)) (n := t317.length) (c := co42) ?_).2.2; exact (by (with_reducible repeat (first | apply Kd.S_alloc | apply Kd.S_drewN | apply Kd.S_drew)); exact (Kd.S_mono (Kd.S_far (p := ⟨gb339, 1, none⟩) (Kd.S_far (p := ⟨gb339, 0, none⟩) (Kd.S_types HO319.out BK339.out (by decide)) (fun _ hk => hk.2) (.int .i64 t334)) (fun _ hk => hk.2) (.slice Ao64 t335.length co64)) (fun _ h_ => h_.1)))); (case side2 => exact (Kd.S_reads' HO319.out).2.1); (case side3 => refine (Kd.V_reads' (e := 31) (base := w.heap.size) (ok := fun k_ => (((((((((((P0_1_ k_ ∨ w.heap.size ≤ k_)) ∧ k_ ≠ gb311) ∧ some k_ ≠ (.slice Ao42 t317.length co42 : Value).ownBlock) ∧ k_ ≠ gb321) ∧ some k_ ≠ (.slice Ao48 t323.length co48 : Value).ownBlock) ∧ k_ ≠ gb327) ∧ some k_ ≠ (.slice Ao56 t329.length co56 : Value).ownBlock) ∧ k_ ≠ gb333) ∧ some k_ ≠ (.slice Ao64 t335.length co64 : Value).ownBlock) ∧ k_ ≠ gb339)) (n := l0_1.length) (c := c0_1) ?_).2.2; exact (by (with_reducible repeat (first | apply Kd.V_alloc | apply Kd.V_drewN | apply Kd.V_drew)); exact (Kd.V_mono (Kd.V_far (p := ⟨gb339, 1, none⟩) (Kd.V_far (p := ⟨gb339, 0, none⟩) (Kd.V_mono HO_312001.out (fun k_ hk => (⟨hk, hk.2⟩ : _ ∧ k_ ≠ gb339))) (fun _ hk => hk.2) (.int .i64 t334)) (fun _ hk => hk.2) (.slice Ao64 t335.length co64)) (fun _ h_ => h_.1)))); (case side4 => exact (Kd.V_reads' HO_312001.out).2.1); rintro e w83 ⟨rfl, hb⟩; have n0_ := Aside0.mk (Kd.V_below (by (with_reducible repeat (first | apply Kd.V_alloc | apply Kd.V_drewN | apply Kd.V_drew)); exact (Kd.V_mono (Kd.V_far (p := ⟨gb339, 1, none⟩) (Kd.V_far (p := ⟨gb339, 0, none⟩) (Kd.V_mono HO_312001.out (fun k_ hk => (⟨hk, hk.2⟩ : _ ∧ k_ ≠ gb339))) (fun _ hk => hk.2) (.int .i64 t334)) (fun _ hk => hk.2) (.slice Ao64 t335.length co64)) (fun _ h_ => h_.1))) hb); have n1_ := Aside0.mk (Kd.V_below (by (with_reducible repeat (first | apply Kd.V_alloc | apply Kd.V_drewN | apply Kd.V_drew)); exact (Kd.V_mono (Kd.V_far (p := ⟨gb339, 1, none⟩) (Kd.V_far (p := ⟨gb339, 0, none⟩) (Kd.V_mono HL315_1.out (fun k_ hk => (⟨hk, hk.2⟩ : _ ∧ k_ ≠ gb339))) (fun _ hk => hk.2) (.int .i64 t334)) (fun _ hk => hk.2) (.slice Ao64 t335.length co64)) (fun _ h_ => h_.1))) hb); have n2_ := Aside0.mk (Kd.S_below (by (with_reducible repeat (first | apply Kd.S_alloc | apply Kd.S_drewN | apply Kd.S_drew)); exact (Kd.S_mono (Kd.S_far (p := ⟨gb339, 1, none⟩) (Kd.S_far (p := ⟨gb339, 0, none⟩) (Kd.S_types HO319.out BK339.out (by decide)) (fun _ hk => hk.2) (.int .i64 t334)) (fun _ hk => hk.2) (.slice Ao64 t335.length co64)) (fun _ h_ => h_.1))) hb); have n3_ := Aside0.mk (Kd.S_below (by (with_reducible repeat (first | apply Kd.S_alloc | apply Kd.S_drewN | apply Kd.S_drew)); exact (Kd.S_mono (Kd.S_far (p := ⟨gb339, 1, none⟩) (Kd.S_far (p := ⟨gb339, 0, none⟩) (Kd.S_types HO325.out BK339.out (by decide)) (fun _ hk => hk.2) (.int .i64 t334)) (fun _ hk => hk.2) (.slice Ao64 t335.length co64)) (fun _ h_ => h_.1))) hb); have n4_ := Aside0.mk (Kd.S_below (by (with_reducible repeat (first | apply Kd.S_alloc | apply Kd.S_drewN | apply Kd.S_drew)); exact (Kd.S_mono (Kd.S_far (p := ⟨gb339, 1, none⟩) (Kd.S_far (p := ⟨gb339, 0, none⟩) (Kd.S_types HO331.out BK339.out (by decide)) (fun _ hk => hk.2) (.int .i64 t334)) (fun _ hk => hk.2) (.slice Ao64 t335.length co64)) (fun _ h_ => h_.1))) hb); have n5_ := Aside0.mk (Kd.S_below (by (with_reducible repeat (first | apply Kd.S_alloc | apply Kd.S_drewN | apply Kd.S_drew)); exact (Kd.S_mono (Kd.S_far (p := ⟨gb339, 1, none⟩) (Kd.S_far (p := ⟨gb339, 0, none⟩) (Kd.S_types HO337.out BK339.out (by decide)) (fun _ hk => hk.2) (.int .i64 t334)) (fun _ hk => hk.2) (.slice Ao64 t335.length co64)) (fun _ h_ => h_.1))) hb); have n6_ := Aside0.mk (blk_below (g := gb311) (o := .cells #[.int .i64 a0_0, .slice (some ad315) l0_1.length c0_1] 24 (0, 0)) (by (with_reducible repeat (first | refine blk_drewN ?_ _ | refine blk_drew ?_ | refine blk_alloc ?_ _)); refine blk_far ?_ NB311_339.out _; (with_reducible repeat (first | refine blk_drewN ?_ _ | refine blk_drew ?_ | refine blk_alloc ?_ _)); refine blk_far ?_ NB311_339.out _; (with_reducible repeat (first | refine blk_drewN ?_ _ | refine blk_drew ?_ | refine blk_alloc ?_ _)); exact BK311.out) hb); have n7_ := Aside0.mk (Kd.C_below ((Kd.V_reads' (by (with_reducible repeat (first | apply Kd.V_alloc | apply Kd.V_drewN | apply Kd.V_drew)); exact (Kd.V_mono (Kd.V_far (p := ⟨gb339, 1, none⟩) (Kd.V_far (p := ⟨gb339, 0, none⟩) (Kd.V_mono HL315_1.out (fun k_ hk => (⟨hk, hk.2⟩ : _ ∧ k_ ≠ gb339))) (fun _ hk => hk.2) (.int .i64 t334)) (fun _ hk => hk.2) (.slice Ao64 t335.length co64)) (fun _ h_ => h_.1)))).2.2) hb); have n8_ := Aside0.mk (blk_below (g := gb321) (o := .cells #[.int .i64 t316, .slice Ao42 t317.length co42] 24 (0, 0)) (by (with_reducible repeat (first | refine blk_drewN ?_ _ | refine blk_drew ?_ | refine blk_alloc ?_ _)); refine blk_far ?_ NB321_339.out _; (with_reducible repeat (first | refine blk_drewN ?_ _ | refine blk_drew ?_ | refine blk_alloc ?_ _)); refine blk_far ?_ NB321_339.out _; (with_reducible repeat (first | refine blk_drewN ?_ _ | refine blk_drew ?_ | refine blk_alloc ?_ _)); exact BK321.out) hb); have n9_ := Aside0.mk (blk_below (g := gb327) (o := .cells #[.int .i64 t322, .slice Ao48 t323.length co48] 24 (0, 0)) (by (with_reducible repeat (first | refine blk_drewN ?_ _ | refine blk_drew ?_ | refine blk_alloc ?_ _)); refine blk_far ?_ NB327_339.out _; (with_reducible repeat (first | refine blk_drewN ?_ _ | refine blk_drew ?_ | refine blk_alloc ?_ _)); refine blk_far ?_ NB327_339.out _; (with_reducible repeat (first | refine blk_drewN ?_ _ | refine blk_drew ?_ | refine blk_alloc ?_ _)); exact BK327.out) hb); have n10_ := Aside0.mk (blk_below (g := gb333) (o := .cells #[.int .i64 t328, .slice Ao56 t329.length co56] 24 (0, 0)) (by (with_reducible repeat (first | refine blk_drewN ?_ _ | refine blk_drew ?_ | refine blk_alloc ?_ _)); refine blk_far ?_ NB333_339.out _; (with_reducible repeat (first | refine blk_drewN ?_ _ | refine blk_drew ?_ | refine blk_alloc ?_ _)); refine blk_far ?_ NB333_339.out _; (with_reducible repeat (first | refine blk_drewN ?_ _ | refine blk_drew ?_ | refine blk_alloc ?_ _)); exact BK333.out) hb); have n11_ := Aside0.mk (blk_below (g := gb339) (o := .cells #[.int .i64 t334, .slice Ao64 t335.length co64] 24 (0, 0)) (by (with_reducible repeat (first | refine blk_drewN ?_ _ | refine blk_drew ?_ | refine blk_alloc ?_ _)); refine blk_put (cs := #[.int .i64 t334, .slice none 0 0]) ?_ 1 _ rfl; (with_reducible repeat (first | refine blk_drewN ?_ _ | refine blk_drew ?_ | refine blk_alloc ?_ _)); refine blk_put (cs := #[.int .i64 0, .slice none 0 0]) ?_ 0 _ rfl; (with_reducible repeat (first | refine blk_drewN ?_ _ | refine blk_drew ?_ | refine blk_alloc ?_ _)); exact BK339.out) hb); have n12_ := Aside0.mk (below_step (by repeat (first | (with_reducible first | exact HB.out | apply below_alloc | apply pw_below_drewN | apply below_drew1 | refine below_set ?_ GE311.out | refine below_set ?_ GE321.out | refine below_set ?_ GE327.out | refine below_set ?_ GE333.out | refine below_set ?_ GE339.out) | exact HB.out)) hb); clear HO_312001; clear HL315_1; clear HO319; clear HO325; clear HO331; clear HO337; clear BK311; clear HR315_1; clear BK321; clear BK327; clear BK333; clear BK339; clear HB; have HO_312001 := n0_; have HL315_1 := n1_; have HO319 := n2_; have HO325 := n3_; have HO331 := n4_; have HO337 := n5_; have BK311 := n6_; have HR315_1 := n7_; have BK321 := n8_; have BK327 := n9_; have BK333 := n10_; have BK339 := n11_; have HB := n12_; clear n0_ n1_ n2_ n3_ n4_ n5_ n6_ n7_ n8_ n9_ n10_ n11_ n12_; (try clear hb); (try clear hb2); (try clear hk); (try clear hi); have hnb84 := NB327_333.out; have hnc84 := NB333_327.out; have hnb85 := NB327_339.out; have hnc85 := NB339_327.out; have hcz86_0 : w83.cell? ⟨gb327, 0, none⟩ = some (.int .i64 t322) := (blk_cell BK327.out 0).trans rfl; have hcz86_1 : w83.cell? ⟨gb327, 1, none⟩ = some (.slice Ao48 t323.length co48) := (blk_cell BK327.out 1).trans rfl; have hfz86_0 := blk_frozen BK327.out 0; have hfz86_1 := blk_frozen BK327.out 1; have hcz87_0 : w83.cell? ⟨gb311, 0, none⟩ = some (.int .i64 a0_0) := (blk_cell BK311.out 0).trans rfl; have hcz87_1 : w83.cell? ⟨gb311, 1, none⟩ = some (.slice (some ad315) l0_1.length c0_1) := (blk_cell BK311.out 1).trans rfl; have hfz87_0 := blk_frozen BK311.out 0; have hfz87_1 := blk_frozen BK311.out 1) | (go_at_call 18; (with_reducible refine (pool_Same.calls kj5 t322 _ _ t323 a0_0 _ _ l0_1 true _ ?side1 ?side2 ?side3 ?side4 A71.out).mono ?_); (case side1 => repeat (first | exact (Kd.S_reads' HO325.out).2.2 | (with_reducible refine Kd.C_alloc ?_ _) | (with_reducible refine Kd.C_drewN ?_ _) | (with_reducible refine Kd.C_drew ?_))); (case side2 => exact (Kd.S_reads' HO325.out).2.1); (case side3 => repeat (first | exact (Kd.V_reads' HO_312001.out).2.2 | (with_reducible refine Kd.C_alloc ?_ _) | (with_reducible refine Kd.C_drewN ?_ _) | (with_reducible refine Kd.C_drew ?_))); (case side4 => exact (Kd.V_reads' HO_312001.out).2.1); rintro e w88 ⟨rfl, hb⟩; have n0_ := Aside0.mk (Kd.V_below (by (with_reducible repeat (first | apply Kd.V_alloc | apply Kd.V_drewN | apply Kd.V_drew)); exact HO_312001.out) hb); have n1_ := Aside0.mk (Kd.V_below (by (with_reducible repeat (first | apply Kd.V_alloc | apply Kd.V_drewN | apply Kd.V_drew)); exact HL315_1.out) hb); have n2_ := Aside0.mk (Kd.S_below (by (with_reducible repeat (first | apply Kd.S_alloc | apply Kd.S_drewN | apply Kd.S_drew)); exact HO319.out) hb); have n3_ := Aside0.mk (Kd.S_below (by (with_reducible repeat (first | apply Kd.S_alloc | apply Kd.S_drewN | apply Kd.S_drew)); exact HO325.out) hb); have n4_ := Aside0.mk (Kd.S_below (by (with_reducible repeat (first | apply Kd.S_alloc | apply Kd.S_drewN | apply Kd.S_drew)); exact HO331.out) hb); have n5_ := Aside0.mk (Kd.S_below (by (with_reducible repeat (first | apply Kd.S_alloc | apply Kd.S_drewN | apply Kd.S_drew)); exact HO337.out) hb); have n6_ := Aside0.mk (blk_below (g := gb311) (o := .cells #[.int .i64 a0_0, .slice (some ad315) l0_1.length c0_1] 24 (0, 0)) (by (with_reducible repeat (first | refine blk_drewN ?_ _ | refine blk_drew ?_ | refine blk_alloc ?_ _)); exact BK311.out) hb); have n7_ := Aside0.mk (Kd.C_below (by repeat (first | (with_reducible exact HR315_1.out) | (with_reducible refine Kd.C_alloc ?_ _) | (with_reducible refine Kd.C_drewN ?_ _) | (with_reducible refine Kd.C_drew ?_) | exact HR315_1.out)) hb); have n8_ := Aside0.mk (blk_below (g := gb321) (o := .cells #[.int .i64 t316, .slice Ao42 t317.length co42] 24 (0, 0)) (by (with_reducible repeat (first | refine blk_drewN ?_ _ | refine blk_drew ?_ | refine blk_alloc ?_ _)); exact BK321.out) hb); have n9_ := Aside0.mk (blk_below (g := gb327) (o := .cells #[.int .i64 t322, .slice Ao48 t323.length co48] 24 (0, 0)) (by (with_reducible repeat (first | refine blk_drewN ?_ _ | refine blk_drew ?_ | refine blk_alloc ?_ _)); exact BK327.out) hb); have n10_ := Aside0.mk (blk_below (g := gb333) (o := .cells #[.int .i64 t328, .slice Ao56 t329.length co56] 24 (0, 0)) (by (with_reducible repeat (first | refine blk_drewN ?_ _ | refine blk_drew ?_ | refine blk_alloc ?_ _)); exact BK333.out) hb); have n11_ := Aside0.mk (blk_below (g := gb339) (o := .cells #[.int .i64 t334, .slice Ao64 t335.length co64] 24 (0, 0)) (by (with_reducible repeat (first | refine blk_drewN ?_ _ | refine blk_drew ?_ | refine blk_alloc ?_ _)); exact BK339.out) hb); have n12_ := Aside0.mk (below_step (by repeat (first | (with_reducible first | exact HB.out | apply below_alloc | apply pw_below_drewN | apply below_drew1 | refine below_set ?_ GE311.out | refine below_set ?_ GE321.out | refine below_set ?_ GE327.out | refine below_set ?_ GE333.out | refine below_set ?_ GE339.out) | exact HB.out)) hb); clear HO_312001; clear HL315_1; clear HO319; clear HO325; clear HO331; clear HO337; clear BK311; clear HR315_1; clear BK321; clear BK327; clear BK333; clear BK339; clear HB; have HO_312001 := n0_; have HL315_1 := n1_; have HO319 := n2_; have HO325 := n3_; have HO331 := n4_; have HO337 := n5_; have BK311 := n6_; have HR315_1 := n7_; have BK321 := n8_; have BK327 := n9_; have BK333 := n10_; have BK339 := n11_; have HB := n12_; clear n0_ n1_ n2_ n3_ n4_ n5_ n6_ n7_ n8_ n9_ n10_ n11_ n12_; (try clear hb); (try clear hb2); (try clear hk); (try clear hi); have hnb89 := NB339_333.out; have hnc89 := NB333_339.out; have hcz90_0 : w88.cell? ⟨gb339, 0, none⟩ = some (.int .i64 t334) := (blk_cell BK339.out 0).trans rfl; have hcz90_1 : w88.cell? ⟨gb339, 1, none⟩ = some (.slice Ao64 t335.length co64) := (blk_cell BK339.out 1).trans rfl; have hfz90_0 := blk_frozen BK339.out 0; have hfz90_1 := blk_frozen BK339.out 1; have hcz91_0 : w88.cell? ⟨gb311, 0, none⟩ = some (.int .i64 a0_0) := (blk_cell BK311.out 0).trans rfl; have hcz91_1 : w88.cell? ⟨gb311, 1, none⟩ = some (.slice (some ad315) l0_1.length c0_1) := (blk_cell BK311.out 1).trans rfl; have hfz91_0 := blk_frozen BK311.out 0; have hfz91_1 := blk_frozen BK311.out 1) | (go_at_call 18; (with_reducible refine (pool_Same.calls kj5 t334 _ _ t335 a0_0 _ _ l0_1 t342 _ ?side1 ?side2 ?side3 ?side4 A73.out).mono ?_); (case side1 => repeat (first | exact (Kd.S_reads' HO337.out).2.2 | (with_reducible refine Kd.C_alloc ?_ _) | (with_reducible refine Kd.C_drewN ?_ _) | (with_reducible refine Kd.C_drew ?_))); (case side2 => exact (Kd.S_reads' HO337.out).2.1); (case side3 => repeat (first | exact (Kd.V_reads' HO_312001.out).2.2 | (with_reducible refine Kd.C_alloc ?_ _) | (with_reducible refine Kd.C_drewN ?_ _) | (with_reducible refine Kd.C_drew ?_))); (case side4 => exact (Kd.V_reads' HO_312001.out).2.1); rintro e w92 ⟨rfl, hb⟩; have n0_ := Aside0.mk (Kd.V_below (by (with_reducible repeat (first | apply Kd.V_alloc | apply Kd.V_drewN | apply Kd.V_drew)); exact HO_312001.out) hb); have n1_ := Aside0.mk (Kd.V_below (by (with_reducible repeat (first | apply Kd.V_alloc | apply Kd.V_drewN | apply Kd.V_drew)); exact HL315_1.out) hb); have n2_ := Aside0.mk (Kd.S_below (by (with_reducible repeat (first | apply Kd.S_alloc | apply Kd.S_drewN | apply Kd.S_drew)); exact HO319.out) hb); have n3_ := Aside0.mk (Kd.S_below (by (with_reducible repeat (first | apply Kd.S_alloc | apply Kd.S_drewN | apply Kd.S_drew)); exact HO325.out) hb); have n4_ := Aside0.mk (Kd.S_below (by (with_reducible repeat (first | apply Kd.S_alloc | apply Kd.S_drewN | apply Kd.S_drew)); exact HO331.out) hb); have n5_ := Aside0.mk (Kd.S_below (by (with_reducible repeat (first | apply Kd.S_alloc | apply Kd.S_drewN | apply Kd.S_drew)); exact HO337.out) hb); have n6_ := Aside0.mk (blk_below (g := gb311) (o := .cells #[.int .i64 a0_0, .slice (some ad315) l0_1.length c0_1] 24 (0, 0)) (by (with_reducible repeat (first | refine blk_drewN ?_ _ | refine blk_drew ?_ | refine blk_alloc ?_ _)); exact BK311.out) hb); have n7_ := Aside0.mk (Kd.C_below (by repeat (first | (with_reducible exact HR315_1.out) | (with_reducible refine Kd.C_alloc ?_ _) | (with_reducible refine Kd.C_drewN ?_ _) | (with_reducible refine Kd.C_drew ?_) | exact HR315_1.out)) hb); have n8_ := Aside0.mk (blk_below (g := gb321) (o := .cells #[.int .i64 t316, .slice Ao42 t317.length co42] 24 (0, 0)) (by (with_reducible repeat (first | refine blk_drewN ?_ _ | refine blk_drew ?_ | refine blk_alloc ?_ _)); exact BK321.out) hb); have n9_ := Aside0.mk (blk_below (g := gb327) (o := .cells #[.int .i64 t322, .slice Ao48 t323.length co48] 24 (0, 0)) (by (with_reducible repeat (first | refine blk_drewN ?_ _ | refine blk_drew ?_ | refine blk_alloc ?_ _)); exact BK327.out) hb); have n10_ := Aside0.mk (blk_below (g := gb333) (o := .cells #[.int .i64 t328, .slice Ao56 t329.length co56] 24 (0, 0)) (by (with_reducible repeat (first | refine blk_drewN ?_ _ | refine blk_drew ?_ | refine blk_alloc ?_ _)); exact BK333.out) hb); have n11_ := Aside0.mk (blk_below (g := gb339) (o := .cells #[.int .i64 t334, .slice Ao64 t335.length co64] 24 (0, 0)) (by (with_reducible repeat (first | refine blk_drewN ?_ _ | refine blk_drew ?_ | refine blk_alloc ?_ _)); exact BK339.out) hb); have n12_ := Aside0.mk (below_step (by repeat (first | (with_reducible first | exact HB.out | apply below_alloc | apply pw_below_drewN | apply below_drew1 | refine below_set ?_ GE311.out | refine below_set ?_ GE321.out | refine below_set ?_ GE327.out | refine below_set ?_ GE333.out | refine below_set ?_ GE339.out) | exact HB.out)) hb); clear HO_312001; clear HL315_1; clear HO319; clear HO325; clear HO331; clear HO337; clear BK311; clear HR315_1; clear BK321; clear BK327; clear BK333; clear BK339; clear HB; have HO_312001 := n0_; have HL315_1 := n1_; have HO319 := n2_; have HO325 := n3_; have HO331 := n4_; have HO337 := n5_; have BK311 := n6_; have HR315_1 := n7_; have BK321 := n8_; have BK327 := n9_; have BK333 := n10_; have BK339 := n11_; have HB := n12_; clear n0_ n1_ n2_ n3_ n4_ n5_ n6_ n7_ n8_ n9_ n10_ n11_ n12_; (try clear hb); (try clear hb2); (try clear hk); (try clear hi)))
               go_meet
               case rel => exact ⟨_, (!t342), (by first | rfl | (simp; done) | (simp [*]; done)), H', ⟨by have := HJ5.out; first | omega | exact Nat.le_refl _⟩, ⟨by (with_reducible repeat (first | apply Kd.V_alloc | apply Kd.V_drewN | apply Kd.V_drew)); exact Kd.V_mono HO_312001.out (fun _ hk => ⟨hk.1.1.1.1.1.1.1.1.1, hk.1.1.1.1.1.1.1.1.2⟩)⟩, ⟨by (with_reducible repeat (first | refine blk_drewN ?_ _ | refine blk_drew ?_ | refine blk_alloc ?_ _)); exact BK311.out⟩, ⟨by repeat (first | (with_reducible exact HR315_1.out) | (with_reducible refine Kd.C_alloc ?_ _) | (with_reducible refine Kd.C_drewN ?_ _) | (with_reducible refine Kd.C_drew ?_) | exact HR315_1.out)⟩, ⟨by repeat (first | (with_reducible first | exact HB.out | apply below_alloc | apply pw_below_drewN | apply below_drew1 | refine below_set ?_ GE311.out | refine below_set ?_ GE321.out | refine below_set ?_ GE327.out | refine below_set ?_ GE333.out | refine below_set ?_ GE339.out) | exact HB.out)⟩⟩
              ·replace c72 := Bool.eq_false_iff.mpr c72
               subst c72
               have H1 : (squelchlaw21_PoolBack.j1 kj5 ji26 t312 true a0_0 l0_1) = some r := by rw [if_neg (show ¬ (false = true) by decide)] at H; exact H
               clear H
               have H := H1
               clear H1
               exfalso
               revert H
               cases kj5 with
               | zero => simp [squelchlaw21_PoolBack.j1]
               | succ k_ => simp only [squelchlaw21_PoolBack.j1, eq_self, if_true]; intro h_; exact absurd HR_.out (by rw [← Option.some.inj h_]; decide)
            ·rw [if_neg c68] at H
             have c68b0 : (t338 == 0) = false := beq_eq_false_iff_ne.mpr c68
             have c68b1 : (t338 != 0) = true := bne_iff_ne.mpr c68
             exfalso
             revert H
             cases kj5 with
             | zero => simp [squelchlaw21_PoolBack.j1]
             | succ k_ => simp only [squelchlaw21_PoolBack.j1, eq_self, if_true]; intro h_; exact absurd HR_.out (by rw [← Option.some.inj h_]; decide)
           ·rw [if_neg c67] at H
            have c67b0 : (t332 == 0) = false := beq_eq_false_iff_ne.mpr c67
            have c67b1 : (t332 != 0) = true := bne_iff_ne.mpr c67
            exfalso
            revert H
            cases kj5 with
            | zero => simp [squelchlaw21_PoolBack.j1]
            | succ k_ => simp only [squelchlaw21_PoolBack.j1, eq_self, if_true]; intro h_; exact absurd HR_.out (by rw [← Option.some.inj h_]; decide)
          ·rw [if_neg c66] at H
           have c66b0 : (t326 == 0) = false := beq_eq_false_iff_ne.mpr c66
           have c66b1 : (t326 != 0) = true := bne_iff_ne.mpr c66
           exfalso
           revert H
           cases kj5 with
           | zero => simp [squelchlaw21_PoolBack.j1]
           | succ k_ => simp only [squelchlaw21_PoolBack.j1, eq_self, if_true]; intro h_; exact absurd HR_.out (by rw [← Option.some.inj h_]; decide)
         ·rw [if_neg c65] at H
          have c65b0 : (t320 == 0) = false := beq_eq_false_iff_ne.mpr c65
          have c65b1 : (t320 != 0) = true := bne_iff_ne.mpr c65
          (first | rw [c65b0] | (simp only [i64_w, i32_w]; rw [c65b0]) | skip)
          exfalso
          revert H
          cases kj5 with
          | zero => simp [squelchlaw21_PoolBack.j1]
          | succ k_ => simp only [squelchlaw21_PoolBack.j1, eq_self, if_true]; intro h_; exact absurd HR_.out (by rw [← Option.some.inj h_]; decide)
        case rest =>
         clear HC34
         try clear c1
         try clear c2
         try clear p2
         try clear c3
         try clear p3
         try clear q3
         try clear hx3
         try clear c4
         try clear c5
         try clear c6
         try clear p6
         try clear c7
         try clear c8
         try clear c10
         try clear c12
         try clear c12b0
         try clear c12b1
         try clear c16
         try clear c17
         try clear c24
         try clear c25
         try clear c25b0
         try clear c25b1
         try clear c25b2
         try clear c27
         try clear c27b0
         try clear c28
         try clear c28b0
         try clear c29
         try clear c29b0
         try clear c29b1
         try clear c31
         try clear p31
         try clear q31
         try clear hx31
         try clear c40
         try clear c45
         try clear c46
         try clear c52
         try clear c53
         try clear c54
         try clear c59
         try clear c60
         try clear c61
         try clear c62
         try clear p64
         try clear c65
         try clear c65b0
         try clear c65b1
         try clear c66
         try clear c66b0
         try clear c66b1
         try clear c67
         try clear c67b0
         try clear c67b1
         try clear c68
         try clear c68b0
         try clear c68b1
         try clear c70
         try clear c72
         try clear c74
         try clear c75
         try clear c76
         try clear c77
         try clear c79
         try clear c80
         try clear c81
         try clear c84
         try clear c85
         try clear c89
         try clear hcz13_0
         try clear hcz13_1
         try clear hcz15_0
         try clear hcz15_1
         try clear hcz17_0
         try clear hcz17_1
         try clear hcz18_0
         try clear hcz18_1
         try clear hcz20_0
         try clear hcz20_1
         try clear hcz22_0
         try clear hcz22_1
         try clear hcz37_0
         try clear hcz37_1
         try clear hcz41_0
         try clear hcz41_1
         try clear hcz47_0
         try clear hcz47_1
         try clear hcz49_0
         try clear hcz49_1
         try clear hcz55_0
         try clear hcz55_1
         try clear hcz63_0
         try clear hcz63_1
         try clear hcz78_0
         try clear hcz78_1
         try clear hcz82_0
         try clear hcz82_1
         try clear hcz86_0
         try clear hcz86_1
         try clear hcz87_0
         try clear hcz87_1
         try clear hcz90_0
         try clear hcz90_1
         try clear hcz91_0
         try clear hcz91_1
         try clear hfz13_0
         try clear hfz13_1
         try clear hfz15_0
         try clear hfz15_1
         try clear hfz17_0
         try clear hfz17_1
         try clear hfz18_0
         try clear hfz18_1
         try clear hfz20_0
         try clear hfz20_1
         try clear hfz22_0
         try clear hfz22_1
         try clear hfz37_0
         try clear hfz37_1
         try clear hfz41_0
         try clear hfz41_1
         try clear hfz47_0
         try clear hfz47_1
         try clear hfz49_0
         try clear hfz49_1
         try clear hfz55_0
         try clear hfz55_1
         try clear hfz63_0
         try clear hfz63_1
         try clear hfz78_0
         try clear hfz78_1
         try clear hfz82_0
         try clear hfz82_1
         try clear hfz86_0
         try clear hfz86_1
         try clear hfz87_0
         try clear hfz87_1
         try clear hfz90_0
         try clear hfz90_1
         try clear hfz91_0
         try clear hfz91_1
         try clear hx315_0
         try clear hx315_1
         try clear p2
         try clear p315
         try clear q315
         obtain ⟨kq, x144_33, rfl, HA, HJ33, HO_312001, BK311, HR315_1, HB⟩ := hcut
         cases kq with
         | zero => exact absurd HA.out (by simp [squelchlaw21_PoolBack.j1])
         | succ kj33 =>
          have H := HA.out
          clear HA
          simp only [squelchlaw21_PoolBack.j1] at H
          by_cases c93 : x144_33 = true
          ·subst c93
           have H1 : (some false) = some r := by rw [if_pos rfl] at H; exact H
           clear H
           have H := H1
           clear H1
           obtain rfl := Option.some.inj H
           exact absurd HR_.out (by simp)
          ·replace c93 := Bool.eq_false_iff.mpr c93
           subst c93
           have H1 : ((pool_Double.f kj33 a0_0 l0_1 ji26).bind fun bt343 => (if bt343.2.2 = 0 then ((pool_Drop.f kj33 bt343.1 bt343.2.1 (l0_1.length : Int)).bind fun bt349 => (if bt349.2.2 = 0 then ((pool_Same.f kj33 bt349.1 bt349.2.1 a0_0 l0_1).bind fun t355 => (if t355 = true then (if 0 ≤ (l0_1.length : Int) then (if (l0_1.length : Int) < (bt343.2.1.length : Int) then (if 0 ≤ ji26 then (if ji26 < (l0_1.length : Int) then ((squelchref21_SameGram.f ((rd_T31 bt343.2.1 (l0_1.length : Int)).f0) ((rd_T31 bt343.2.1 (l0_1.length : Int)).f1) ((rd_T31 l0_1 ji26).f0) ((rd_T31 l0_1 ji26).f1)).bind fun t358 => (if t358 = true then (squelchlaw21_PoolBack.j2 kj33 t312 a0_0 l0_1) else (some false))) else (none)) else (none)) else (none)) else (none)) else (some false))) else (some false))) else (if bt343.2.2 = 2 then (if (l0_1.length : Int) < a0_0 then (some false) else (squelchlaw21_PoolBack.j2 kj33 t312 a0_0 l0_1)) else (some false)))) = some r := by rw [if_neg (show ¬ (false = true) by decide)] at H; exact H
           clear H
           have H := H1
           clear H1
           replace H := Option.bind_eq_some_iff.mp H
           obtain ⟨⟨t343, t344, t347⟩, A940, H⟩ := H
           replace H : (if t347 = 0 then ((pool_Drop.f kj33 t343 t344 (l0_1.length : Int)).bind fun bt349 => (if bt349.2.2 = 0 then ((pool_Same.f kj33 bt349.1 bt349.2.1 a0_0 l0_1).bind fun t355 => (if t355 = true then (if 0 ≤ (l0_1.length : Int) then (if (l0_1.length : Int) < (t344.length : Int) then (if 0 ≤ ji26 then (if ji26 < (l0_1.length : Int) then ((squelchref21_SameGram.f ((rd_T31 t344 (l0_1.length : Int)).f0) ((rd_T31 t344 (l0_1.length : Int)).f1) ((rd_T31 l0_1 ji26).f0) ((rd_T31 l0_1 ji26).f1)).bind fun t358 => (if t358 = true then (squelchlaw21_PoolBack.j2 kj33 t312 a0_0 l0_1) else (some false))) else (none)) else (none)) else (none)) else (none)) else (some false))) else (some false))) else (if t347 = 2 then (if (l0_1.length : Int) < a0_0 then (some false) else (squelchlaw21_PoolBack.j2 kj33 t312 a0_0 l0_1)) else (some false))) = some r := H
           have A94 := Aside0.mk A940
           clear A940
           have HC95 := Aside0.mk H
           clear H
           have hcz96_0 : wc.cell? ⟨gb311, 0, none⟩ = some (.int .i64 a0_0) := (blk_cell BK311.out 0).trans rfl
           have hcz96_1 : wc.cell? ⟨gb311, 1, none⟩ = some (.slice (some ad315) l0_1.length c0_1) := (blk_cell BK311.out 1).trans rfl
           have hfz96_0 := blk_frozen BK311.out 0
           have hfz96_1 := blk_frozen BK311.out 1
           go_upto_if 152 with (first | ((with_reducible refine gate_callee (f := 19) rfl ?_); refine goesL_ (some 148) rfl rfl Try.func19 (by kernel_rfl) rfl #[.agg #[.int .i64 a0_0, .slice (some ad315) l0_1.length c0_1], .int .i64 ji26] rfl (by (try simp only [List.map_toArray, List.map_cons, List.map_nil]); first | done | (simp only [hji26]; rfl) | rfl | (simp only [List.length_drop, List.length_take]; rfl)) ?_; (with_reducible refine (pool_Double.calls kj33 a0_0 _ _ l0_1 ji26 t343 t344 t347 _ ?side1 ?side2 A94.out).mono ?_); (case side1 => repeat (first | exact (Kd.V_reads' HO_312001.out).2.2 | (with_reducible refine Kd.C_alloc ?_ _) | (with_reducible refine Kd.C_drewN ?_ _) | (with_reducible refine Kd.C_drew ?_))); (case side2 => exact (Kd.V_reads' HO_312001.out).2.1); rintro e w97 ⟨v345, rfl, ho0, hb⟩; refine ⟨_, rfl, ?_⟩; have n0_ := Aside0.mk (Kd.V_elder' (by (with_reducible repeat (first | apply Kd.V_alloc | apply Kd.V_drewN | apply Kd.V_drew)); exact HO_312001.out) (Kd.S_base ho0) hb); have n1_ := Aside0.mk (Kd.S_lower (Kd.S_newM (M := fun k_ => (w.heap.size ≤ k_)) ho0 (below_size (by repeat (first | (with_reducible first | exact HB.out | apply below_alloc | apply pw_below_drewN | apply below_drew1 | refine below_set ?_ GE311.out) | exact HB.out))) (fun k_ h_ => h_)) (below_size (by repeat (first | (with_reducible first | exact HB.out | apply below_alloc | apply pw_below_drewN | apply below_drew1 | refine below_set ?_ GE311.out) | exact HB.out)))); have n2_ := Aside0.mk (blk_below (g := gb311) (o := .cells #[.int .i64 a0_0, .slice (some ad315) l0_1.length c0_1] 24 (0, 0)) (by (with_reducible repeat (first | refine blk_drewN ?_ _ | refine blk_drew ?_ | refine blk_alloc ?_ _)); exact BK311.out) hb); have n3_ := Aside0.mk (Kd.C_below (by repeat (first | (with_reducible exact HR315_1.out) | (with_reducible refine Kd.C_alloc ?_ _) | (with_reducible refine Kd.C_drewN ?_ _) | (with_reducible refine Kd.C_drew ?_) | exact HR315_1.out)) hb); have n4_ := Aside0.mk (below_step (by repeat (first | (with_reducible first | exact HB.out | apply below_alloc | apply pw_below_drewN | apply below_drew1 | refine below_set ?_ GE311.out) | exact HB.out)) hb); clear HO_312001; clear BK311; clear HR315_1; clear HB; have HO_312001 := n0_; have HO346 := n1_; have BK311 := n2_; have HR315_1 := n3_; have HB := n4_; clear n0_ n1_ n2_ n3_ n4_; (try clear hb); (try clear hb2); (try clear hk); (try clear hi); (try clear ho0)) | ((with_reducible refine gate_dst (N := 19) rfl ?_); (try (refine gate_guard (by rfl) ?_; dsimp only)); refine box_event ?hg (N := 19) ?hd (cs := #[.int .i64 0, .slice none 0 0]) (t := 24) ?hr ?_; (case hd => rfl); (case hg => rfl); (case hr => first | (go_simp; done) | (go_simp; rfl)); intro gb348 hg w98 hbox hb; have n0_ := Aside0.mk (Kd.V_below (Kd.V_elderB (by (with_reducible repeat (first | apply Kd.V_alloc | apply Kd.V_drewN | apply Kd.V_drew)); exact HO_312001.out) gb348 (Nat.le_of_eq hg.symm)) hb); have n1_ := Aside0.mk (Kd.S_below (by (with_reducible repeat (first | apply Kd.S_alloc | apply Kd.S_drewN | apply Kd.S_drew)); exact HO346.out) hb); have n2_ := Aside0.mk (blk_below (g := gb311) (o := .cells #[.int .i64 a0_0, .slice (some ad315) l0_1.length c0_1] 24 (0, 0)) (by (with_reducible repeat (first | refine blk_drewN ?_ _ | refine blk_drew ?_ | refine blk_alloc ?_ _)); exact BK311.out) hb); have n3_ := Aside0.mk (Kd.C_below (by repeat (first | (with_reducible exact HR315_1.out) | (with_reducible refine Kd.C_alloc ?_ _) | (with_reducible refine Kd.C_drewN ?_ _) | (with_reducible refine Kd.C_drew ?_) | exact HR315_1.out)) hb); have n4_ := Aside0.mk (below_step (by repeat (first | (with_reducible first | exact HB.out | apply below_alloc | apply pw_below_drewN | apply below_drew1 | refine below_set ?_ GE311.out) | exact HB.out)) hb); have n5_ := Aside0.mk (hbox); have n6_ := Aside0.mk ((by rw [hg]; exact (below_size (by repeat (first | (with_reducible first | exact HB.out | apply below_alloc | apply pw_below_drewN | apply below_drew1 | refine below_set ?_ GE311.out) | exact HB.out))) : w.heap.size ≤ gb348)); have n7_ := Aside0.mk ((by rw [hg]; exact (below_size (by repeat (first | (with_reducible first | exact HB.out | apply below_alloc | apply pw_below_drewN | apply below_drew1 | refine below_set ?_ GE311.out) | exact HB.out))) : w.heap.size ≤ gb348)); have n8_ := Aside0.mk ((by rw [hg]; exact Nat.ne_of_lt (blk_lt (g := gb311) (o := .cells #[.int .i64 a0_0, .slice (some ad315) l0_1.length c0_1] 24 (0, 0)) (by (with_reducible repeat (first | refine blk_drewN ?_ _ | refine blk_drew ?_ | refine blk_alloc ?_ _)); exact BK311.out)) : gb311 ≠ gb348)); have n9_ := Aside0.mk ((by rw [hg]; exact Nat.ne_of_gt (blk_lt (g := gb311) (o := .cells #[.int .i64 a0_0, .slice (some ad315) l0_1.length c0_1] 24 (0, 0)) (by (with_reducible repeat (first | refine blk_drewN ?_ _ | refine blk_drew ?_ | refine blk_alloc ?_ _)); exact BK311.out)) : gb348 ≠ gb311)); clear HO_312001; clear HO346; clear BK311; clear HR315_1; clear HB; have HO_312001 := n0_; have HO346 := n1_; have BK311 := n2_; have HR315_1 := n3_; have HB := n4_; have BK348 := n5_; have GW348 := n6_; have GE348 := n7_; have NB311_348 := n8_; have NB348_311 := n9_; clear n0_ n1_ n2_ n3_ n4_ n5_ n6_ n7_ n8_ n9_; clear hb hbox hg; have hnb99 := NB348_311.out; have hnc99 := NB311_348.out; have hcz100_0 : w98.cell? ⟨gb348, 0, none⟩ = some (.int .i64 0) := (blk_cell BK348.out 0).trans rfl; have hcz100_1 : w98.cell? ⟨gb348, 1, none⟩ = some (.slice none 0 0) := (blk_cell BK348.out 1).trans rfl; have hfz100_0 := blk_frozen BK348.out 0; have hfz100_1 := blk_frozen BK348.out 1; obtain ⟨Ao101, co101, eo101⟩ := Kd.S_slice HO346.out; subst eo101))
           (try simp only [Act.put, List.setIfInBounds_toArray, List.set_cons_zero, List.set_cons_succ])
           go_cut [] (fun wc => ∃ (kq : Nat), Aside0 (squelchlaw21_PoolBack.j2 kq t312 a0_0 l0_1 = some r) ∧ Aside0 (kq ≤ kj33) ∧ Aside0 (Kd.V k31 31 wc w.heap.size (fun k_ => (P0_1_ k_ ∨ w.heap.size ≤ k_) ∧ k_ ≠ gb311) (.slice (some ad315) l0_1.length c0_1) l0_1) ∧ Aside0 (wc.heap[gb311]? = some (.cells #[.int .i64 a0_0, (.slice (some ad315) l0_1.length c0_1)] 24 (0, 0))) ∧ Aside0 (Below w.heap.size w wc))
           case first =>
            have H := HC95.out
            clear HC95
            by_cases c102 : t347 = 0
            ·rw [if_pos c102] at H
             have c102b0 : (t347 == 0) = true := beq_iff_eq.mpr c102
             have c102b1 : (t347 != 0) = false := bne_eq_false_iff_eq.mpr c102
             clear c102
             (first | rw [c102b0] | (simp only [i64_w, i32_w]; rw [c102b0]) | skip)
             replace H := Option.bind_eq_some_iff.mp H
             obtain ⟨⟨t349, t350, t353⟩, A1030, H⟩ := H
             replace H : (if t353 = 0 then ((pool_Same.f kj33 t349 t350 a0_0 l0_1).bind fun t355 => (if t355 = true then (if 0 ≤ (l0_1.length : Int) then (if (l0_1.length : Int) < (t344.length : Int) then (if 0 ≤ ji26 then (if ji26 < (l0_1.length : Int) then ((squelchref21_SameGram.f ((rd_T31 t344 (l0_1.length : Int)).f0) ((rd_T31 t344 (l0_1.length : Int)).f1) ((rd_T31 l0_1 ji26).f0) ((rd_T31 l0_1 ji26).f1)).bind fun t358 => (if t358 = true then (squelchlaw21_PoolBack.j2 kj33 t312 a0_0 l0_1) else (some false))) else (none)) else (none)) else (none)) else (none)) else (some false))) else (some false)) = some r := H
             have A103 := Aside0.mk A1030
             clear A1030
             by_cases c104 : t353 = 0
             ·rw [if_pos c104] at H
              have c104b0 : (t353 == 0) = true := beq_iff_eq.mpr c104
              have c104b1 : (t353 != 0) = false := bne_eq_false_iff_eq.mpr c104
              clear c104
              replace H := Option.bind_eq_some_iff.mp H
              obtain ⟨t355, A1050, H⟩ := H
              replace H : (if t355 = true then (if 0 ≤ (l0_1.length : Int) then (if (l0_1.length : Int) < (t344.length : Int) then (if 0 ≤ ji26 then (if ji26 < (l0_1.length : Int) then ((squelchref21_SameGram.f ((rd_T31 t344 (l0_1.length : Int)).f0) ((rd_T31 t344 (l0_1.length : Int)).f1) ((rd_T31 l0_1 ji26).f0) ((rd_T31 l0_1 ji26).f1)).bind fun t358 => (if t358 = true then (squelchlaw21_PoolBack.j2 kj33 t312 a0_0 l0_1) else (some false))) else (none)) else (none)) else (none)) else (none)) else (some false)) = some r := H
              have A105 := Aside0.mk A1050
              clear A1050
              by_cases c106 : t355 = true
              ·subst c106
               have H1 : (if 0 ≤ (l0_1.length : Int) then (if (l0_1.length : Int) < (t344.length : Int) then (if 0 ≤ ji26 then (if ji26 < (l0_1.length : Int) then ((squelchref21_SameGram.f ((rd_T31 t344 (l0_1.length : Int)).f0) ((rd_T31 t344 (l0_1.length : Int)).f1) ((rd_T31 l0_1 ji26).f0) ((rd_T31 l0_1 ji26).f1)).bind fun t358 => (if t358 = true then (squelchlaw21_PoolBack.j2 kj33 t312 a0_0 l0_1) else (some false))) else (none)) else (none)) else (none)) else (none)) = some r := by rw [if_pos rfl] at H; exact H
               clear H
               have H := H1
               clear H1
               by_cases c107 : 0 ≤ (l0_1.length : Int)
               ·rw [if_pos c107] at H
                have c107b0 : decide (0 ≤ (l0_1.length : Int)) = true := decide_eq_true c107
                have c107b1 : decide (0 ≤ l0_1.length) = true := decide_eq_true (by omega)
                clear c107
                by_cases c108 : (l0_1.length : Int) < (t344.length : Int)
                ·rw [if_pos c108] at H
                 have c108b0 : decide ((l0_1.length : Int) < (t344.length : Int)) = true := decide_eq_true c108
                 have c108b1 : decide (l0_1.length < t344.length) = true := decide_eq_true (Int.ofNat_lt.mp c108)
                 clear c108
                 by_cases c109 : 0 ≤ ji26
                 ·rw [if_pos c109] at H
                  have c109b0 : decide (0 ≤ ji26) = true := decide_eq_true c109
                  clear c109
                  by_cases c110 : ji26 < (l0_1.length : Int)
                  ·rw [if_pos c110] at H
                   have c110b0 : decide (ji26 < (l0_1.length : Int)) = true := decide_eq_true c110
                   clear c110
                   replace H := Option.bind_eq_some_iff.mp H
                   obtain ⟨t358, A1110, H⟩ := H
                   replace H : (if t358 = true then (squelchlaw21_PoolBack.j2 kj33 t312 a0_0 l0_1) else (some false)) = some r := H
                   have A111 := Aside0.mk A1110
                   clear A1110
                   by_cases c112 : t358 = true
                   ·subst c112
                    have H1 : (squelchlaw21_PoolBack.j2 kj33 t312 a0_0 l0_1) = some r := by rw [if_pos rfl] at H; exact H
                    clear H
                    have H := H1
                    clear H1
                    have H' := Aside0.mk H
                    clear H
                    have hnb113 := NB348_311.out
                    have hnc113 := NB311_348.out
                    have hcz114_0 : w98.cell? ⟨gb348, 0, none⟩ = some (.int .i64 0) := (blk_cell BK348.out 0).trans rfl
                    have hcz114_1 : w98.cell? ⟨gb348, 1, none⟩ = some (.slice none 0 0) := (blk_cell BK348.out 1).trans rfl
                    have hfz114_0 := blk_frozen BK348.out 0
                    have hfz114_1 := blk_frozen BK348.out 1
                    have hcz115_0 : w98.cell? ⟨gb311, 0, none⟩ = some (.int .i64 a0_0) := (blk_cell BK311.out 0).trans rfl
                    have hcz115_1 : w98.cell? ⟨gb311, 1, none⟩ = some (.slice (some ad315) l0_1.length c0_1) := (blk_cell BK311.out 1).trans rfl
                    have hfz115_0 := blk_frozen BK311.out 0
                    have hfz115_1 := blk_frozen BK311.out 1
                    try go_wp2_with (first | ((with_reducible refine gate_callee (f := 20) rfl ?_); refine goesL_ (some 158) rfl rfl Try.func20 (by kernel_rfl) rfl #[.agg #[.int .i64 t343, .slice Ao101 t344.length co101], .int .i64 (l0_1.length : Int)] rfl (by (try simp only [List.map_toArray, List.map_cons, List.map_nil]); first | done | rfl | (simp only [List.length_drop, List.length_take]; rfl)) ?_; (with_reducible refine (pool_Drop.calls kj33 t343 _ _ t344 (l0_1.length : Int) t349 t350 t353 _ ?side1 ?side2 A103.out).mono ?_); (case side1 => refine (Kd.S_reads' (e := 31) (base := w.heap.size) (ok := fun k_ => (((w.heap.size ≤ k_)) ∧ True)) (n := t344.length) (c := co101) ?_).2.2; exact (by (with_reducible repeat (first | apply Kd.S_alloc | apply Kd.S_drewN | apply Kd.S_drew)); exact (Kd.S_mono (Kd.S_far (p := ⟨gb348, 1, none⟩) (Kd.S_far (p := ⟨gb348, 0, none⟩) (Kd.S_types HO346.out BK348.out (by decide)) (fun _ hk => hk.2) (.int .i64 t343)) (fun _ hk => hk.2) (.slice Ao101 t344.length co101)) (fun _ h_ => h_.1)))); (case side2 => exact (Kd.S_reads' HO346.out).2.1); rintro e w116 ⟨v351, rfl, ho0, hb⟩; refine ⟨_, rfl, ?_⟩; have n0_ := Aside0.mk (Kd.V_elder' (by (with_reducible repeat (first | apply Kd.V_alloc | apply Kd.V_drewN | apply Kd.V_drew)); exact (Kd.V_mono (Kd.V_far (p := ⟨gb348, 1, none⟩) (Kd.V_far (p := ⟨gb348, 0, none⟩) (Kd.V_mono HO_312001.out (fun k_ hk => (⟨hk, hk.2⟩ : _ ∧ k_ ≠ gb348))) (fun _ hk => hk.2) (.int .i64 t343)) (fun _ hk => hk.2) (.slice Ao101 t344.length co101)) (fun _ h_ => h_.1))) (Kd.S_base ho0) hb); have n1_ := Aside0.mk (Kd.S_elder' (by (with_reducible repeat (first | apply Kd.S_alloc | apply Kd.S_drewN | apply Kd.S_drew)); exact (Kd.S_mono (Kd.S_far (p := ⟨gb348, 1, none⟩) (Kd.S_far (p := ⟨gb348, 0, none⟩) (Kd.S_types HO346.out BK348.out (by decide)) (fun _ hk => hk.2) (.int .i64 t343)) (fun _ hk => hk.2) (.slice Ao101 t344.length co101)) (fun _ h_ => h_.1))) (Kd.S_base ho0) hb); have n2_ := Aside0.mk (Kd.S_lower (Kd.S_new' (Kd.S_newM (M := fun k_ => (w.heap.size ≤ k_)) ho0 (below_size (by repeat (first | (with_reducible first | exact HB.out | apply below_alloc | apply pw_below_drewN | apply below_drew1 | refine below_set ?_ GE311.out | refine below_set ?_ GE348.out) | exact HB.out))) (fun k_ h_ => h_)) (Kd.S_lt (by (with_reducible repeat (first | apply Kd.S_alloc | apply Kd.S_drewN | apply Kd.S_drew)); exact (Kd.S_mono (Kd.S_far (p := ⟨gb348, 1, none⟩) (Kd.S_far (p := ⟨gb348, 0, none⟩) (Kd.S_types HO346.out BK348.out (by decide)) (fun _ hk => hk.2) (.int .i64 t343)) (fun _ hk => hk.2) (.slice Ao101 t344.length co101)) (fun _ h_ => h_.1))))) (below_size (by repeat (first | (with_reducible first | exact HB.out | apply below_alloc | apply pw_below_drewN | apply below_drew1 | refine below_set ?_ GE311.out | refine below_set ?_ GE348.out) | exact HB.out)))); have n3_ := Aside0.mk (blk_below (g := gb311) (o := .cells #[.int .i64 a0_0, .slice (some ad315) l0_1.length c0_1] 24 (0, 0)) (by (with_reducible repeat (first | refine blk_drewN ?_ _ | refine blk_drew ?_ | refine blk_alloc ?_ _)); refine blk_far ?_ NB311_348.out _; (with_reducible repeat (first | refine blk_drewN ?_ _ | refine blk_drew ?_ | refine blk_alloc ?_ _)); refine blk_far ?_ NB311_348.out _; (with_reducible repeat (first | refine blk_drewN ?_ _ | refine blk_drew ?_ | refine blk_alloc ?_ _)); exact BK311.out) hb); have n4_ := Aside0.mk (blk_below (g := gb348) (o := .cells #[.int .i64 t343, .slice Ao101 t344.length co101] 24 (0, 0)) (by (with_reducible repeat (first | refine blk_drewN ?_ _ | refine blk_drew ?_ | refine blk_alloc ?_ _)); refine blk_put (cs := #[.int .i64 t343, .slice none 0 0]) ?_ 1 _ rfl; (with_reducible repeat (first | refine blk_drewN ?_ _ | refine blk_drew ?_ | refine blk_alloc ?_ _)); refine blk_put (cs := #[.int .i64 0, .slice none 0 0]) ?_ 0 _ rfl; (with_reducible repeat (first | refine blk_drewN ?_ _ | refine blk_drew ?_ | refine blk_alloc ?_ _)); exact BK348.out) hb); have n5_ := Aside0.mk (below_step (by repeat (first | (with_reducible first | exact HB.out | apply below_alloc | apply pw_below_drewN | apply below_drew1 | refine below_set ?_ GE311.out | refine below_set ?_ GE348.out) | exact HB.out)) hb); clear HO_312001; clear HO346; clear BK311; clear BK348; clear HB; have HO_312001 := n0_; have HO346 := n1_; have HO352 := n2_; have BK311 := n3_; have BK348 := n4_; have HB := n5_; clear n0_ n1_ n2_ n3_ n4_ n5_; (try clear hb); (try clear hb2); (try clear hk); (try clear hi); (try clear ho0)) | ((with_reducible refine gate_dst (N := 21) rfl ?_); (try (refine gate_guard (by rfl) ?_; dsimp only)); refine box_event ?hg (N := 21) ?hd (cs := #[.int .i64 0, .slice none 0 0]) (t := 24) ?hr ?_; (case hd => rfl); (case hg => rfl); (case hr => first | (go_simp; done) | (go_simp; rfl)); intro gb354 hg w117 hbox hb; have n0_ := Aside0.mk (Kd.V_below (Kd.V_elderB (by (with_reducible repeat (first | apply Kd.V_alloc | apply Kd.V_drewN | apply Kd.V_drew)); exact HO_312001.out) gb354 (Nat.le_of_eq hg.symm)) hb); have n1_ := Aside0.mk (Kd.S_below (by (with_reducible repeat (first | apply Kd.S_alloc | apply Kd.S_drewN | apply Kd.S_drew)); exact HO346.out) hb); have n2_ := Aside0.mk (Kd.S_below (by (with_reducible repeat (first | apply Kd.S_alloc | apply Kd.S_drewN | apply Kd.S_drew)); exact HO352.out) hb); have n3_ := Aside0.mk (blk_below (g := gb311) (o := .cells #[.int .i64 a0_0, .slice (some ad315) l0_1.length c0_1] 24 (0, 0)) (by (with_reducible repeat (first | refine blk_drewN ?_ _ | refine blk_drew ?_ | refine blk_alloc ?_ _)); exact BK311.out) hb); have n4_ := Aside0.mk (blk_below (g := gb348) (o := .cells #[.int .i64 t343, .slice Ao101 t344.length co101] 24 (0, 0)) (by (with_reducible repeat (first | refine blk_drewN ?_ _ | refine blk_drew ?_ | refine blk_alloc ?_ _)); exact BK348.out) hb); have n5_ := Aside0.mk (below_step (by repeat (first | (with_reducible first | exact HB.out | apply below_alloc | apply pw_below_drewN | apply below_drew1 | refine below_set ?_ GE311.out | refine below_set ?_ GE348.out) | exact HB.out)) hb); have n6_ := Aside0.mk (hbox); have n7_ := Aside0.mk ((by rw [hg]; exact (below_size (by repeat (first | (with_reducible first | exact HB.out | apply below_alloc | apply pw_below_drewN | apply below_drew1 | refine below_set ?_ GE311.out | refine below_set ?_ GE348.out) | exact HB.out))) : w.heap.size ≤ gb354)); have n8_ := Aside0.mk ((by rw [hg]; exact (below_size (by repeat (first | (with_reducible first | exact HB.out | apply below_alloc | apply pw_below_drewN | apply below_drew1 | refine below_set ?_ GE311.out | refine below_set ?_ GE348.out) | exact HB.out))) : w.heap.size ≤ gb354)); have n9_ := Aside0.mk ((by rw [hg]; exact Nat.ne_of_lt (blk_lt (g := gb311) (o := .cells #[.int .i64 a0_0, .slice (some ad315) l0_1.length c0_1] 24 (0, 0)) (by (with_reducible repeat (first | refine blk_drewN ?_ _ | refine blk_drew ?_ | refine blk_alloc ?_ _)); exact BK311.out)) : gb311 ≠ gb354)); have n10_ := Aside0.mk ((by rw [hg]; exact Nat.ne_of_gt (blk_lt (g := gb311) (o := .cells #[.int .i64 a0_0, .slice (some ad315) l0_1.length c0_1] 24 (0, 0)) (by (with_reducible repeat (first | refine blk_drewN ?_ _ | refine blk_drew ?_ | refine blk_alloc ?_ _)); exact BK311.out)) : gb354 ≠ gb311)); have n11_ := Aside0.mk ((by rw [hg]; exact Nat.ne_of_lt (blk_lt (g := gb348) (o := .cells #[.int .i64 t343, .slice Ao101 t344.length co101] 24 (0, 0)) (by (with_reducible repeat (first | refine blk_drewN ?_ _ | refine blk_drew ?_ | refine blk_alloc ?_ _)); exact BK348.out)) : gb348 ≠ gb354)); have n12_ := Aside0.mk ((by rw [hg]; exact Nat.ne_of_gt (blk_lt (g := gb348) (o := .cells #[.int .i64 t343, .slice Ao101 t344.length co101] 24 (0, 0)) (by (with_reducible repeat (first | refine blk_drewN ?_ _ | refine blk_drew ?_ | refine blk_alloc ?_ _)); exact BK348.out)) : gb354 ≠ gb348)); clear HO_312001; clear HO346; clear HO352; clear BK311; clear BK348; clear HB; have HO_312001 := n0_; have HO346 := n1_; have HO352 := n2_; have BK311 := n3_; have BK348 := n4_; have HB := n5_; have BK354 := n6_; have GW354 := n7_; have GE354 := n8_; have NB311_354 := n9_; have NB354_311 := n10_; have NB348_354 := n11_; have NB354_348 := n12_; clear n0_ n1_ n2_ n3_ n4_ n5_ n6_ n7_ n8_ n9_ n10_ n11_ n12_; clear hb hbox hg; have hnb118 := NB354_311.out; have hnc118 := NB311_354.out; have hnb119 := NB354_348.out; have hnc119 := NB348_354.out; have hcz120_0 : w117.cell? ⟨gb354, 0, none⟩ = some (.int .i64 0) := (blk_cell BK354.out 0).trans rfl; have hcz120_1 : w117.cell? ⟨gb354, 1, none⟩ = some (.slice none 0 0) := (blk_cell BK354.out 1).trans rfl; have hfz120_0 := blk_frozen BK354.out 0; have hfz120_1 := blk_frozen BK354.out 1; obtain ⟨Ao121, co121, eo121⟩ := Kd.S_slice HO352.out; subst eo121))
                    have n0_ : Aside0 (Kd.V k31 31 ((w117.setCell ⟨gb354, 0, none⟩ (.int .i64 t349)).setCell ⟨gb354, 1, none⟩ (.slice Ao121 t350.length co121)) w.heap.size (fun k_ => (P0_1_ k_ ∨ w.heap.size ≤ k_) ∧ some k_ ≠ (.slice Ao101 t344.length co101 : Value).ownBlock ∧ some k_ ≠ (.slice Ao121 t350.length co121 : Value).ownBlock ∧ k_ ≠ gb311 ∧ k_ ≠ gb348 ∧ k_ ≠ gb354) (.slice (some ad315) l0_1.length c0_1) l0_1) := ⟨by (with_reducible repeat (first | apply Kd.V_alloc | apply Kd.V_drewN | apply Kd.V_drew)); exact Kd.V_mono (Kd.V_far (p := ⟨gb354, 1, none⟩) (Kd.V_far (p := ⟨gb354, 0, none⟩) (Kd.V_mono HO_312001.out (fun k_ hk => (⟨hk, hk.2⟩ : _ ∧ k_ ≠ gb354))) (fun _ hk => hk.2) (.int .i64 t349)) (fun _ hk => hk.2) (.slice Ao121 t350.length co121)) (fun _ hk => ⟨hk.1.1.1.1.1.1, ⟨hk.1.1.1.1.2, ⟨hk.1.1.2, ⟨hk.1.1.1.1.1.2, ⟨hk.1.1.1.2, hk.1.2⟩⟩⟩⟩⟩)⟩
                    have n1_ : Aside0 (Kd.S k31 31 ((w117.setCell ⟨gb354, 0, none⟩ (.int .i64 t349)).setCell ⟨gb354, 1, none⟩ (.slice Ao121 t350.length co121)) w.heap.size (fun k_ => (w.heap.size ≤ k_) ∧ some k_ ≠ (.slice Ao121 t350.length co121 : Value).ownBlock) (.slice Ao101 t344.length co101) t344) := ⟨by (with_reducible repeat (first | apply Kd.S_alloc | apply Kd.S_drewN | apply Kd.S_drew)); exact Kd.S_mono (Kd.S_far (p := ⟨gb354, 1, none⟩) (Kd.S_far (p := ⟨gb354, 0, none⟩) (Kd.S_types HO346.out BK354.out (by decide)) (fun _ hk => hk.2) (.int .i64 t349)) (fun _ hk => hk.2) (.slice Ao121 t350.length co121)) (fun _ hk => ⟨hk.1.1.1, hk.1.2⟩)⟩
                    have n2_ : Aside0 (Kd.S k31 31 ((w117.setCell ⟨gb354, 0, none⟩ (.int .i64 t349)).setCell ⟨gb354, 1, none⟩ (.slice Ao121 t350.length co121)) w.heap.size (fun k_ => (w.heap.size ≤ k_) ∧ some k_ ≠ (.slice Ao101 t344.length co101 : Value).ownBlock) (.slice Ao121 t350.length co121) t350) := ⟨by (with_reducible repeat (first | apply Kd.S_alloc | apply Kd.S_drewN | apply Kd.S_drew)); exact Kd.S_mono (Kd.S_far (p := ⟨gb354, 1, none⟩) (Kd.S_far (p := ⟨gb354, 0, none⟩) (Kd.S_types HO352.out BK354.out (by decide)) (fun _ hk => hk.2) (.int .i64 t349)) (fun _ hk => hk.2) (.slice Ao121 t350.length co121)) (fun _ hk => ⟨hk.1.1.1, hk.1.2⟩)⟩
                    have n3_ : Aside0 (((w117.setCell ⟨gb354, 0, none⟩ (.int .i64 t349)).setCell ⟨gb354, 1, none⟩ (.slice Ao121 t350.length co121)).heap[gb311]? = some (.cells #[.int .i64 a0_0, .slice (some ad315) l0_1.length c0_1] 24 (0, 0))) := ⟨by (with_reducible repeat (first | refine blk_drewN ?_ _ | refine blk_drew ?_ | refine blk_alloc ?_ _)); refine blk_far ?_ NB311_354.out _; (with_reducible repeat (first | refine blk_drewN ?_ _ | refine blk_drew ?_ | refine blk_alloc ?_ _)); refine blk_far ?_ NB311_354.out _; (with_reducible repeat (first | refine blk_drewN ?_ _ | refine blk_drew ?_ | refine blk_alloc ?_ _)); exact BK311.out⟩
                    have n4_ : Aside0 (((w117.setCell ⟨gb354, 0, none⟩ (.int .i64 t349)).setCell ⟨gb354, 1, none⟩ (.slice Ao121 t350.length co121)).heap[gb348]? = some (.cells #[.int .i64 t343, .slice Ao101 t344.length co101] 24 (0, 0))) := ⟨by (with_reducible repeat (first | refine blk_drewN ?_ _ | refine blk_drew ?_ | refine blk_alloc ?_ _)); refine blk_far ?_ NB348_354.out _; (with_reducible repeat (first | refine blk_drewN ?_ _ | refine blk_drew ?_ | refine blk_alloc ?_ _)); refine blk_far ?_ NB348_354.out _; (with_reducible repeat (first | refine blk_drewN ?_ _ | refine blk_drew ?_ | refine blk_alloc ?_ _)); exact BK348.out⟩
                    have n5_ : Aside0 (((w117.setCell ⟨gb354, 0, none⟩ (.int .i64 t349)).setCell ⟨gb354, 1, none⟩ (.slice Ao121 t350.length co121)).heap[gb354]? = some (.cells #[.int .i64 t349, .slice Ao121 t350.length co121] 24 (0, 0))) := ⟨by (with_reducible repeat (first | refine blk_drewN ?_ _ | refine blk_drew ?_ | refine blk_alloc ?_ _)); refine blk_put (cs := #[.int .i64 t349, .slice none 0 0]) ?_ 1 _ rfl; (with_reducible repeat (first | refine blk_drewN ?_ _ | refine blk_drew ?_ | refine blk_alloc ?_ _)); refine blk_put (cs := #[.int .i64 0, .slice none 0 0]) ?_ 0 _ rfl; (with_reducible repeat (first | refine blk_drewN ?_ _ | refine blk_drew ?_ | refine blk_alloc ?_ _)); exact BK354.out⟩
                    have n6_ : Aside0 (Below w.heap.size w ((w117.setCell ⟨gb354, 0, none⟩ (.int .i64 t349)).setCell ⟨gb354, 1, none⟩ (.slice Ao121 t350.length co121))) := ⟨by repeat (first | (with_reducible first | exact HB.out | apply below_alloc | apply pw_below_drewN | apply below_drew1 | refine below_set ?_ GE311.out | refine below_set ?_ GE348.out | refine below_set ?_ GE354.out) | exact HB.out)⟩
                    (try clear HO_312001)
                    (try clear HO346)
                    (try clear HO352)
                    (try clear BK311)
                    (try clear BK348)
                    (try clear BK354)
                    (try clear HB)
                    generalize ((w117.setCell ⟨gb354, 0, none⟩ (.int .i64 t349)).setCell ⟨gb354, 1, none⟩ (.slice Ao121 t350.length co121)) = w122 at n0_ n1_ n2_ n3_ n4_ n5_ n6_ ⊢
                    have HO_312001 := n0_
                    have HO346 := n1_
                    have HO352 := n2_
                    have BK311 := n3_
                    have BK348 := n4_
                    have BK354 := n5_
                    have HB := n6_
                    clear n0_ n1_ n2_ n3_ n4_ n5_ n6_
                    have n0_ := Aside0.mk (Kd.V_drew HO_312001.out)
                    have n1_ := Aside0.mk (Kd.S_drew HO346.out)
                    have n2_ := Aside0.mk (Kd.S_drew HO352.out)
                    have n3_ := Aside0.mk (blk_drew BK311.out)
                    have n4_ := Aside0.mk (blk_drew BK348.out)
                    have n5_ := Aside0.mk (blk_drew BK354.out)
                    have n6_ := Aside0.mk (below_drew1 HB.out)
                    clear HO_312001
                    clear HO346
                    clear HO352
                    clear BK311
                    clear BK348
                    clear BK354
                    clear HB
                    have HO_312001 := n0_
                    have HO346 := n1_
                    have HO352 := n2_
                    have BK311 := n3_
                    have BK348 := n4_
                    have BK354 := n5_
                    have HB := n6_
                    clear n0_ n1_ n2_ n3_ n4_ n5_ n6_
                    have p356 : 0 ≤ ((l0_1.length : Int) : Int) := of_decide_eq_true (by first | (with_reducible assumption) | assumption)
                    have q356 : (l0_1.length : Int) < (t344.length : Int) := of_decide_eq_true (by first | (with_reducible assumption) | assumption)
                    obtain ⟨ad356, A356_1, c356_1, e356, hx356_0, hx356_1, hl356_1, hi356_1⟩ := at_T31 (Kd.S_reads' HO346.out).2.2 (l0_1.length : Int) p356 q356
                    cases e356
                    obtain ⟨ce356, hce356, hMe356, hcc356⟩ := Kd.S_get HO346.out z31 (l0_1.length : Int) p356 (by first | exact q356 | exact of_decide_eq_true (by first | (with_reducible assumption) | assumption) | (have e_ := (Kd.S_reads' HO346.out).1; omega))
                    obtain ⟨ve356_1, rfl, ge356_1⟩ := k31_openM hMe356
                    have hv356_1 := hcc356 1 _ rfl
                    rw [add_field _ _ 1 (by omega)] at hv356_1
                    replace hv356_1 := Option.some.inj (hv356_1.symm.trans hx356_1)
                    rw [hv356_1] at ge356_1
                    have HL356_1 := Aside0.mk (show Kd.R (Kd.int .u8) 5 _ _ _ _ ((rd_T31 t344 (l0_1.length : Int)).f1) from ge356_1)
                    clear hv356_1 ge356_1
                    clear hcc356 hce356
                    have HR356_1 := Aside0.mk hi356_1
                    have HC356_1 := Aside0.mk hl356_1
                    clear hi356_1 hl356_1
                    (try simp only [Go.IntWalk.toNatUp] at hx356_0)
                    (try simp only [Go.IntWalk.toNatUp] at hx356_1)
                    replace p356 := eq_true p356
                    replace q356 := eq_true q356
                    have p357 : 0 ≤ (ji26 : Int) := of_decide_eq_true (by first | (with_reducible assumption) | assumption)
                    have q357 : ji26 < (l0_1.length : Int) := of_decide_eq_true (by first | (with_reducible assumption) | assumption)
                    obtain ⟨ad357, A357_1, c357_1, e357, hx357_0, hx357_1, hl357_1, hi357_1⟩ := at_T31 (Kd.V_reads' HO_312001.out).2.2 ji26 p357 q357
                    obtain rfl : ad315 = ad357 := (by injection e357)
                    obtain ⟨ce357, hce357, hMe357, hcc357⟩ := Kd.V_get HO_312001.out z31 ji26 p357 (by first | exact q357 | exact of_decide_eq_true (by first | (with_reducible assumption) | assumption) | (have e_ := (Kd.V_reads' HO_312001.out).1; omega))
                    obtain ⟨ua357_1, uc357_1, rfl, ul357_1, ge357_1⟩ := k31_openF hMe357
                    have hv357_1 := hcc357 1 _ rfl
                    rw [add_field _ _ 1 (by omega)] at hv357_1
                    replace hv357_1 := Option.some.inj (hv357_1.symm.trans hx357_1)
                    injection hv357_1 with hva_ hvn_ hvc_
                    rw [hva_] at ge357_1
                    rw [hvc_] at ul357_1
                    have HL357_1 := Aside0.mk (show Kd.V (Kd.int .u8) 5 _ w.heap.size _ _ ((rd_T31 l0_1 ji26).f1) from Kd.V_mk ul357_1 ge357_1)
                    clear hva_ hvn_ hvc_ ge357_1 ul357_1
                    clear hcc357 hce357
                    have HR357_1 := Aside0.mk hi357_1
                    have HC357_1 := Aside0.mk hl357_1
                    clear hi357_1 hl357_1
                    replace p357 := eq_true p357
                    replace q357 := eq_true q357
                    refine start_ (n := 24) (S := fun w' => w'.cell? ⟨gb354, 0, none⟩ = some (.int .i64 t349) ∧ w'.cell? ⟨gb354, 1, none⟩ = some (.slice Ao121 t350.length co121) ∧ w'.cell? ⟨gb311, 0, none⟩ = some (.int .i64 a0_0) ∧ w'.cell? ⟨gb311, 1, none⟩ = some (.slice (some ad315) l0_1.length c0_1) ∧ w'.cell? ⟨gb348, 0, none⟩ = some (.int .i64 t343) ∧ w'.cell? ⟨gb348, 1, none⟩ = some (.slice (some ad356) t344.length co101) ∧ w'.cell? (ad356.add (l0_1.length * 2)) = some (.int .i64 ((rd_T31 t344 (l0_1.length : Int)).f0)) ∧ w'.cell? ⟨(ad356.add (l0_1.length * 2)).block, (ad356.add (l0_1.length * 2)).off + 1, none⟩ = some (.slice A356_1 ((rd_T31 t344 (l0_1.length : Int)).f1).length c356_1) ∧ w'.cell? (ad315.add ((ji26).toNat * 2)) = some (.int .i64 ((rd_T31 l0_1 ji26).f0)) ∧ w'.cell? ⟨(ad315.add ((ji26).toNat * 2)).block, (ad315.add ((ji26).toNat * 2)).off + 1, none⟩ = some (.slice A357_1 ((rd_T31 l0_1 ji26).f1).length c357_1)) (ds := []) #[false, false, false, false, false, false, false, false, false, false, false, false, false, false, false, false, false, false, false, false, false, false, false, false] (by kernel_rfl) rfl rfl ⟨(blk_cell BK354.out 0).trans rfl, (blk_cell BK354.out 1).trans rfl, (blk_cell BK311.out 0).trans rfl, (blk_cell BK311.out 1).trans rfl, (blk_cell BK348.out 0).trans rfl, (blk_cell BK348.out 1).trans rfl, hx356_0, hx356_1, hx357_0, hx357_1⟩ (fun hHeld => ?_); refine with_tabW squelchlaw21_PoolBack.tab17 squelchlaw21_PoolBack.bits17 (fun HT_ HW_ => ?_)
                    generalize w122.drew = w123 at HO_312001 HO346 HO352 BK311 BK348 BK354 HB HL356_1 HL357_1 HR356_1 HR357_1 hx356_0 hx356_1 hx357_0 hx357_1 hHeld ⊢
                    refine pure_ (i := 0) (N := some 161) (v := ?_) (a' := ?_) #[true, false, false, false, false, false, false, false, false, false, false, false, false, false, false, false, false, false, false, false, false, false, false, false] rfl rfl (any_of HT_.out (by kernel_rfl)) (fun _ _ _ h => h) (Or.inl ⟨by rfl, ?_⟩) ?_ ?_
                    rotate_left
                    ·intro w'
                     go_simp
                     with_reducible rfl
                    rotate_left
                    ·simp only [Act.put, List.setIfInBounds_toArray, List.set_cons_zero, List.set_cons_succ, i64_w, i32_w]
                     rfl
                    refine pure_ (i := 1) (N := some 162) (v := ?_) (a' := ?_) #[true, true, false, false, false, false, false, false, false, false, false, false, false, false, false, false, false, false, false, false, false, false, false, false] rfl rfl (any_of HT_.out (by kernel_rfl)) (fun _ _ _ h => h) (Or.inl ⟨by rfl, ?_⟩) ?_ ?_
                    rotate_left
                    ·intro w'
                     go_simp
                     with_reducible rfl
                    rotate_left
                    ·simp only [Act.put, List.setIfInBounds_toArray, List.set_cons_zero, List.set_cons_succ, i64_w, i32_w]
                     rfl
                    refine pure_ (i := 2) (N := some 163) (v := ?_) (a' := ?_) #[true, true, true, false, false, false, false, false, false, false, false, false, false, false, false, false, false, false, false, false, false, false, false, false] rfl rfl (any_of HT_.out (by kernel_rfl)) (fun _ _ _ h => h) (Or.inl ⟨by rfl, ?_⟩) ?_ ?_
                    rotate_left
                    ·intro w'
                     go_simp
                     with_reducible rfl
                    rotate_left
                    ·simp only [Act.put, List.setIfInBounds_toArray, List.set_cons_zero, List.set_cons_succ, i64_w, i32_w]
                     rfl
                    refine take_ (i := 3) (N := some 164) (v := ?_) (a' := ?_) #[true, true, true, true, false, false, false, false, false, false, false, false, false, false, false, false, false, false, false, false, false, false, false, false] rfl rfl (take_ofW HT_.out HW_.out (by kernel_rfl)) (fun _ _ _ h => h) (Or.inl ⟨by rfl, ?_⟩) hHeld ?_ ?_
                    rotate_left
                    ·rintro w' ⟨s0, s1, s2, s3, s4, s5, s6, s7, s8, s9⟩
                     go_simp
                     with_reducible rfl
                    rotate_left
                    ·simp only [Act.put, List.setIfInBounds_toArray, List.set_cons_zero, List.set_cons_succ, i64_w, i32_w]
                     rfl
                    refine take_ (i := 4) (N := some 165) (v := ?_) (a' := ?_) #[true, true, true, true, true, false, false, false, false, false, false, false, false, false, false, false, false, false, false, false, false, false, false, false] rfl rfl (take_ofW HT_.out HW_.out (by kernel_rfl)) (fun _ _ _ h => h) (Or.inl ⟨by rfl, ?_⟩) hHeld ?_ ?_
                    rotate_left
                    ·rintro w' ⟨s0, s1, s2, s3, s4, s5, s6, s7, s8, s9⟩
                     go_simp
                     with_reducible rfl
                    rotate_left
                    ·simp only [Act.put, List.setIfInBounds_toArray, List.set_cons_zero, List.set_cons_succ, i64_w, i32_w]
                     rfl
                    refine one_ (i := 5) (N := some 166) #[true, true, true, true, true, true, false, false, false, false, false, false, false, false, false, false, false, false, false, false, false, false, false, false] rfl rfl (one_of HT_.out (by kernel_rfl)) (by decide) (fun K hK => ?_)
                    refine goes_ Try.func18 (by kernel_rfl) rfl #[.agg #[.int .i64 t349, .slice Ao121 t350.length co121], .agg #[.int .i64 a0_0, .slice (some ad315) l0_1.length c0_1]] (by rfl) rfl rfl (by (try simp only [List.map_toArray, List.map_cons, List.map_nil]); first | done | rfl | (simp only [List.length_drop, List.length_take]; rfl)) ?_
                    with_reducible refine (pool_Same.calls kj33 t349 _ _ t350 a0_0 _ _ l0_1 true _ ?side1 ?side2 ?side3 ?side4 A105.out).mono ?_
                    (case side1 => repeat (first | exact (Kd.S_reads' HO352.out).2.2 | (with_reducible refine Kd.C_alloc ?_ _) | (with_reducible refine Kd.C_drewN ?_ _) | (with_reducible refine Kd.C_drew ?_)))
                    (case side2 => exact (Kd.S_reads' HO352.out).2.1)
                    (case side3 => repeat (first | exact (Kd.V_reads' HO_312001.out).2.2 | (with_reducible refine Kd.C_alloc ?_ _) | (with_reducible refine Kd.C_drewN ?_ _) | (with_reducible refine Kd.C_drew ?_)))
                    (case side4 => exact (Kd.V_reads' HO_312001.out).2.1)
                    rintro e w124 ⟨rfl, hb⟩
                    have HS6_ := (hb.cell (World.block_lt_of_cell? _ _ (hHeld.2.2.2.2.2.2.1))).trans (hHeld.2.2.2.2.2.2.1)
                    have HS7_ := (hb.cell (World.block_lt_of_cell? _ _ (hHeld.2.2.2.2.2.2.2.1))).trans (hHeld.2.2.2.2.2.2.2.1)
                    have HS8_ := (hb.cell (World.block_lt_of_cell? _ _ (hHeld.2.2.2.2.2.2.2.2.1))).trans (hHeld.2.2.2.2.2.2.2.2.1)
                    have HS9_ := (hb.cell (World.block_lt_of_cell? _ _ (hHeld.2.2.2.2.2.2.2.2.2))).trans (hHeld.2.2.2.2.2.2.2.2.2)
                    refine ⟨_, rfl, ?_⟩
                    have n0_ := Aside0.mk (Kd.V_below (by (with_reducible repeat (first | apply Kd.V_alloc | apply Kd.V_drewN | apply Kd.V_drew)); exact HO_312001.out) hb)
                    have n1_ := Aside0.mk (Kd.S_below (by (with_reducible repeat (first | apply Kd.S_alloc | apply Kd.S_drewN | apply Kd.S_drew)); exact HO346.out) hb)
                    have n2_ := Aside0.mk (Kd.S_below (by (with_reducible repeat (first | apply Kd.S_alloc | apply Kd.S_drewN | apply Kd.S_drew)); exact HO352.out) hb)
                    have n3_ := Aside0.mk (blk_below (g := gb311) (o := .cells #[.int .i64 a0_0, .slice (some ad315) l0_1.length c0_1] 24 (0, 0)) (by (with_reducible repeat (first | refine blk_drewN ?_ _ | refine blk_drew ?_ | refine blk_alloc ?_ _)); exact BK311.out) hb)
                    have n4_ := Aside0.mk (blk_below (g := gb348) (o := .cells #[.int .i64 t343, .slice (some ad356) t344.length co101] 24 (0, 0)) (by (with_reducible repeat (first | refine blk_drewN ?_ _ | refine blk_drew ?_ | refine blk_alloc ?_ _)); exact BK348.out) hb)
                    have n5_ := Aside0.mk (blk_below (g := gb354) (o := .cells #[.int .i64 t349, .slice Ao121 t350.length co121] 24 (0, 0)) (by (with_reducible repeat (first | refine blk_drewN ?_ _ | refine blk_drew ?_ | refine blk_alloc ?_ _)); exact BK354.out) hb)
                    have n6_ := Aside0.mk (below_step (by repeat (first | (with_reducible first | exact HB.out | apply below_alloc | apply pw_below_drewN | apply below_drew1 | refine below_set ?_ GE311.out | refine below_set ?_ GE348.out | refine below_set ?_ GE354.out) | exact HB.out)) hb)
                    clear HO_312001
                    clear HO346
                    clear HO352
                    clear BK311
                    clear BK348
                    clear BK354
                    clear HB
                    have HO_312001 := n0_
                    have HO346 := n1_
                    have HO352 := n2_
                    have BK311 := n3_
                    have BK348 := n4_
                    have BK354 := n5_
                    have HB := n6_
                    clear n0_ n1_ n2_ n3_ n4_ n5_ n6_
                    have nq0_ := Aside0.mk (Kd.R_below (by (with_reducible repeat (first | apply Kd.R_alloc | apply Kd.R_drewN | apply Kd.R_drew)); exact HL356_1.out) hb)
                    have nq1_ := Aside0.mk (Kd.V_below (by (with_reducible repeat (first | apply Kd.V_alloc | apply Kd.V_drewN | apply Kd.V_drew)); exact HL357_1.out) hb)
                    have nq2_ := Aside0.mk (Kd.C_below (by repeat (first | (with_reducible exact HR356_1.out) | (with_reducible refine Kd.C_alloc ?_ _) | (with_reducible refine Kd.C_drewN ?_ _) | (with_reducible refine Kd.C_drew ?_) | exact HR356_1.out)) hb)
                    have nq3_ := Aside0.mk (Kd.C_below (by repeat (first | (with_reducible exact HR357_1.out) | (with_reducible refine Kd.C_alloc ?_ _) | (with_reducible refine Kd.C_drewN ?_ _) | (with_reducible refine Kd.C_drew ?_) | exact HR357_1.out)) hb)
                    clear HL356_1 HL357_1 HR356_1 HR357_1
                    have HL356_1 := nq0_
                    have HL357_1 := nq1_
                    have HR356_1 := nq2_
                    have HR357_1 := nq3_
                    clear nq0_ nq1_ nq2_ nq3_
                    (try clear hb)
                    (try clear hb2)
                    (try clear hk)
                    (try clear hi)
                    refine hK.out _ _ ⟨(blk_cell BK354.out 0).trans rfl, (blk_cell BK354.out 1).trans rfl, (blk_cell BK311.out 0).trans rfl, (blk_cell BK311.out 1).trans rfl, (blk_cell BK348.out 0).trans rfl, (blk_cell BK348.out 1).trans rfl, HS6_, HS7_, HS8_, HS9_⟩ (fun hHeld => ?_)
                    clear hK K
                    refine norm_ (a' := ?_) ?_ ?_
                    rotate_left
                    ·show Act.put _ (some 166) _ = _
                     simp only [Act.put, List.setIfInBounds_toArray, List.set_cons_zero, List.set_cons_succ, i64_w, i32_w]
                     rfl
                    refine pure_ (i := 6) (N := some 167) (v := ?_) (a' := ?_) #[true, true, true, true, true, true, true, false, false, false, false, false, false, false, false, false, false, false, false, false, false, false, false, false] rfl rfl (any_of HT_.out (by kernel_rfl)) (fun _ _ _ h => h) (Or.inl ⟨by rfl, ?_⟩) ?_ ?_
                    rotate_left
                    ·intro w'
                     go_simp
                     with_reducible rfl
                    rotate_left
                    ·simp only [Act.put, List.setIfInBounds_toArray, List.set_cons_zero, List.set_cons_succ, i64_w, i32_w]
                     rfl
                    refine pure_ (i := 7) (N := some 168) (v := ?_) (a' := ?_) #[true, true, true, true, true, true, true, true, false, false, false, false, false, false, false, false, false, false, false, false, false, false, false, false] rfl rfl (any_of HT_.out (by kernel_rfl)) (fun _ _ _ h => h) (Or.inl ⟨by rfl, ?_⟩) ?_ ?_
                    rotate_left
                    ·intro w'
                     go_simp
                     with_reducible rfl
                    rotate_left
                    ·simp only [Act.put, List.setIfInBounds_toArray, List.set_cons_zero, List.set_cons_succ, i64_w, i32_w]
                     rfl
                    refine pure_ (i := 8) (N := some 169) (v := ?_) (a' := ?_) #[true, true, true, true, true, true, true, true, true, false, false, false, false, false, false, false, false, false, false, false, false, false, false, false] rfl rfl (any_of HT_.out (by kernel_rfl)) (fun _ _ _ h => h) (Or.inl ⟨by rfl, ?_⟩) ?_ ?_
                    rotate_left
                    ·intro w'
                     go_simp
                     with_reducible rfl
                    rotate_left
                    ·simp only [Act.put, List.setIfInBounds_toArray, List.set_cons_zero, List.set_cons_succ, i64_w, i32_w]
                     rfl
                    refine pure_ (i := 9) (N := some 170) (v := ?_) (a' := ?_) #[true, true, true, true, true, true, true, true, true, true, false, false, false, false, false, false, false, false, false, false, false, false, false, false] rfl rfl (any_of HT_.out (by kernel_rfl)) (fun _ _ _ h => h) (Or.inl ⟨by rfl, ?_⟩) ?_ ?_
                    rotate_left
                    ·intro w'
                     go_simp
                     with_reducible rfl
                    rotate_left
                    ·simp only [Act.put, List.setIfInBounds_toArray, List.set_cons_zero, List.set_cons_succ, i64_w, i32_w]
                     rfl
                    refine pure_ (i := 11) (N := some 172) (v := ?_) (a' := ?_) #[true, true, true, true, true, true, true, true, true, true, false, true, false, false, false, false, false, false, false, false, false, false, false, false] rfl rfl (any_of HT_.out (by kernel_rfl)) (fun _ _ _ h => h) (Or.inl ⟨by rfl, ?_⟩) ?_ ?_
                    rotate_left
                    ·intro w'
                     go_simp
                     with_reducible rfl
                    rotate_left
                    ·simp only [Act.put, List.setIfInBounds_toArray, List.set_cons_zero, List.set_cons_succ, i64_w, i32_w]
                     rfl
                    refine pure_ (i := 16) (N := some 177) (v := ?_) (a' := ?_) #[true, true, true, true, true, true, true, true, true, true, false, true, false, false, false, false, true, false, false, false, false, false, false, false] rfl rfl (any_of HT_.out (by kernel_rfl)) (fun _ _ _ h => h) (Or.inl ⟨by rfl, ?_⟩) ?_ ?_
                    rotate_left
                    ·intro w'
                     go_simp
                     with_reducible rfl
                    rotate_left
                    ·simp only [Act.put, List.setIfInBounds_toArray, List.set_cons_zero, List.set_cons_succ, i64_w, i32_w]
                     rfl
                    refine pure_ (i := 18) (N := some 179) (v := ?_) (a' := ?_) #[true, true, true, true, true, true, true, true, true, true, false, true, false, false, false, false, true, false, true, false, false, false, false, false] rfl rfl (any_of HT_.out (by kernel_rfl)) (fun _ _ _ h => h) (Or.inl ⟨by rfl, ?_⟩) ?_ ?_
                    rotate_left
                    ·intro w'
                     go_simp
                     with_reducible rfl
                    rotate_left
                    ·simp only [Act.put, List.setIfInBounds_toArray, List.set_cons_zero, List.set_cons_succ, i64_w, i32_w]
                     rfl
                    refine take_ (i := 10) (N := some 171) (v := ?_) (a' := ?_) #[true, true, true, true, true, true, true, true, true, true, true, true, false, false, false, false, true, false, true, false, false, false, false, false] rfl rfl (take_ofW HT_.out HW_.out (by kernel_rfl)) (fun _ _ _ h => h) (Or.inl ⟨by rfl, ?_⟩) hHeld ?_ ?_
                    rotate_left
                    ·rintro w' ⟨s0, s1, s2, s3, s4, s5, s6, s7, s8, s9⟩
                     go_simp
                     with_reducible rfl
                    rotate_left
                    ·simp only [Act.put, List.setIfInBounds_toArray, List.set_cons_zero, List.set_cons_succ, i64_w, i32_w]
                     rfl
                    refine take_ (i := 12) (N := some 173) (v := ?_) (a' := ?_) #[true, true, true, true, true, true, true, true, true, true, true, true, true, false, false, false, true, false, true, false, false, false, false, false] rfl rfl (take_ofW HT_.out HW_.out (by kernel_rfl)) (fun _ _ _ h => h) (Or.inl ⟨by rfl, ?_⟩) hHeld ?_ ?_
                    rotate_left
                    ·rintro w' ⟨s0, s1, s2, s3, s4, s5, s6, s7, s8, s9⟩
                     go_simp
                     with_reducible rfl
                    rotate_left
                    ·simp only [Act.put, List.setIfInBounds_toArray, List.set_cons_zero, List.set_cons_succ, i64_w, i32_w]
                     rfl
                    refine pure_ (i := 13) (N := some 174) (v := ?_) (a' := ?_) #[true, true, true, true, true, true, true, true, true, true, true, true, true, true, false, false, true, false, true, false, false, false, false, false] rfl rfl (any_of HT_.out (by kernel_rfl)) (fun _ _ _ h => h) (Or.inl ⟨by rfl, ?_⟩) ?_ ?_
                    rotate_left
                    ·intro w'
                     go_simp
                     with_reducible rfl
                    rotate_left
                    ·simp only [Act.put, List.setIfInBounds_toArray, List.set_cons_zero, List.set_cons_succ, i64_w, i32_w]
                     rfl
                    refine pure_ (i := 14) (N := some 175) (v := ?_) (a' := ?_) #[true, true, true, true, true, true, true, true, true, true, true, true, true, true, true, false, true, false, true, false, false, false, false, false] rfl rfl (any_of HT_.out (by kernel_rfl)) (fun _ _ _ h => h) (Or.inl ⟨by rfl, ?_⟩) ?_ ?_
                    rotate_left
                    ·intro w'
                     go_simp
                     with_reducible rfl
                    rotate_left
                    ·simp only [Act.put, List.setIfInBounds_toArray, List.set_cons_zero, List.set_cons_succ, i64_w, i32_w]
                     rfl
                    refine take_ (i := 15) (N := some 176) (v := ?_) (a' := ?_) #[true, true, true, true, true, true, true, true, true, true, true, true, true, true, true, true, true, false, true, false, false, false, false, false] rfl rfl (take_ofW HT_.out HW_.out (by kernel_rfl)) (fun _ _ _ h => h) (Or.inl ⟨by rfl, ?_⟩) hHeld ?_ ?_
                    rotate_left
                    ·rintro w' ⟨s0, s1, s2, s3, s4, s5, s6, s7, s8, s9⟩
                     go_simp
                     with_reducible rfl
                    rotate_left
                    ·simp only [Act.put, List.setIfInBounds_toArray, List.set_cons_zero, List.set_cons_succ, i64_w, i32_w]
                     rfl
                    refine take_ (i := 17) (N := some 178) (v := ?_) (a' := ?_) #[true, true, true, true, true, true, true, true, true, true, true, true, true, true, true, true, true, true, true, false, false, false, false, false] rfl rfl (take_ofW HT_.out HW_.out (by kernel_rfl)) (fun _ _ _ h => h) (Or.inl ⟨by rfl, ?_⟩) hHeld ?_ ?_
                    rotate_left
                    ·rintro w' ⟨s0, s1, s2, s3, s4, s5, s6, s7, s8, s9⟩
                     go_simp
                     with_reducible rfl
                    rotate_left
                    ·simp only [Act.put, List.setIfInBounds_toArray, List.set_cons_zero, List.set_cons_succ, i64_w, i32_w]
                     rfl
                    refine pure_ (i := 19) (N := some 180) (v := ?_) (a' := ?_) #[true, true, true, true, true, true, true, true, true, true, true, true, true, true, true, true, true, true, true, true, false, false, false, false] rfl rfl (any_of HT_.out (by kernel_rfl)) (fun _ _ _ h => h) (Or.inl ⟨by rfl, ?_⟩) ?_ ?_
                    rotate_left
                    ·intro w'
                     go_simp
                     with_reducible rfl
                    rotate_left
                    ·simp only [Act.put, List.setIfInBounds_toArray, List.set_cons_zero, List.set_cons_succ, i64_w, i32_w]
                     rfl
                    refine take_ (i := 20) (N := some 181) (v := ?_) (a' := ?_) #[true, true, true, true, true, true, true, true, true, true, true, true, true, true, true, true, true, true, true, true, true, false, false, false] rfl rfl (take_ofW HT_.out HW_.out (by kernel_rfl)) (fun _ _ _ h => h) (Or.inl ⟨by rfl, ?_⟩) hHeld ?_ ?_
                    rotate_left
                    ·rintro w' ⟨s0, s1, s2, s3, s4, s5, s6, s7, s8, s9⟩
                     go_simp
                     with_reducible rfl
                    rotate_left
                    ·simp only [Act.put, List.setIfInBounds_toArray, List.set_cons_zero, List.set_cons_succ, i64_w, i32_w]
                     rfl
                    refine one_ (i := 21) (N := some 182) #[true, true, true, true, true, true, true, true, true, true, true, true, true, true, true, true, true, true, true, true, true, true, false, false] rfl rfl (one_of HT_.out (by kernel_rfl)) (by decide) (fun K hK => ?_)
                    refine goes_ Try.func12 (by kernel_rfl) rfl #[.agg #[.int .i64 ((rd_T31 t344 (l0_1.length : Int)).f0), .slice A356_1 ((rd_T31 t344 (l0_1.length : Int)).f1).length c356_1], .agg #[.int .i64 ((rd_T31 l0_1 ji26).f0), .slice A357_1 ((rd_T31 l0_1 ji26).f1).length c357_1]] (by rfl) rfl rfl (by (try simp only [List.map_toArray, List.map_cons, List.map_nil]); first | done | (simp only [hji26]; rfl) | rfl | (simp only [List.length_drop, List.length_take]; rfl)) ?_
                    with_reducible refine (squelchref21_SameGram.calls ((rd_T31 t344 (l0_1.length : Int)).f0) _ _ ((rd_T31 t344 (l0_1.length : Int)).f1) ((rd_T31 l0_1 ji26).f0) _ _ ((rd_T31 l0_1 ji26).f1) true _ ?side1 ?side2 ?side3 ?side4 A111.out).mono ?_
                    (case side1 => repeat (first | exact (by repeat (first | (with_reducible exact HR356_1.out) | (with_reducible refine Kd.C_alloc ?_ _) | (with_reducible refine Kd.C_drewN ?_ _) | (with_reducible refine Kd.C_drew ?_) | exact HR356_1.out)) | (with_reducible refine Kd.C_alloc ?_ _) | (with_reducible refine Kd.C_drewN ?_ _) | (with_reducible refine Kd.C_drew ?_)))
                    (case side2 => exact HC356_1.out)
                    (case side3 => repeat (first | exact (by repeat (first | (with_reducible exact HR357_1.out) | (with_reducible refine Kd.C_alloc ?_ _) | (with_reducible refine Kd.C_drewN ?_ _) | (with_reducible refine Kd.C_drew ?_) | exact HR357_1.out)) | (with_reducible refine Kd.C_alloc ?_ _) | (with_reducible refine Kd.C_drewN ?_ _) | (with_reducible refine Kd.C_drew ?_)))
                    (case side4 => exact HC357_1.out)
                    rintro e w125 ⟨rfl, hb⟩
                    have HS6_ := (hb.cell (World.block_lt_of_cell? _ _ (hHeld.2.2.2.2.2.2.1))).trans (hHeld.2.2.2.2.2.2.1)
                    have HS7_ := (hb.cell (World.block_lt_of_cell? _ _ (hHeld.2.2.2.2.2.2.2.1))).trans (hHeld.2.2.2.2.2.2.2.1)
                    have HS8_ := (hb.cell (World.block_lt_of_cell? _ _ (hHeld.2.2.2.2.2.2.2.2.1))).trans (hHeld.2.2.2.2.2.2.2.2.1)
                    have HS9_ := (hb.cell (World.block_lt_of_cell? _ _ (hHeld.2.2.2.2.2.2.2.2.2))).trans (hHeld.2.2.2.2.2.2.2.2.2)
                    refine ⟨_, rfl, ?_⟩
                    have n0_ := Aside0.mk (Kd.V_below (by (with_reducible repeat (first | apply Kd.V_alloc | apply Kd.V_drewN | apply Kd.V_drew)); exact HO_312001.out) hb)
                    have n1_ := Aside0.mk (Kd.S_below (by (with_reducible repeat (first | apply Kd.S_alloc | apply Kd.S_drewN | apply Kd.S_drew)); exact HO346.out) hb)
                    have n2_ := Aside0.mk (Kd.S_below (by (with_reducible repeat (first | apply Kd.S_alloc | apply Kd.S_drewN | apply Kd.S_drew)); exact HO352.out) hb)
                    have n3_ := Aside0.mk (Kd.R_below (by (with_reducible repeat (first | apply Kd.R_alloc | apply Kd.R_drewN | apply Kd.R_drew)); exact HL356_1.out) hb)
                    have n4_ := Aside0.mk (Kd.V_below (by (with_reducible repeat (first | apply Kd.V_alloc | apply Kd.V_drewN | apply Kd.V_drew)); exact HL357_1.out) hb)
                    have n5_ := Aside0.mk (blk_below (g := gb311) (o := .cells #[.int .i64 a0_0, .slice (some ad315) l0_1.length c0_1] 24 (0, 0)) (by (with_reducible repeat (first | refine blk_drewN ?_ _ | refine blk_drew ?_ | refine blk_alloc ?_ _)); exact BK311.out) hb)
                    have n6_ := Aside0.mk (blk_below (g := gb348) (o := .cells #[.int .i64 t343, .slice (some ad356) t344.length co101] 24 (0, 0)) (by (with_reducible repeat (first | refine blk_drewN ?_ _ | refine blk_drew ?_ | refine blk_alloc ?_ _)); exact BK348.out) hb)
                    have n7_ := Aside0.mk (blk_below (g := gb354) (o := .cells #[.int .i64 t349, .slice Ao121 t350.length co121] 24 (0, 0)) (by (with_reducible repeat (first | refine blk_drewN ?_ _ | refine blk_drew ?_ | refine blk_alloc ?_ _)); exact BK354.out) hb)
                    have n8_ := Aside0.mk (Kd.C_below (by repeat (first | (with_reducible exact HR356_1.out) | (with_reducible refine Kd.C_alloc ?_ _) | (with_reducible refine Kd.C_drewN ?_ _) | (with_reducible refine Kd.C_drew ?_) | exact HR356_1.out)) hb)
                    have n9_ := Aside0.mk (Kd.C_below (by repeat (first | (with_reducible exact HR357_1.out) | (with_reducible refine Kd.C_alloc ?_ _) | (with_reducible refine Kd.C_drewN ?_ _) | (with_reducible refine Kd.C_drew ?_) | exact HR357_1.out)) hb)
                    have n10_ := Aside0.mk (below_step (by repeat (first | (with_reducible first | exact HB.out | apply below_alloc | apply pw_below_drewN | apply below_drew1 | refine below_set ?_ GE311.out | refine below_set ?_ GE348.out | refine below_set ?_ GE354.out) | exact HB.out)) hb)
                    clear HO_312001
                    clear HO346
                    clear HO352
                    clear HL356_1
                    clear HL357_1
                    clear BK311
                    clear BK348
                    clear BK354
                    clear HR356_1
                    clear HR357_1
                    clear HB
                    have HO_312001 := n0_
                    have HO346 := n1_
                    have HO352 := n2_
                    have HL356_1 := n3_
                    have HL357_1 := n4_
                    have BK311 := n5_
                    have BK348 := n6_
                    have BK354 := n7_
                    have HR356_1 := n8_
                    have HR357_1 := n9_
                    have HB := n10_
                    clear n0_ n1_ n2_ n3_ n4_ n5_ n6_ n7_ n8_ n9_ n10_
                    (try clear hb)
                    (try clear hb2)
                    (try clear hk)
                    (try clear hi)
                    refine hK.out _ _ ⟨(blk_cell BK354.out 0).trans rfl, (blk_cell BK354.out 1).trans rfl, (blk_cell BK311.out 0).trans rfl, (blk_cell BK311.out 1).trans rfl, (blk_cell BK348.out 0).trans rfl, (blk_cell BK348.out 1).trans rfl, HS6_, HS7_, HS8_, HS9_⟩ (fun hHeld => ?_)
                    clear hK K
                    refine norm_ (a' := ?_) ?_ ?_
                    rotate_left
                    ·show Act.put _ (some 182) _ = _
                     simp only [Act.put, List.setIfInBounds_toArray, List.set_cons_zero, List.set_cons_succ, i64_w, i32_w]
                     rfl
                    refine pure_ (i := 22) (N := some 183) (v := ?_) (a' := ?_) #[true, true, true, true, true, true, true, true, true, true, true, true, true, true, true, true, true, true, true, true, true, true, true, false] rfl rfl (any_of HT_.out (by kernel_rfl)) (fun _ _ _ h => h) (Or.inl ⟨by rfl, ?_⟩) ?_ ?_
                    rotate_left
                    ·intro w'
                     go_simp
                     with_reducible rfl
                    rotate_left
                    ·simp only [Act.put, List.setIfInBounds_toArray, List.set_cons_zero, List.set_cons_succ, i64_w, i32_w]
                     rfl
                    refine pure_ (i := 23) (N := some 184) (v := ?_) (a' := ?_) #[true, true, true, true, true, true, true, true, true, true, true, true, true, true, true, true, true, true, true, true, true, true, true, true] rfl rfl (any_of HT_.out (by kernel_rfl)) (fun _ _ _ h => h) (Or.inl ⟨by rfl, ?_⟩) ?_ ?_
                    rotate_left
                    ·intro w'
                     go_simp
                     with_reducible rfl
                    rotate_left
                    ·simp only [Act.put, List.setIfInBounds_toArray, List.set_cons_zero, List.set_cons_succ, i64_w, i32_w]
                     rfl
                    refine done_ (done_of HT_.out (by kernel_rfl)) ?_
                    try go_wp2
                    go_meet
                    case rel => exact ⟨_, H', ⟨by have := HJ5.out; have := HJ33.out; first | omega | exact Nat.le_refl _⟩, ⟨by (with_reducible repeat (first | apply Kd.V_alloc | apply Kd.V_drewN | apply Kd.V_drew)); exact Kd.V_mono HO_312001.out (fun _ hk => ⟨hk.1, hk.2.2.2.1⟩)⟩, ⟨by (with_reducible repeat (first | refine blk_drewN ?_ _ | refine blk_drew ?_ | refine blk_alloc ?_ _)); exact BK311.out⟩, ⟨by repeat (first | (with_reducible first | exact HB.out | apply below_alloc | apply pw_below_drewN | apply below_drew1 | refine below_set ?_ GE311.out | refine below_set ?_ GE348.out | refine below_set ?_ GE354.out) | exact HB.out)⟩⟩
                   ·replace c112 := Bool.eq_false_iff.mpr c112
                    subst c112
                    have H1 : (some false) = some r := by rw [if_neg (show ¬ (false = true) by decide)] at H; exact H
                    clear H
                    have H := H1
                    clear H1
                    obtain rfl := Option.some.inj H
                    exact absurd HR_.out (by simp)
                  ·rw [if_neg c110] at H
                   exact absurd H (by simp)
                 ·rw [if_neg c109] at H
                  exact absurd H (by simp)
                ·rw [if_neg c108] at H
                 exact absurd H (by simp)
               ·rw [if_neg c107] at H
                exact absurd H (by simp)
              ·replace c106 := Bool.eq_false_iff.mpr c106
               subst c106
               have H1 : (some false) = some r := by rw [if_neg (show ¬ (false = true) by decide)] at H; exact H
               clear H
               have H := H1
               clear H1
               obtain rfl := Option.some.inj H
               exact absurd HR_.out (by simp)
             ·rw [if_neg c104] at H
              have c104b0 : (t353 == 0) = false := beq_eq_false_iff_ne.mpr c104
              have c104b1 : (t353 != 0) = true := bne_iff_ne.mpr c104
              obtain rfl := Option.some.inj H
              exact absurd HR_.out (by simp)
            ·rw [if_neg c102] at H
             have c102b0 : (t347 == 0) = false := beq_eq_false_iff_ne.mpr c102
             have c102b1 : (t347 != 0) = true := bne_iff_ne.mpr c102
             (first | rw [c102b0] | (simp only [i64_w, i32_w]; rw [c102b0]) | skip)
             by_cases c126 : t347 = 2
             ·rw [if_pos c126] at H
              have c126b0 : (t347 == 2) = true := beq_iff_eq.mpr c126
              have c126b1 : (t347 != 2) = false := bne_eq_false_iff_eq.mpr c126
              clear c126
              by_cases c127 : (l0_1.length : Int) < a0_0
              ·rw [if_pos c127] at H
               have c127b0 : decide ((l0_1.length : Int) < a0_0) = true := decide_eq_true c127
               clear c127
               obtain rfl := Option.some.inj H
               exact absurd HR_.out (by simp)
              ·rw [if_neg c127] at H
               have c127b0 : decide ((l0_1.length : Int) < a0_0) = false := decide_eq_false c127
               clear c127
               have H' := Aside0.mk H
               clear H
               have hnb128 := NB311_348.out
               have hnc128 := NB348_311.out
               have hcz129_0 : w98.cell? ⟨gb311, 0, none⟩ = some (.int .i64 a0_0) := (blk_cell BK311.out 0).trans rfl
               have hcz129_1 : w98.cell? ⟨gb311, 1, none⟩ = some (.slice (some ad315) l0_1.length c0_1) := (blk_cell BK311.out 1).trans rfl
               have hfz129_0 := blk_frozen BK311.out 0
               have hfz129_1 := blk_frozen BK311.out 1
               go_wp2
               go_meet
               case rel => exact ⟨_, H', ⟨by have := HJ5.out; have := HJ33.out; first | omega | exact Nat.le_refl _⟩, ⟨by (with_reducible repeat (first | apply Kd.V_alloc | apply Kd.V_drewN | apply Kd.V_drew)); exact Kd.V_mono (Kd.V_far (p := ⟨gb348, 1, none⟩) (Kd.V_far (p := ⟨gb348, 0, none⟩) (Kd.V_mono HO_312001.out (fun k_ hk => (⟨hk, hk.2⟩ : _ ∧ k_ ≠ gb348))) (fun _ hk => hk.2) (.int .i64 t343)) (fun _ hk => hk.2) (.slice Ao101 t344.length co101)) (fun _ hk => ⟨hk.1.1.1.1, hk.1.1.1.2⟩)⟩, ⟨by (with_reducible repeat (first | refine blk_drewN ?_ _ | refine blk_drew ?_ | refine blk_alloc ?_ _)); refine blk_far ?_ NB311_348.out _; (with_reducible repeat (first | refine blk_drewN ?_ _ | refine blk_drew ?_ | refine blk_alloc ?_ _)); refine blk_far ?_ NB311_348.out _; (with_reducible repeat (first | refine blk_drewN ?_ _ | refine blk_drew ?_ | refine blk_alloc ?_ _)); exact BK311.out⟩, ⟨by repeat (first | (with_reducible first | exact HB.out | apply below_alloc | apply pw_below_drewN | apply below_drew1 | refine below_set ?_ GE311.out | refine below_set ?_ GE348.out) | exact HB.out)⟩⟩
             ·rw [if_neg c126] at H
              have c126b0 : (t347 == 2) = false := beq_eq_false_iff_ne.mpr c126
              have c126b1 : (t347 != 2) = true := bne_iff_ne.mpr c126
              obtain rfl := Option.some.inj H
              exact absurd HR_.out (by simp)
           case rest =>
            clear HC95
            try clear c1
            try clear c2
            try clear p2
            try clear c3
            try clear p3
            try clear q3
            try clear hx3
            try clear c9
            try clear c10
            try clear c11
            try clear c12
            try clear c18
            try clear c19
            try clear c20
            try clear p31
            try clear q31
            try clear hx31
            try clear c35
            try clear p35
            try clear q35
            try clear hx35
            try clear c93
            try clear c99
            try clear c102
            try clear c102b0
            try clear c102b1
            try clear c104
            try clear c104b0
            try clear c104b1
            try clear c106
            try clear c107
            try clear c107b0
            try clear c107b1
            try clear c108
            try clear c108b0
            try clear c108b1
            try clear c109
            try clear c109b0
            try clear c110
            try clear c110b0
            try clear c112
            try clear c113
            try clear c118
            try clear c119
            try clear c126
            try clear c126b0
            try clear c126b1
            try clear c127
            try clear c127b0
            try clear c128
            try clear hcz100_0
            try clear hcz100_1
            try clear hcz114_0
            try clear hcz114_1
            try clear hcz115_0
            try clear hcz115_1
            try clear hcz120_0
            try clear hcz120_1
            try clear hcz129_0
            try clear hcz129_1
            try clear hcz55_0
            try clear hcz55_1
            try clear hcz63_0
            try clear hcz63_1
            try clear hcz78_0
            try clear hcz78_1
            try clear hcz82_0
            try clear hcz82_1
            try clear hcz86_0
            try clear hcz86_1
            try clear hcz87_0
            try clear hcz87_1
            try clear hcz90_0
            try clear hcz90_1
            try clear hcz91_0
            try clear hcz91_1
            try clear hcz96_0
            try clear hcz96_1
            try clear hfz100_0
            try clear hfz100_1
            try clear hfz114_0
            try clear hfz114_1
            try clear hfz115_0
            try clear hfz115_1
            try clear hfz120_0
            try clear hfz120_1
            try clear hfz129_0
            try clear hfz129_1
            try clear hfz13_0
            try clear hfz13_1
            try clear hfz15_0
            try clear hfz15_1
            try clear hfz17_0
            try clear hfz17_1
            try clear hfz18_0
            try clear hfz18_1
            try clear hfz20_0
            try clear hfz20_1
            try clear hfz22_0
            try clear hfz22_1
            try clear hfz37_0
            try clear hfz37_1
            try clear hfz41_0
            try clear hfz41_1
            try clear hfz47_0
            try clear hfz47_1
            try clear hfz49_0
            try clear hfz49_1
            try clear hfz55_0
            try clear hfz55_1
            try clear hfz63_0
            try clear hfz63_1
            try clear hfz78_0
            try clear hfz78_1
            try clear hfz82_0
            try clear hfz82_1
            try clear hfz86_0
            try clear hfz86_1
            try clear hfz87_0
            try clear hfz87_1
            try clear hfz90_0
            try clear hfz90_1
            try clear hfz91_0
            try clear hfz91_1
            try clear hfz96_0
            try clear hfz96_1
            try clear hx315_0
            try clear hx315_1
            try clear hx356_0
            try clear hx356_1
            try clear hx357_0
            try clear hx357_1
            try clear p2
            try clear p315
            try clear p356
            try clear p357
            try clear q315
            try clear q356
            try clear q357
            obtain ⟨kq, HA, HJ94, HO_312001, BK311, HB⟩ := hcut
            cases kq with
            | zero => exact absurd HA.out (by simp [squelchlaw21_PoolBack.j2])
            | succ kj94 =>
             have H := HA.out
             clear HA
             simp only [squelchlaw21_PoolBack.j2] at H
             have H' := Aside0.mk H
             clear H
             have hcz130_0 : wc.cell? ⟨gb311, 0, none⟩ = some (.int .i64 a0_0) := (blk_cell BK311.out 0).trans rfl
             have hcz130_1 : wc.cell? ⟨gb311, 1, none⟩ = some (.slice (some ad315) l0_1.length c0_1) := (blk_cell BK311.out 1).trans rfl
             have hfz130_0 := blk_frozen BK311.out 0
             have hfz130_1 := blk_frozen BK311.out 1
             go_wp2_with (first | ((with_reducible refine gate_dst (N := 23) rfl ?_); (try (refine gate_guard (by rfl) ?_; dsimp only)); refine box_event ?hg (N := 23) ?hd (cs := #[.int .i64 0, .slice none 0 0]) (t := 24) ?hr ?_; (case hd => rfl); (case hg => rfl); (case hr => first | (go_simp; done) | (go_simp; rfl)); intro gb359 hg w131 hbox hb; have n0_ := Aside0.mk (Kd.V_below (Kd.V_elderB (by (with_reducible repeat (first | apply Kd.V_alloc | apply Kd.V_drewN | apply Kd.V_drew)); exact HO_312001.out) gb359 (Nat.le_of_eq hg.symm)) hb); have n1_ := Aside0.mk (blk_below (g := gb311) (o := .cells #[.int .i64 a0_0, .slice (some ad315) l0_1.length c0_1] 24 (0, 0)) (by (with_reducible repeat (first | refine blk_drewN ?_ _ | refine blk_drew ?_ | refine blk_alloc ?_ _)); exact BK311.out) hb); have n2_ := Aside0.mk (below_step (by repeat (first | (with_reducible first | exact HB.out | apply below_alloc | apply pw_below_drewN | apply below_drew1 | refine below_set ?_ GE311.out) | exact HB.out)) hb); have n3_ := Aside0.mk (hbox); have n4_ := Aside0.mk ((by rw [hg]; exact (below_size (by repeat (first | (with_reducible first | exact HB.out | apply below_alloc | apply pw_below_drewN | apply below_drew1 | refine below_set ?_ GE311.out) | exact HB.out))) : w.heap.size ≤ gb359)); have n5_ := Aside0.mk ((by rw [hg]; exact (below_size (by repeat (first | (with_reducible first | exact HB.out | apply below_alloc | apply pw_below_drewN | apply below_drew1 | refine below_set ?_ GE311.out) | exact HB.out))) : w.heap.size ≤ gb359)); have n6_ := Aside0.mk ((by rw [hg]; exact Nat.ne_of_lt (blk_lt (g := gb311) (o := .cells #[.int .i64 a0_0, .slice (some ad315) l0_1.length c0_1] 24 (0, 0)) (by (with_reducible repeat (first | refine blk_drewN ?_ _ | refine blk_drew ?_ | refine blk_alloc ?_ _)); exact BK311.out)) : gb311 ≠ gb359)); have n7_ := Aside0.mk ((by rw [hg]; exact Nat.ne_of_gt (blk_lt (g := gb311) (o := .cells #[.int .i64 a0_0, .slice (some ad315) l0_1.length c0_1] 24 (0, 0)) (by (with_reducible repeat (first | refine blk_drewN ?_ _ | refine blk_drew ?_ | refine blk_alloc ?_ _)); exact BK311.out)) : gb359 ≠ gb311)); clear HO_312001; clear BK311; clear HB; have HO_312001 := n0_; have BK311 := n1_; have HB := n2_; have BK359 := n3_; have GW359 := n4_; have GE359 := n5_; have NB311_359 := n6_; have NB359_311 := n7_; clear n0_ n1_ n2_ n3_ n4_ n5_ n6_ n7_; clear hb hbox hg; have hnb132 := NB359_311.out; have hnc132 := NB311_359.out; have hcz133_0 : w131.cell? ⟨gb359, 0, none⟩ = some (.int .i64 0) := (blk_cell BK359.out 0).trans rfl; have hcz133_1 : w131.cell? ⟨gb359, 1, none⟩ = some (.slice none 0 0) := (blk_cell BK359.out 1).trans rfl; have hfz133_0 := blk_frozen BK359.out 0; have hfz133_1 := blk_frozen BK359.out 1; have hcz134_0 : w131.cell? ⟨gb311, 0, none⟩ = some (.int .i64 a0_0) := (blk_cell BK311.out 0).trans rfl; have hcz134_1 : w131.cell? ⟨gb311, 1, none⟩ = some (.slice (some ad315) l0_1.length c0_1) := (blk_cell BK311.out 1).trans rfl; have hfz134_0 := blk_frozen BK311.out 0; have hfz134_1 := blk_frozen BK311.out 1))
             (try simp only [Act.put, List.setIfInBounds_toArray, List.set_cons_zero, List.set_cons_succ])
             go_loopg [199] kj94 (fun kq v199 w' => ∃ (x199_4 : Int) (x360000_4 : Int) (x360001_4 : List (S31)) (u360001 : Value), v199 = .int .i64 x199_4 ∧ Aside0 (squelchlaw21_PoolBack.l0 kq t312 l0_1 (l0_1.length : Int) x199_4 x360000_4 x360001_4 = some r) ∧ Aside0 (kq ≤ kj94) ∧ Aside0 (Kd.V k31 31 w' w.heap.size (fun k_ => (P0_1_ k_ ∨ w.heap.size ≤ k_) ∧ k_ ≠ gb359) (.slice (some ad315) l0_1.length c0_1) l0_1) ∧ Aside0 (Kd.V k31 31 w' w.heap.size (fun k_ => (P0_1_ k_ ∨ w.heap.size ≤ k_) ∧ k_ ≠ gb359) u360001 x360001_4) ∧ Aside0 (w'.heap[gb359]? = some (.cells #[.int .i64 x360000_4, u360001] 24 (0, 0))) ∧ Aside0 (Below w.heap.size w w'))
             case atStart => exact ⟨(0), (a0_0), (l0_1), (.slice (some ad315) l0_1.length c0_1), (by first | rfl | (simp; done) | (simp [*]; done)), H', ⟨Nat.le_refl _⟩, ⟨by (with_reducible repeat (first | apply Kd.V_alloc | apply Kd.V_drewN | apply Kd.V_drew)); exact Kd.V_mono (Kd.V_far (p := ⟨gb359, 1, none⟩) (Kd.V_far (p := ⟨gb359, 0, none⟩) (Kd.V_mono HO_312001.out (fun k_ hk => (⟨hk, hk.2⟩ : _ ∧ k_ ≠ gb359))) (fun _ hk => hk.2) (.int .i64 a0_0)) (fun _ hk => hk.2) (.slice (some ad315) l0_1.length c0_1)) (fun _ hk => ⟨hk.1.1.1, hk.1.2⟩)⟩, ⟨by (with_reducible repeat (first | apply Kd.V_alloc | apply Kd.V_drewN | apply Kd.V_drew)); exact Kd.V_mono (Kd.V_far (p := ⟨gb359, 1, none⟩) (Kd.V_far (p := ⟨gb359, 0, none⟩) (Kd.V_mono HO_312001.out (fun k_ hk => (⟨hk, hk.2⟩ : _ ∧ k_ ≠ gb359))) (fun _ hk => hk.2) (.int .i64 a0_0)) (fun _ hk => hk.2) (.slice (some ad315) l0_1.length c0_1)) (fun _ hk => ⟨hk.1.1.1, hk.1.2⟩)⟩, ⟨by (with_reducible repeat (first | refine blk_drewN ?_ _ | refine blk_drew ?_ | refine blk_alloc ?_ _)); refine blk_put (cs := #[.int .i64 a0_0, .slice none 0 0]) ?_ 1 _ rfl; (with_reducible repeat (first | refine blk_drewN ?_ _ | refine blk_drew ?_ | refine blk_alloc ?_ _)); refine blk_put (cs := #[.int .i64 0, .slice none 0 0]) ?_ 0 _ rfl; (with_reducible repeat (first | refine blk_drewN ?_ _ | refine blk_drew ?_ | refine blk_alloc ?_ _)); exact BK359.out⟩, ⟨by repeat (first | (with_reducible first | exact HB.out | apply below_alloc | apply pw_below_drewN | apply below_drew1 | refine below_set ?_ GE311.out | refine below_set ?_ GE359.out) | exact HB.out)⟩⟩
             case round =>
              clear H'
              try clear c1
              try clear c2
              try clear p2
              try clear c3
              try clear p3
              try clear q3
              try clear hx3
              try clear c9
              try clear c10
              try clear c11
              try clear c12
              try clear c13
              try clear c18
              try clear c19
              try clear c20
              try clear p31
              try clear q31
              try clear hx31
              try clear c35
              try clear p35
              try clear q35
              try clear hx35
              try clear c93
              try clear c99
              try clear c102
              try clear c102b0
              try clear c102b1
              try clear c104
              try clear c104b0
              try clear c104b1
              try clear c106
              try clear c107
              try clear c107b0
              try clear c107b1
              try clear c108
              try clear c108b0
              try clear c108b1
              try clear c109
              try clear c109b0
              try clear c110
              try clear c110b0
              try clear c112
              try clear c113
              try clear c118
              try clear c119
              try clear c126
              try clear c126b0
              try clear c126b1
              try clear c127
              try clear c127b0
              try clear c128
              try clear c132
              try clear hcz100_0
              try clear hcz100_1
              try clear hcz114_0
              try clear hcz114_1
              try clear hcz115_0
              try clear hcz115_1
              try clear hcz120_0
              try clear hcz120_1
              try clear hcz129_0
              try clear hcz129_1
              try clear hcz130_0
              try clear hcz130_1
              try clear hcz133_0
              try clear hcz133_1
              try clear hcz134_0
              try clear hcz134_1
              try clear hcz55_0
              try clear hcz55_1
              try clear hcz63_0
              try clear hcz63_1
              try clear hcz78_0
              try clear hcz78_1
              try clear hcz82_0
              try clear hcz82_1
              try clear hcz86_0
              try clear hcz86_1
              try clear hcz87_0
              try clear hcz87_1
              try clear hcz90_0
              try clear hcz90_1
              try clear hcz91_0
              try clear hcz91_1
              try clear hcz96_0
              try clear hcz96_1
              try clear hfz100_0
              try clear hfz100_1
              try clear hfz114_0
              try clear hfz114_1
              try clear hfz115_0
              try clear hfz115_1
              try clear hfz120_0
              try clear hfz120_1
              try clear hfz129_0
              try clear hfz129_1
              try clear hfz130_0
              try clear hfz130_1
              try clear hfz133_0
              try clear hfz133_1
              try clear hfz134_0
              try clear hfz134_1
              try clear hfz13_0
              try clear hfz13_1
              try clear hfz15_0
              try clear hfz15_1
              try clear hfz17_0
              try clear hfz17_1
              try clear hfz18_0
              try clear hfz18_1
              try clear hfz20_0
              try clear hfz20_1
              try clear hfz22_0
              try clear hfz22_1
              try clear hfz37_0
              try clear hfz37_1
              try clear hfz41_0
              try clear hfz41_1
              try clear hfz47_0
              try clear hfz47_1
              try clear hfz49_0
              try clear hfz49_1
              try clear hfz55_0
              try clear hfz55_1
              try clear hfz63_0
              try clear hfz63_1
              try clear hfz78_0
              try clear hfz78_1
              try clear hfz82_0
              try clear hfz82_1
              try clear hfz86_0
              try clear hfz86_1
              try clear hfz87_0
              try clear hfz87_1
              try clear hfz90_0
              try clear hfz90_1
              try clear hfz91_0
              try clear hfz91_1
              try clear hfz96_0
              try clear hfz96_1
              try clear hx315_0
              try clear hx315_1
              try clear hx356_0
              try clear hx356_1
              try clear hx357_0
              try clear hx357_1
              try clear p2
              try clear p3
              try clear p31
              try clear p315
              try clear p35
              try clear p356
              try clear p357
              try clear q3
              try clear q31
              try clear q315
              try clear q35
              try clear q356
              try clear q357
              obtain ⟨x199_4, x360000_4, x360001_4, u360001, rfl, HA, HK4, HO_197, HO_360001, BK359, HB⟩ := hrel
              cases gk with
              | zero => exact absurd HA.out (by simp [squelchlaw21_PoolBack.l0])
              | succ k4 =>
               have H := HA.out
               clear HA
               simp only [squelchlaw21_PoolBack.l0] at H
               by_cases c135 : x199_4 < (l0_1.length : Int)
               ·rw [if_pos c135] at H
                have c135b0 : decide (x199_4 < (l0_1.length : Int)) = true := decide_eq_true c135
                clear c135
                by_cases c136 : 0 ≤ x199_4
                ·rw [if_pos c136] at H
                 have c136b0 : decide (0 ≤ x199_4) = true := decide_eq_true c136
                 clear c136
                 by_cases c137 : x199_4 < (l0_1.length : Int)
                 ·rw [if_pos c137] at H
                  have c137b0 : decide (x199_4 < (l0_1.length : Int)) = true := decide_eq_true c137
                  clear c137
                  replace H := Option.bind_eq_some_iff.mp H
                  obtain ⟨⟨t362, t363, t366, t367, t370⟩, A1380, H⟩ := H
                  replace H : (if t370 = 0 then ((squelchref21_SameGram.f t366 t367 ((rd_T31 l0_1 x199_4).f0) ((rd_T31 l0_1 x199_4).f1)).bind fun t373 => (if t373 = true then (squelchlaw21_PoolBack.l0 k4 t312 l0_1 (l0_1.length : Int) (wrap64 (x199_4 + 1)) t362 t363) else (some false))) else (some false)) = some r := H
                  have A138 := Aside0.mk A1380
                  clear A1380
                  by_cases c139 : t370 = 0
                  ·rw [if_pos c139] at H
                   have c139b0 : (t370 == 0) = true := beq_iff_eq.mpr c139
                   have c139b1 : (t370 != 0) = false := bne_eq_false_iff_eq.mpr c139
                   clear c139
                   replace H := Option.bind_eq_some_iff.mp H
                   obtain ⟨t373, A1400, H⟩ := H
                   replace H : (if t373 = true then (squelchlaw21_PoolBack.l0 k4 t312 l0_1 (l0_1.length : Int) (wrap64 (x199_4 + 1)) t362 t363) else (some false)) = some r := H
                   have A140 := Aside0.mk A1400
                   clear A1400
                   by_cases c141 : t373 = true
                   ·subst c141
                    have H1 : (squelchlaw21_PoolBack.l0 k4 t312 l0_1 (l0_1.length : Int) (wrap64 (x199_4 + 1)) t362 t363) = some r := by rw [if_pos rfl] at H; exact H
                    clear H
                    have H := H1
                    clear H1
                    have H' := Aside0.mk H
                    clear H
                    have p360 : 0 ≤ (x199_4 : Int) := of_decide_eq_true (by first | (with_reducible assumption) | assumption)
                    have q360 : x199_4 < (l0_1.length : Int) := of_decide_eq_true (by first | (with_reducible assumption) | assumption)
                    obtain ⟨ad360, A360_1, c360_1, e360, hx360_0, hx360_1, hl360_1, hi360_1⟩ := at_T31 (Kd.V_reads' HO_197.out).2.2 x199_4 p360 q360
                    obtain rfl : ad315 = ad360 := (by injection e360)
                    obtain ⟨ce360, hce360, hMe360, hcc360⟩ := Kd.V_get HO_197.out z31 x199_4 p360 (by first | exact q360 | exact of_decide_eq_true (by first | (with_reducible assumption) | assumption) | (have e_ := (Kd.V_reads' HO_197.out).1; omega))
                    obtain ⟨ua360_1, uc360_1, rfl, ul360_1, ge360_1⟩ := k31_openF hMe360
                    have hv360_1 := hcc360 1 _ rfl
                    rw [add_field _ _ 1 (by omega)] at hv360_1
                    replace hv360_1 := Option.some.inj (hv360_1.symm.trans hx360_1)
                    injection hv360_1 with hva_ hvn_ hvc_
                    rw [hva_] at ge360_1
                    rw [hvc_] at ul360_1
                    have HL360_1 := Aside0.mk (show Kd.V (Kd.int .u8) 5 _ w.heap.size _ _ ((rd_T31 l0_1 x199_4).f1) from Kd.V_mk ul360_1 ge360_1)
                    clear hva_ hvn_ hvc_ ge360_1 ul360_1
                    clear hcc360 hce360
                    have HR360_1 := Aside0.mk hi360_1
                    have HC360_1 := Aside0.mk hl360_1
                    clear hi360_1 hl360_1
                    replace p360 := eq_true p360
                    replace q360 := eq_true q360
                    go_wp2_with (first | ((with_reducible refine gate_dst (N := 25) rfl ?_); (try (refine gate_guard (by rfl) ?_; dsimp only)); refine box_event ?hg (N := 25) ?hd (cs := #[.int .i64 0, .slice none 0 0]) (t := 31) ?hr ?_; (case hd => rfl); (case hg => rfl); (case hr => first | (go_simp; done) | (go_simp; rfl)); intro gb361 hg w142 hbox hb; have n0_ := Aside0.mk (Kd.V_below (Kd.V_elderB (by (with_reducible repeat (first | apply Kd.V_alloc | apply Kd.V_drewN | apply Kd.V_drew)); exact HO_197.out) gb361 (Nat.le_of_eq hg.symm)) hb); have n1_ := Aside0.mk (Kd.V_below (Kd.V_elderB (by (with_reducible repeat (first | apply Kd.V_alloc | apply Kd.V_drewN | apply Kd.V_drew)); exact HO_360001.out) gb361 (Nat.le_of_eq hg.symm)) hb); have n2_ := Aside0.mk (Kd.V_below (Kd.V_elderB (by (with_reducible repeat (first | apply Kd.V_alloc | apply Kd.V_drewN | apply Kd.V_drew)); exact HL360_1.out) gb361 (Nat.le_of_eq hg.symm)) hb); have n3_ := Aside0.mk (blk_below (g := gb359) (o := .cells #[.int .i64 x360000_4, u360001] 24 (0, 0)) (by (with_reducible repeat (first | refine blk_drewN ?_ _ | refine blk_drew ?_ | refine blk_alloc ?_ _)); exact BK359.out) hb); have n4_ := Aside0.mk (Kd.C_below (by repeat (first | (with_reducible exact HR360_1.out) | (with_reducible refine Kd.C_alloc ?_ _) | (with_reducible refine Kd.C_drewN ?_ _) | (with_reducible refine Kd.C_drew ?_) | exact HR360_1.out)) hb); have n5_ := Aside0.mk (below_step (by repeat (first | (with_reducible first | exact HB.out | apply below_alloc | apply pw_below_drewN | apply below_drew1 | refine below_set ?_ GE359.out) | exact HB.out)) hb); have n6_ := Aside0.mk (hbox); have n7_ := Aside0.mk ((by rw [hg]; exact (below_size (by repeat (first | (with_reducible first | exact HB.out | apply below_alloc | apply pw_below_drewN | apply below_drew1 | refine below_set ?_ GE359.out) | exact HB.out))) : w.heap.size ≤ gb361)); have n8_ := Aside0.mk ((by rw [hg]; exact (below_size (by repeat (first | (with_reducible first | exact HB.out | apply below_alloc | apply pw_below_drewN | apply below_drew1 | refine below_set ?_ GE359.out) | exact HB.out))) : w.heap.size ≤ gb361)); have n9_ := Aside0.mk ((by rw [hg]; exact Nat.ne_of_lt (blk_lt (g := gb359) (o := .cells #[.int .i64 x360000_4, u360001] 24 (0, 0)) (by (with_reducible repeat (first | refine blk_drewN ?_ _ | refine blk_drew ?_ | refine blk_alloc ?_ _)); exact BK359.out)) : gb359 ≠ gb361)); have n10_ := Aside0.mk ((by rw [hg]; exact Nat.ne_of_gt (blk_lt (g := gb359) (o := .cells #[.int .i64 x360000_4, u360001] 24 (0, 0)) (by (with_reducible repeat (first | refine blk_drewN ?_ _ | refine blk_drew ?_ | refine blk_alloc ?_ _)); exact BK359.out)) : gb361 ≠ gb359)); clear HO_197; clear HO_360001; clear HL360_1; clear BK359; clear HR360_1; clear HB; have HO_197 := n0_; have HO_360001 := n1_; have HL360_1 := n2_; have BK359 := n3_; have HR360_1 := n4_; have HB := n5_; have BK361 := n6_; have GW361 := n7_; have GE361 := n8_; have NB359_361 := n9_; have NB361_359 := n10_; clear n0_ n1_ n2_ n3_ n4_ n5_ n6_ n7_ n8_ n9_ n10_; clear hb hbox hg; have hnb143 := NB361_359.out; have hnc143 := NB359_361.out; have hcz144_0 : w142.cell? ⟨gb361, 0, none⟩ = some (.int .i64 0) := (blk_cell BK361.out 0).trans rfl; have hcz144_1 : w142.cell? ⟨gb361, 1, none⟩ = some (.slice none 0 0) := (blk_cell BK361.out 1).trans rfl; have hfz144_0 := blk_frozen BK361.out 0; have hfz144_1 := blk_frozen BK361.out 1; have hcz145_0 : w142.cell? ⟨gb359, 0, none⟩ = some (.int .i64 x360000_4) := (blk_cell BK359.out 0).trans rfl; have hcz145_1 : w142.cell? ⟨gb359, 1, none⟩ = some (u360001) := (blk_cell BK359.out 1).trans rfl; have hfz145_0 := blk_frozen BK359.out 0; have hfz145_1 := blk_frozen BK359.out 1; obtain ⟨Ao146, co146, eo146⟩ := Kd.V_slice HO_360001.out; subst eo146) | ((with_reducible refine gate_callee (f := 11) rfl ?_); refine goesL_ (some 205) rfl rfl Try.func11 (by kernel_rfl) rfl #[.agg #[.int .i64 x360000_4, .slice Ao146 x360001_4.length co146], .int .i64 0] rfl (by (try simp only [List.map_toArray, List.map_cons, List.map_nil]); first | done | rfl | (simp only [List.length_drop, List.length_take]; rfl)) ?_; (with_reducible refine (pool_Take.calls k4 x360000_4 _ _ x360001_4 0 t362 t363 t366 t367 t370 _ ?side1 ?side2 A138.out).mono ?_); (case side1 => refine (Kd.V_reads' (e := 31) (base := w.heap.size) (ok := fun k_ => ((((P0_1_ k_ ∨ w.heap.size ≤ k_)) ∧ k_ ≠ gb359) ∧ k_ ≠ gb361)) (n := x360001_4.length) (c := co146) ?_).2.2; exact (by (with_reducible repeat (first | apply Kd.V_alloc | apply Kd.V_drewN | apply Kd.V_drew)); exact (Kd.V_mono (Kd.V_far (p := ⟨gb361, 1, none⟩) (Kd.V_far (p := ⟨gb361, 0, none⟩) (Kd.V_mono HO_360001.out (fun k_ hk => (⟨hk, hk.2⟩ : _ ∧ k_ ≠ gb361))) (fun _ hk => hk.2) (.int .i64 ((rd_T31 l0_1 x199_4).f0))) (fun _ hk => hk.2) (.slice A360_1 ((rd_T31 l0_1 x199_4).f1).length c360_1)) (fun _ h_ => h_.1)))); (case side2 => exact (Kd.V_reads' HO_360001.out).2.1); rintro e w147 ⟨v364, v368, rfl, ho0, ho1, hb⟩; refine ⟨_, rfl, ?_⟩; have n0_ := Aside0.mk (Kd.V_mono (Kd.V_told (Kd.V_told (Kd.V_old (by (with_reducible repeat (first | apply Kd.V_alloc | apply Kd.V_drewN | apply Kd.V_drew)); exact (Kd.V_mono (Kd.V_far (p := ⟨gb361, 1, none⟩) (Kd.V_far (p := ⟨gb361, 0, none⟩) (Kd.V_mono HO_197.out (fun k_ hk => (⟨hk, hk.2⟩ : _ ∧ k_ ≠ gb361))) (fun _ hk => hk.2) (.int .i64 ((rd_T31 l0_1 x199_4).f0))) (fun _ hk => hk.2) (.slice A360_1 ((rd_T31 l0_1 x199_4).f1).length c360_1)) (fun _ h_ => h_.1))) hb) (Kd.S_base ho0)) (Kd.R_base ho1)) (fun _ h_ => h_.1)); have n1_ := Aside0.mk (Kd.V_mono (Kd.V_told (Kd.V_told (Kd.V_old (by (with_reducible repeat (first | apply Kd.V_alloc | apply Kd.V_drewN | apply Kd.V_drew)); exact (Kd.V_mono (Kd.V_far (p := ⟨gb361, 1, none⟩) (Kd.V_far (p := ⟨gb361, 0, none⟩) (Kd.V_mono HO_360001.out (fun k_ hk => (⟨hk, hk.2⟩ : _ ∧ k_ ≠ gb361))) (fun _ hk => hk.2) (.int .i64 ((rd_T31 l0_1 x199_4).f0))) (fun _ hk => hk.2) (.slice A360_1 ((rd_T31 l0_1 x199_4).f1).length c360_1)) (fun _ h_ => h_.1))) hb) (Kd.S_base ho0)) (Kd.R_base ho1)) (fun _ h_ => h_.1)); have n2_ := Aside0.mk (Kd.V_mono (Kd.V_told (Kd.V_told (Kd.V_old (by (with_reducible repeat (first | apply Kd.V_alloc | apply Kd.V_drewN | apply Kd.V_drew)); exact (Kd.V_mono (Kd.V_far (p := ⟨gb361, 1, none⟩) (Kd.V_far (p := ⟨gb361, 0, none⟩) (Kd.V_mono HL360_1.out (fun k_ hk => (⟨hk, hk.2⟩ : _ ∧ k_ ≠ gb361))) (fun _ hk => hk.2) (.int .i64 ((rd_T31 l0_1 x199_4).f0))) (fun _ hk => hk.2) (.slice A360_1 ((rd_T31 l0_1 x199_4).f1).length c360_1)) (fun _ h_ => h_.1))) hb) (Kd.S_base ho0)) (Kd.R_base ho1)) (fun _ h_ => h_.1)); have n3_ := Aside0.mk (Kd.S_lower (Kd.S_newB (Kd.S_newM (M := fun k_ => (w.heap.size ≤ k_)) ho0 (below_size (by repeat (first | (with_reducible first | exact HB.out | apply below_alloc | apply pw_below_drewN | apply below_drew1 | refine below_set ?_ GE359.out | refine below_set ?_ GE361.out) | exact HB.out))) (fun k_ h_ => h_)) (g := gb361) (o := .cells #[.int .i64 ((rd_T31 l0_1 x199_4).f0), .slice A360_1 ((rd_T31 l0_1 x199_4).f1).length c360_1] 31 (0, 0)) (by (with_reducible repeat (first | refine blk_drewN ?_ _ | refine blk_drew ?_ | refine blk_alloc ?_ _)); refine blk_put (cs := #[.int .i64 ((rd_T31 l0_1 x199_4).f0), .slice none 0 0]) ?_ 1 _ rfl; (with_reducible repeat (first | refine blk_drewN ?_ _ | refine blk_drew ?_ | refine blk_alloc ?_ _)); refine blk_put (cs := #[.int .i64 0, .slice none 0 0]) ?_ 0 _ rfl; (with_reducible repeat (first | refine blk_drewN ?_ _ | refine blk_drew ?_ | refine blk_alloc ?_ _)); exact BK361.out)) (below_size (by repeat (first | (with_reducible first | exact HB.out | apply below_alloc | apply pw_below_drewN | apply below_drew1 | refine below_set ?_ GE359.out | refine below_set ?_ GE361.out) | exact HB.out)))); have n4_ := Aside0.mk (Kd.R_lower (Kd.R_newM (M := fun k_ => (w.heap.size ≤ k_)) ho1 (below_size (by repeat (first | (with_reducible first | exact HB.out | apply below_alloc | apply pw_below_drewN | apply below_drew1 | refine below_set ?_ GE359.out | refine below_set ?_ GE361.out) | exact HB.out))) (fun k_ h_ => h_)) (below_size (by repeat (first | (with_reducible first | exact HB.out | apply below_alloc | apply pw_below_drewN | apply below_drew1 | refine below_set ?_ GE359.out | refine below_set ?_ GE361.out) | exact HB.out)))); have n5_ := Aside0.mk (blk_below (g := gb359) (o := .cells #[.int .i64 x360000_4, .slice Ao146 x360001_4.length co146] 24 (0, 0)) (by (with_reducible repeat (first | refine blk_drewN ?_ _ | refine blk_drew ?_ | refine blk_alloc ?_ _)); refine blk_far ?_ NB359_361.out _; (with_reducible repeat (first | refine blk_drewN ?_ _ | refine blk_drew ?_ | refine blk_alloc ?_ _)); refine blk_far ?_ NB359_361.out _; (with_reducible repeat (first | refine blk_drewN ?_ _ | refine blk_drew ?_ | refine blk_alloc ?_ _)); exact BK359.out) hb); have n6_ := Aside0.mk (Kd.C_below ((Kd.V_reads' (by (with_reducible repeat (first | apply Kd.V_alloc | apply Kd.V_drewN | apply Kd.V_drew)); exact (Kd.V_mono (Kd.V_far (p := ⟨gb361, 1, none⟩) (Kd.V_far (p := ⟨gb361, 0, none⟩) (Kd.V_mono HL360_1.out (fun k_ hk => (⟨hk, hk.2⟩ : _ ∧ k_ ≠ gb361))) (fun _ hk => hk.2) (.int .i64 ((rd_T31 l0_1 x199_4).f0))) (fun _ hk => hk.2) (.slice A360_1 ((rd_T31 l0_1 x199_4).f1).length c360_1)) (fun _ h_ => h_.1)))).2.2) hb); have n7_ := Aside0.mk (blk_below (g := gb361) (o := .cells #[.int .i64 ((rd_T31 l0_1 x199_4).f0), .slice A360_1 ((rd_T31 l0_1 x199_4).f1).length c360_1] 31 (0, 0)) (by (with_reducible repeat (first | refine blk_drewN ?_ _ | refine blk_drew ?_ | refine blk_alloc ?_ _)); refine blk_put (cs := #[.int .i64 ((rd_T31 l0_1 x199_4).f0), .slice none 0 0]) ?_ 1 _ rfl; (with_reducible repeat (first | refine blk_drewN ?_ _ | refine blk_drew ?_ | refine blk_alloc ?_ _)); refine blk_put (cs := #[.int .i64 0, .slice none 0 0]) ?_ 0 _ rfl; (with_reducible repeat (first | refine blk_drewN ?_ _ | refine blk_drew ?_ | refine blk_alloc ?_ _)); exact BK361.out) hb); have n8_ := Aside0.mk (below_step (by repeat (first | (with_reducible first | exact HB.out | apply below_alloc | apply pw_below_drewN | apply below_drew1 | refine below_set ?_ GE359.out | refine below_set ?_ GE361.out) | exact HB.out)) hb); clear HO_197; clear HO_360001; clear HL360_1; clear BK359; clear HR360_1; clear BK361; clear HB; have HO_197 := n0_; have HO_360001 := n1_; have HL360_1 := n2_; have HO365 := n3_; have HO369 := n4_; have BK359 := n5_; have HR360_1 := n6_; have BK361 := n7_; have HB := n8_; clear n0_ n1_ n2_ n3_ n4_ n5_ n6_ n7_ n8_; (try clear hb); (try clear hb2); (try clear hk); (try clear hi); (try clear ho0); (try clear ho1)) | ((with_reducible refine gate_dst (N := 26) rfl ?_); (try (refine gate_guard (by rfl) ?_; dsimp only)); refine box_event ?hg (N := 26) ?hd (cs := #[.int .i64 0, .slice none 0 0]) (t := 24) ?hr ?_; (case hd => rfl); (case hg => rfl); (case hr => first | (go_simp; done) | (go_simp; rfl)); intro gb371 hg w148 hbox hb; have n0_ := Aside0.mk (Kd.V_below (Kd.V_elderB (by (with_reducible repeat (first | apply Kd.V_alloc | apply Kd.V_drewN | apply Kd.V_drew)); exact HO_197.out) gb371 (Nat.le_of_eq hg.symm)) hb); have n1_ := Aside0.mk (Kd.V_below (Kd.V_elderB (by (with_reducible repeat (first | apply Kd.V_alloc | apply Kd.V_drewN | apply Kd.V_drew)); exact HO_360001.out) gb371 (Nat.le_of_eq hg.symm)) hb); have n2_ := Aside0.mk (Kd.V_below (Kd.V_elderB (by (with_reducible repeat (first | apply Kd.V_alloc | apply Kd.V_drewN | apply Kd.V_drew)); exact HL360_1.out) gb371 (Nat.le_of_eq hg.symm)) hb); have n3_ := Aside0.mk (Kd.S_below (by (with_reducible repeat (first | apply Kd.S_alloc | apply Kd.S_drewN | apply Kd.S_drew)); exact HO365.out) hb); have n4_ := Aside0.mk (Kd.R_below (by (with_reducible repeat (first | apply Kd.R_alloc | apply Kd.R_drewN | apply Kd.R_drew)); exact HO369.out) hb); have n5_ := Aside0.mk (blk_below (g := gb359) (o := .cells #[.int .i64 x360000_4, .slice Ao146 x360001_4.length co146] 24 (0, 0)) (by (with_reducible repeat (first | refine blk_drewN ?_ _ | refine blk_drew ?_ | refine blk_alloc ?_ _)); exact BK359.out) hb); have n6_ := Aside0.mk (Kd.C_below (by repeat (first | (with_reducible exact HR360_1.out) | (with_reducible refine Kd.C_alloc ?_ _) | (with_reducible refine Kd.C_drewN ?_ _) | (with_reducible refine Kd.C_drew ?_) | exact HR360_1.out)) hb); have n7_ := Aside0.mk (blk_below (g := gb361) (o := .cells #[.int .i64 ((rd_T31 l0_1 x199_4).f0), .slice A360_1 ((rd_T31 l0_1 x199_4).f1).length c360_1] 31 (0, 0)) (by (with_reducible repeat (first | refine blk_drewN ?_ _ | refine blk_drew ?_ | refine blk_alloc ?_ _)); exact BK361.out) hb); have n8_ := Aside0.mk (below_step (by repeat (first | (with_reducible first | exact HB.out | apply below_alloc | apply pw_below_drewN | apply below_drew1 | refine below_set ?_ GE359.out | refine below_set ?_ GE361.out) | exact HB.out)) hb); have n9_ := Aside0.mk (hbox); have n10_ := Aside0.mk ((by rw [hg]; exact (below_size (by repeat (first | (with_reducible first | exact HB.out | apply below_alloc | apply pw_below_drewN | apply below_drew1 | refine below_set ?_ GE359.out | refine below_set ?_ GE361.out) | exact HB.out))) : w.heap.size ≤ gb371)); have n11_ := Aside0.mk ((by rw [hg]; exact (below_size (by repeat (first | (with_reducible first | exact HB.out | apply below_alloc | apply pw_below_drewN | apply below_drew1 | refine below_set ?_ GE359.out | refine below_set ?_ GE361.out) | exact HB.out))) : w.heap.size ≤ gb371)); have n12_ := Aside0.mk ((by rw [hg]; exact Nat.ne_of_lt (blk_lt (g := gb359) (o := .cells #[.int .i64 x360000_4, .slice Ao146 x360001_4.length co146] 24 (0, 0)) (by (with_reducible repeat (first | refine blk_drewN ?_ _ | refine blk_drew ?_ | refine blk_alloc ?_ _)); exact BK359.out)) : gb359 ≠ gb371)); have n13_ := Aside0.mk ((by rw [hg]; exact Nat.ne_of_gt (blk_lt (g := gb359) (o := .cells #[.int .i64 x360000_4, .slice Ao146 x360001_4.length co146] 24 (0, 0)) (by (with_reducible repeat (first | refine blk_drewN ?_ _ | refine blk_drew ?_ | refine blk_alloc ?_ _)); exact BK359.out)) : gb371 ≠ gb359)); have n14_ := Aside0.mk ((by rw [hg]; exact Nat.ne_of_lt (blk_lt (g := gb361) (o := .cells #[.int .i64 ((rd_T31 l0_1 x199_4).f0), .slice A360_1 ((rd_T31 l0_1 x199_4).f1).length c360_1] 31 (0, 0)) (by (with_reducible repeat (first | refine blk_drewN ?_ _ | refine blk_drew ?_ | refine blk_alloc ?_ _)); exact BK361.out)) : gb361 ≠ gb371)); have n15_ := Aside0.mk ((by rw [hg]; exact Nat.ne_of_gt (blk_lt (g := gb361) (o := .cells #[.int .i64 ((rd_T31 l0_1 x199_4).f0), .slice A360_1 ((rd_T31 l0_1 x199_4).f1).length c360_1] 31 (0, 0)) (by (with_reducible repeat (first | refine blk_drewN ?_ _ | refine blk_drew ?_ | refine blk_alloc ?_ _)); exact BK361.out)) : gb371 ≠ gb361)); clear HO_197; clear HO_360001; clear HL360_1; clear HO365; clear HO369; clear BK359; clear HR360_1; clear BK361; clear HB; have HO_197 := n0_; have HO_360001 := n1_; have HL360_1 := n2_; have HO365 := n3_; have HO369 := n4_; have BK359 := n5_; have HR360_1 := n6_; have BK361 := n7_; have HB := n8_; have BK371 := n9_; have GW371 := n10_; have GE371 := n11_; have NB359_371 := n12_; have NB371_359 := n13_; have NB361_371 := n14_; have NB371_361 := n15_; clear n0_ n1_ n2_ n3_ n4_ n5_ n6_ n7_ n8_ n9_ n10_ n11_ n12_ n13_ n14_ n15_; clear hb hbox hg) | ((with_reducible refine gate_dst (N := 27) rfl ?_); (try (refine gate_guard (by rfl) ?_; dsimp only)); refine box_event ?hg (N := 27) ?hd (cs := #[.int .i64 0, .slice none 0 0]) (t := 31) ?hr ?_; (case hd => rfl); (case hg => rfl); (case hr => first | (go_simp; done) | (go_simp; rfl)); intro gb372 hg w149 hbox hb; have n0_ := Aside0.mk (Kd.V_below (Kd.V_elderB (by (with_reducible repeat (first | apply Kd.V_alloc | apply Kd.V_drewN | apply Kd.V_drew)); exact HO_197.out) gb372 (Nat.le_of_eq hg.symm)) hb); have n1_ := Aside0.mk (Kd.V_below (Kd.V_elderB (by (with_reducible repeat (first | apply Kd.V_alloc | apply Kd.V_drewN | apply Kd.V_drew)); exact HO_360001.out) gb372 (Nat.le_of_eq hg.symm)) hb); have n2_ := Aside0.mk (Kd.V_below (Kd.V_elderB (by (with_reducible repeat (first | apply Kd.V_alloc | apply Kd.V_drewN | apply Kd.V_drew)); exact HL360_1.out) gb372 (Nat.le_of_eq hg.symm)) hb); have n3_ := Aside0.mk (Kd.S_below (Kd.S_elderB (by (with_reducible repeat (first | apply Kd.S_alloc | apply Kd.S_drewN | apply Kd.S_drew)); exact HO365.out) gb372 (Nat.le_of_eq hg.symm)) hb); have n4_ := Aside0.mk (Kd.R_below (by (with_reducible repeat (first | apply Kd.R_alloc | apply Kd.R_drewN | apply Kd.R_drew)); exact HO369.out) hb); have n5_ := Aside0.mk (blk_below (g := gb359) (o := .cells #[.int .i64 x360000_4, .slice Ao146 x360001_4.length co146] 24 (0, 0)) (by (with_reducible repeat (first | refine blk_drewN ?_ _ | refine blk_drew ?_ | refine blk_alloc ?_ _)); exact BK359.out) hb); have n6_ := Aside0.mk (Kd.C_below (by repeat (first | (with_reducible exact HR360_1.out) | (with_reducible refine Kd.C_alloc ?_ _) | (with_reducible refine Kd.C_drewN ?_ _) | (with_reducible refine Kd.C_drew ?_) | exact HR360_1.out)) hb); have n7_ := Aside0.mk (blk_below (g := gb361) (o := .cells #[.int .i64 ((rd_T31 l0_1 x199_4).f0), .slice A360_1 ((rd_T31 l0_1 x199_4).f1).length c360_1] 31 (0, 0)) (by (with_reducible repeat (first | refine blk_drewN ?_ _ | refine blk_drew ?_ | refine blk_alloc ?_ _)); exact BK361.out) hb); have n8_ := Aside0.mk (blk_below (g := gb371) (o := .cells #[.int .i64 0, .slice none 0 0] 24 (0, 0)) (by (with_reducible repeat (first | refine blk_drewN ?_ _ | refine blk_drew ?_ | refine blk_alloc ?_ _)); exact BK371.out) hb); have n9_ := Aside0.mk (below_step (by repeat (first | (with_reducible first | exact HB.out | apply below_alloc | apply pw_below_drewN | apply below_drew1 | refine below_set ?_ GE359.out | refine below_set ?_ GE361.out | refine below_set ?_ GE371.out) | exact HB.out)) hb); have n10_ := Aside0.mk (hbox); have n11_ := Aside0.mk ((by rw [hg]; exact (below_size (by repeat (first | (with_reducible first | exact HB.out | apply below_alloc | apply pw_below_drewN | apply below_drew1 | refine below_set ?_ GE359.out | refine below_set ?_ GE361.out | refine below_set ?_ GE371.out) | exact HB.out))) : w.heap.size ≤ gb372)); have n12_ := Aside0.mk ((by rw [hg]; exact (below_size (by repeat (first | (with_reducible first | exact HB.out | apply below_alloc | apply pw_below_drewN | apply below_drew1 | refine below_set ?_ GE359.out | refine below_set ?_ GE361.out | refine below_set ?_ GE371.out) | exact HB.out))) : w.heap.size ≤ gb372)); have n13_ := Aside0.mk ((by rw [hg]; exact Nat.ne_of_lt (blk_lt (g := gb359) (o := .cells #[.int .i64 x360000_4, .slice Ao146 x360001_4.length co146] 24 (0, 0)) (by (with_reducible repeat (first | refine blk_drewN ?_ _ | refine blk_drew ?_ | refine blk_alloc ?_ _)); exact BK359.out)) : gb359 ≠ gb372)); have n14_ := Aside0.mk ((by rw [hg]; exact Nat.ne_of_gt (blk_lt (g := gb359) (o := .cells #[.int .i64 x360000_4, .slice Ao146 x360001_4.length co146] 24 (0, 0)) (by (with_reducible repeat (first | refine blk_drewN ?_ _ | refine blk_drew ?_ | refine blk_alloc ?_ _)); exact BK359.out)) : gb372 ≠ gb359)); have n15_ := Aside0.mk ((by rw [hg]; exact Nat.ne_of_lt (blk_lt (g := gb361) (o := .cells #[.int .i64 ((rd_T31 l0_1 x199_4).f0), .slice A360_1 ((rd_T31 l0_1 x199_4).f1).length c360_1] 31 (0, 0)) (by (with_reducible repeat (first | refine blk_drewN ?_ _ | refine blk_drew ?_ | refine blk_alloc ?_ _)); exact BK361.out)) : gb361 ≠ gb372)); have n16_ := Aside0.mk ((by rw [hg]; exact Nat.ne_of_gt (blk_lt (g := gb361) (o := .cells #[.int .i64 ((rd_T31 l0_1 x199_4).f0), .slice A360_1 ((rd_T31 l0_1 x199_4).f1).length c360_1] 31 (0, 0)) (by (with_reducible repeat (first | refine blk_drewN ?_ _ | refine blk_drew ?_ | refine blk_alloc ?_ _)); exact BK361.out)) : gb372 ≠ gb361)); have n17_ := Aside0.mk ((by rw [hg]; exact Nat.ne_of_lt (blk_lt (g := gb371) (o := .cells #[.int .i64 0, .slice none 0 0] 24 (0, 0)) (by (with_reducible repeat (first | refine blk_drewN ?_ _ | refine blk_drew ?_ | refine blk_alloc ?_ _)); exact BK371.out)) : gb371 ≠ gb372)); have n18_ := Aside0.mk ((by rw [hg]; exact Nat.ne_of_gt (blk_lt (g := gb371) (o := .cells #[.int .i64 0, .slice none 0 0] 24 (0, 0)) (by (with_reducible repeat (first | refine blk_drewN ?_ _ | refine blk_drew ?_ | refine blk_alloc ?_ _)); exact BK371.out)) : gb372 ≠ gb371)); clear HO_197; clear HO_360001; clear HL360_1; clear HO365; clear HO369; clear BK359; clear HR360_1; clear BK361; clear BK371; clear HB; have HO_197 := n0_; have HO_360001 := n1_; have HL360_1 := n2_; have HO365 := n3_; have HO369 := n4_; have BK359 := n5_; have HR360_1 := n6_; have BK361 := n7_; have BK371 := n8_; have HB := n9_; have BK372 := n10_; have GW372 := n11_; have GE372 := n12_; have NB359_372 := n13_; have NB372_359 := n14_; have NB361_372 := n15_; have NB372_361 := n16_; have NB371_372 := n17_; have NB372_371 := n18_; clear n0_ n1_ n2_ n3_ n4_ n5_ n6_ n7_ n8_ n9_ n10_ n11_ n12_ n13_ n14_ n15_ n16_ n17_ n18_; clear hb hbox hg; have hnb150 := NB371_359.out; have hnc150 := NB359_371.out; have hnb151 := NB371_361.out; have hnc151 := NB361_371.out; have hnb152 := NB371_372.out; have hnc152 := NB372_371.out; have hcz153_0 : w149.cell? ⟨gb371, 0, none⟩ = some (.int .i64 0) := (blk_cell BK371.out 0).trans rfl; have hcz153_1 : w149.cell? ⟨gb371, 1, none⟩ = some (.slice none 0 0) := (blk_cell BK371.out 1).trans rfl; have hfz153_0 := blk_frozen BK371.out 0; have hfz153_1 := blk_frozen BK371.out 1; obtain ⟨Ao154, co154, eo154⟩ := Kd.S_slice HO365.out; subst eo154; have hnb155 := NB372_359.out; have hnc155 := NB359_372.out; have hnb156 := NB372_361.out; have hnc156 := NB361_372.out; have hcz157_0 : w149.cell? ⟨gb372, 0, none⟩ = some (.int .i64 0) := (blk_cell BK372.out 0).trans rfl; have hcz157_1 : w149.cell? ⟨gb372, 1, none⟩ = some (.slice none 0 0) := (blk_cell BK372.out 1).trans rfl; have hfz157_0 := blk_frozen BK372.out 0; have hfz157_1 := blk_frozen BK372.out 1; obtain ⟨Ao158, co158, eo158⟩ := Kd.R_slice HO369.out; subst eo158; have hcz159_0 : w149.cell? ⟨gb361, 0, none⟩ = some (.int .i64 ((rd_T31 l0_1 x199_4).f0)) := (blk_cell BK361.out 0).trans rfl; have hcz159_1 : w149.cell? ⟨gb361, 1, none⟩ = some (.slice A360_1 ((rd_T31 l0_1 x199_4).f1).length c360_1) := (blk_cell BK361.out 1).trans rfl; have hfz159_0 := blk_frozen BK361.out 0; have hfz159_1 := blk_frozen BK361.out 1) | (go_at_call 12; (with_reducible refine (squelchref21_SameGram.calls t366 _ _ t367 ((rd_T31 l0_1 x199_4).f0) _ _ ((rd_T31 l0_1 x199_4).f1) true _ ?side1 ?side2 ?side3 ?side4 A140.out).mono ?_); (case side1 => refine (Kd.R_reads' (e := 5) (base := w.heap.size) (ok := fun k_ => (((w.heap.size ≤ k_)) ∧ True)) (n := t367.length) (c := co158) ?_).2.2; exact (by (with_reducible repeat (first | apply Kd.R_alloc | apply Kd.R_drewN | apply Kd.R_drew)); exact (Kd.R_mono (Kd.R_mono (Kd.R_far (p := ⟨gb372, 1, none⟩) (Kd.R_far (p := ⟨gb372, 0, none⟩) (Kd.R_far (p := ⟨gb371, 1, none⟩) (Kd.R_far (p := ⟨gb371, 0, none⟩) (Kd.R_types (Kd.R_types HO369.out BK371.out (by decide)) BK372.out (by decide)) (fun _ hk => hk.1.2) (.int .i64 t362)) (fun _ hk => hk.1.2) (.slice Ao154 t363.length co154)) (fun _ hk => hk.2) (.int .i64 t366)) (fun _ hk => hk.2) (.slice Ao158 t367.length co158)) (fun _ h_ => h_.1)) (fun _ h_ => h_.1)))); (case side2 => exact (Kd.R_reads' HO369.out).2.1); (case side3 => repeat (first | exact ((Kd.V_reads' (by (with_reducible repeat (first | apply Kd.V_alloc | apply Kd.V_drewN | apply Kd.V_drew)); exact (Kd.V_mono (Kd.V_mono (Kd.V_far (p := ⟨gb372, 1, none⟩) (Kd.V_far (p := ⟨gb372, 0, none⟩) (Kd.V_far (p := ⟨gb371, 1, none⟩) (Kd.V_far (p := ⟨gb371, 0, none⟩) (Kd.V_mono (Kd.V_mono HL360_1.out (fun k_ hk => (⟨hk, hk.1.2⟩ : _ ∧ k_ ≠ gb371))) (fun k_ hk => (⟨hk, hk.1.2⟩ : _ ∧ k_ ≠ gb372))) (fun _ hk => hk.1.2) (.int .i64 t362)) (fun _ hk => hk.1.2) (.slice Ao154 t363.length co154)) (fun _ hk => hk.2) (.int .i64 t366)) (fun _ hk => hk.2) (.slice Ao158 t367.length co158)) (fun _ h_ => h_.1)) (fun _ h_ => h_.1)))).2.2) | (with_reducible refine Kd.C_alloc ?_ _) | (with_reducible refine Kd.C_drewN ?_ _) | (with_reducible refine Kd.C_drew ?_))); (case side4 => exact HC360_1.out); rintro e w160 ⟨rfl, hb⟩; have n0_ := Aside0.mk (Kd.V_below (by (with_reducible repeat (first | apply Kd.V_alloc | apply Kd.V_drewN | apply Kd.V_drew)); exact (Kd.V_mono (Kd.V_mono (Kd.V_far (p := ⟨gb372, 1, none⟩) (Kd.V_far (p := ⟨gb372, 0, none⟩) (Kd.V_far (p := ⟨gb371, 1, none⟩) (Kd.V_far (p := ⟨gb371, 0, none⟩) (Kd.V_mono (Kd.V_mono HO_197.out (fun k_ hk => (⟨hk, hk.1.2⟩ : _ ∧ k_ ≠ gb371))) (fun k_ hk => (⟨hk, hk.1.2⟩ : _ ∧ k_ ≠ gb372))) (fun _ hk => hk.1.2) (.int .i64 t362)) (fun _ hk => hk.1.2) (.slice Ao154 t363.length co154)) (fun _ hk => hk.2) (.int .i64 t366)) (fun _ hk => hk.2) (.slice Ao158 t367.length co158)) (fun _ h_ => h_.1)) (fun _ h_ => h_.1))) hb); have n1_ := Aside0.mk (Kd.V_below (by (with_reducible repeat (first | apply Kd.V_alloc | apply Kd.V_drewN | apply Kd.V_drew)); exact (Kd.V_mono (Kd.V_mono (Kd.V_far (p := ⟨gb372, 1, none⟩) (Kd.V_far (p := ⟨gb372, 0, none⟩) (Kd.V_far (p := ⟨gb371, 1, none⟩) (Kd.V_far (p := ⟨gb371, 0, none⟩) (Kd.V_mono (Kd.V_mono HO_360001.out (fun k_ hk => (⟨hk, hk.1.2⟩ : _ ∧ k_ ≠ gb371))) (fun k_ hk => (⟨hk, hk.1.2⟩ : _ ∧ k_ ≠ gb372))) (fun _ hk => hk.1.2) (.int .i64 t362)) (fun _ hk => hk.1.2) (.slice Ao154 t363.length co154)) (fun _ hk => hk.2) (.int .i64 t366)) (fun _ hk => hk.2) (.slice Ao158 t367.length co158)) (fun _ h_ => h_.1)) (fun _ h_ => h_.1))) hb); have n2_ := Aside0.mk (Kd.V_below (by (with_reducible repeat (first | apply Kd.V_alloc | apply Kd.V_drewN | apply Kd.V_drew)); exact (Kd.V_mono (Kd.V_mono (Kd.V_far (p := ⟨gb372, 1, none⟩) (Kd.V_far (p := ⟨gb372, 0, none⟩) (Kd.V_far (p := ⟨gb371, 1, none⟩) (Kd.V_far (p := ⟨gb371, 0, none⟩) (Kd.V_mono (Kd.V_mono HL360_1.out (fun k_ hk => (⟨hk, hk.1.2⟩ : _ ∧ k_ ≠ gb371))) (fun k_ hk => (⟨hk, hk.1.2⟩ : _ ∧ k_ ≠ gb372))) (fun _ hk => hk.1.2) (.int .i64 t362)) (fun _ hk => hk.1.2) (.slice Ao154 t363.length co154)) (fun _ hk => hk.2) (.int .i64 t366)) (fun _ hk => hk.2) (.slice Ao158 t367.length co158)) (fun _ h_ => h_.1)) (fun _ h_ => h_.1))) hb); have n3_ := Aside0.mk (Kd.S_below (by (with_reducible repeat (first | apply Kd.S_alloc | apply Kd.S_drewN | apply Kd.S_drew)); exact (Kd.S_mono (Kd.S_mono (Kd.S_far (p := ⟨gb372, 1, none⟩) (Kd.S_far (p := ⟨gb372, 0, none⟩) (Kd.S_far (p := ⟨gb371, 1, none⟩) (Kd.S_far (p := ⟨gb371, 0, none⟩) (Kd.S_mono (Kd.S_types HO365.out BK371.out (by decide)) (fun k_ hk => (⟨hk, hk.1.2⟩ : _ ∧ k_ ≠ gb372))) (fun _ hk => hk.1.2) (.int .i64 t362)) (fun _ hk => hk.1.2) (.slice Ao154 t363.length co154)) (fun _ hk => hk.2) (.int .i64 t366)) (fun _ hk => hk.2) (.slice Ao158 t367.length co158)) (fun _ h_ => h_.1)) (fun _ h_ => h_.1))) hb); have n4_ := Aside0.mk (Kd.R_below (by (with_reducible repeat (first | apply Kd.R_alloc | apply Kd.R_drewN | apply Kd.R_drew)); exact (Kd.R_mono (Kd.R_mono (Kd.R_far (p := ⟨gb372, 1, none⟩) (Kd.R_far (p := ⟨gb372, 0, none⟩) (Kd.R_far (p := ⟨gb371, 1, none⟩) (Kd.R_far (p := ⟨gb371, 0, none⟩) (Kd.R_types (Kd.R_types HO369.out BK371.out (by decide)) BK372.out (by decide)) (fun _ hk => hk.1.2) (.int .i64 t362)) (fun _ hk => hk.1.2) (.slice Ao154 t363.length co154)) (fun _ hk => hk.2) (.int .i64 t366)) (fun _ hk => hk.2) (.slice Ao158 t367.length co158)) (fun _ h_ => h_.1)) (fun _ h_ => h_.1))) hb); have n5_ := Aside0.mk (blk_below (g := gb359) (o := .cells #[.int .i64 x360000_4, .slice Ao146 x360001_4.length co146] 24 (0, 0)) (by (with_reducible repeat (first | refine blk_drewN ?_ _ | refine blk_drew ?_ | refine blk_alloc ?_ _)); refine blk_far ?_ NB359_372.out _; (with_reducible repeat (first | refine blk_drewN ?_ _ | refine blk_drew ?_ | refine blk_alloc ?_ _)); refine blk_far ?_ NB359_372.out _; (with_reducible repeat (first | refine blk_drewN ?_ _ | refine blk_drew ?_ | refine blk_alloc ?_ _)); refine blk_far ?_ NB359_371.out _; (with_reducible repeat (first | refine blk_drewN ?_ _ | refine blk_drew ?_ | refine blk_alloc ?_ _)); refine blk_far ?_ NB359_371.out _; (with_reducible repeat (first | refine blk_drewN ?_ _ | refine blk_drew ?_ | refine blk_alloc ?_ _)); exact BK359.out) hb); have n6_ := Aside0.mk (Kd.C_below ((Kd.V_reads' (by (with_reducible repeat (first | apply Kd.V_alloc | apply Kd.V_drewN | apply Kd.V_drew)); exact (Kd.V_mono (Kd.V_mono (Kd.V_far (p := ⟨gb372, 1, none⟩) (Kd.V_far (p := ⟨gb372, 0, none⟩) (Kd.V_far (p := ⟨gb371, 1, none⟩) (Kd.V_far (p := ⟨gb371, 0, none⟩) (Kd.V_mono (Kd.V_mono HL360_1.out (fun k_ hk => (⟨hk, hk.1.2⟩ : _ ∧ k_ ≠ gb371))) (fun k_ hk => (⟨hk, hk.1.2⟩ : _ ∧ k_ ≠ gb372))) (fun _ hk => hk.1.2) (.int .i64 t362)) (fun _ hk => hk.1.2) (.slice Ao154 t363.length co154)) (fun _ hk => hk.2) (.int .i64 t366)) (fun _ hk => hk.2) (.slice Ao158 t367.length co158)) (fun _ h_ => h_.1)) (fun _ h_ => h_.1)))).2.2) hb); have n7_ := Aside0.mk (blk_below (g := gb361) (o := .cells #[.int .i64 ((rd_T31 l0_1 x199_4).f0), .slice A360_1 ((rd_T31 l0_1 x199_4).f1).length c360_1] 31 (0, 0)) (by (with_reducible repeat (first | refine blk_drewN ?_ _ | refine blk_drew ?_ | refine blk_alloc ?_ _)); refine blk_far ?_ NB361_372.out _; (with_reducible repeat (first | refine blk_drewN ?_ _ | refine blk_drew ?_ | refine blk_alloc ?_ _)); refine blk_far ?_ NB361_372.out _; (with_reducible repeat (first | refine blk_drewN ?_ _ | refine blk_drew ?_ | refine blk_alloc ?_ _)); refine blk_far ?_ NB361_371.out _; (with_reducible repeat (first | refine blk_drewN ?_ _ | refine blk_drew ?_ | refine blk_alloc ?_ _)); refine blk_far ?_ NB361_371.out _; (with_reducible repeat (first | refine blk_drewN ?_ _ | refine blk_drew ?_ | refine blk_alloc ?_ _)); exact BK361.out) hb); have n8_ := Aside0.mk (blk_below (g := gb371) (o := .cells #[.int .i64 t362, .slice Ao154 t363.length co154] 24 (0, 0)) (by (with_reducible repeat (first | refine blk_drewN ?_ _ | refine blk_drew ?_ | refine blk_alloc ?_ _)); refine blk_far ?_ NB371_372.out _; (with_reducible repeat (first | refine blk_drewN ?_ _ | refine blk_drew ?_ | refine blk_alloc ?_ _)); refine blk_far ?_ NB371_372.out _; (with_reducible repeat (first | refine blk_drewN ?_ _ | refine blk_drew ?_ | refine blk_alloc ?_ _)); refine blk_put (cs := #[.int .i64 t362, .slice none 0 0]) ?_ 1 _ rfl; (with_reducible repeat (first | refine blk_drewN ?_ _ | refine blk_drew ?_ | refine blk_alloc ?_ _)); refine blk_put (cs := #[.int .i64 0, .slice none 0 0]) ?_ 0 _ rfl; (with_reducible repeat (first | refine blk_drewN ?_ _ | refine blk_drew ?_ | refine blk_alloc ?_ _)); exact BK371.out) hb); have n9_ := Aside0.mk (blk_below (g := gb372) (o := .cells #[.int .i64 t366, .slice Ao158 t367.length co158] 31 (0, 0)) (by (with_reducible repeat (first | refine blk_drewN ?_ _ | refine blk_drew ?_ | refine blk_alloc ?_ _)); refine blk_put (cs := #[.int .i64 t366, .slice none 0 0]) ?_ 1 _ rfl; (with_reducible repeat (first | refine blk_drewN ?_ _ | refine blk_drew ?_ | refine blk_alloc ?_ _)); refine blk_put (cs := #[.int .i64 0, .slice none 0 0]) ?_ 0 _ rfl; (with_reducible repeat (first | refine blk_drewN ?_ _ | refine blk_drew ?_ | refine blk_alloc ?_ _)); refine blk_far ?_ NB372_371.out _; (with_reducible repeat (first | refine blk_drewN ?_ _ | refine blk_drew ?_ | refine blk_alloc ?_ _)); refine blk_far ?_ NB372_371.out _; (with_reducible repeat (first | refine blk_drewN ?_ _ | refine blk_drew ?_ | refine blk_alloc ?_ _)); exact BK372.out) hb); have n10_ := Aside0.mk (below_step (by repeat (first | (with_reducible first | exact HB.out | apply below_alloc | apply pw_below_drewN | apply below_drew1 | refine below_set ?_ GE359.out | refine below_set ?_ GE361.out | refine below_set ?_ GE371.out | refine below_set ?_ GE372.out) | exact HB.out)) hb); clear HO_197; clear HO_360001; clear HL360_1; clear HO365; clear HO369; clear BK359; clear HR360_1; clear BK361; clear BK371; clear BK372; clear HB; have HO_197 := n0_; have HO_360001 := n1_; have HL360_1 := n2_; have HO365 := n3_; have HO369 := n4_; have BK359 := n5_; have HR360_1 := n6_; have BK361 := n7_; have BK371 := n8_; have BK372 := n9_; have HB := n10_; clear n0_ n1_ n2_ n3_ n4_ n5_ n6_ n7_ n8_ n9_ n10_; (try clear hb); (try clear hb2); (try clear hk); (try clear hi); have hcz161_0 : w160.cell? ⟨gb371, 0, none⟩ = some (.int .i64 t362) := (blk_cell BK371.out 0).trans rfl; have hcz161_1 : w160.cell? ⟨gb371, 1, none⟩ = some (.slice Ao154 t363.length co154) := (blk_cell BK371.out 1).trans rfl; have hfz161_0 := blk_frozen BK371.out 0; have hfz161_1 := blk_frozen BK371.out 1; have hcz162_0 : w160.cell? ⟨gb359, 0, none⟩ = some (.int .i64 x360000_4) := (blk_cell BK359.out 0).trans rfl; have hcz162_1 : w160.cell? ⟨gb359, 1, none⟩ = some (.slice Ao146 x360001_4.length co146) := (blk_cell BK359.out 1).trans rfl; have hfz162_0 := blk_frozen BK359.out 0; have hfz162_1 := blk_frozen BK359.out 1))
                    go_roundg k4
                    case measure => have := HJ5.out; have := HJ33.out; have := HJ94.out; have := HK4.out; omega
                    case rel => exact ⟨(wrap64 (x199_4 + 1)), (t362), (t363), (.slice Ao154 t363.length co154), (by first | rfl | (simp; done) | (simp [*]; done)), H', ⟨by have := HJ5.out; have := HJ33.out; have := HJ94.out; have := HK4.out; omega⟩, ⟨by (with_reducible repeat (first | apply Kd.V_alloc | apply Kd.V_drewN | apply Kd.V_drew)); exact Kd.V_mono (Kd.V_far (p := ⟨gb359, 1, none⟩) (Kd.V_far (p := ⟨gb359, 0, none⟩) (Kd.V_mono HO_197.out (fun k_ hk => (⟨hk, hk.1.1.1.1.1.2⟩ : _ ∧ k_ ≠ gb359))) (fun _ hk => hk.2) (.int .i64 t362)) (fun _ hk => hk.2) (.slice Ao154 t363.length co154)) (fun _ hk => ⟨hk.1.1.1.1.1.1.1, hk.1.1.1.1.1.1.2⟩)⟩, ⟨Kd.V_mono (Kd.S_V (by (with_reducible repeat (first | apply Kd.S_alloc | apply Kd.S_drewN | apply Kd.S_drew)); exact (Kd.S_far (p := ⟨gb359, 1, none⟩) (Kd.S_far (p := ⟨gb359, 0, none⟩) (Kd.S_types (Kd.S_types HO365.out BK359.out (by decide)) BK359.out (by decide)) (fun _ hk => hk.2) (.int .i64 t362)) (fun _ hk => hk.2) (.slice Ao154 t363.length co154)))) (fun k_ hk => by first | exact ⟨(.inr (hk.1.1.1.1.1)), hk.1.2⟩ | exact (.inr (⟨hk.1.1.1.1.1, hk.1.2⟩)))⟩, ⟨by (with_reducible repeat (first | refine blk_drewN ?_ _ | refine blk_drew ?_ | refine blk_alloc ?_ _)); refine blk_put (cs := #[.int .i64 t362, .slice Ao146 x360001_4.length co146]) ?_ 1 _ rfl; (with_reducible repeat (first | refine blk_drewN ?_ _ | refine blk_drew ?_ | refine blk_alloc ?_ _)); refine blk_put (cs := #[.int .i64 x360000_4, .slice Ao146 x360001_4.length co146]) ?_ 0 _ rfl; (with_reducible repeat (first | refine blk_drewN ?_ _ | refine blk_drew ?_ | refine blk_alloc ?_ _)); exact BK359.out⟩, ⟨by repeat (first | (with_reducible first | exact HB.out | apply below_alloc | apply pw_below_drewN | apply below_drew1 | refine below_set ?_ GE359.out | refine below_set ?_ GE361.out | refine below_set ?_ GE371.out | refine below_set ?_ GE372.out) | exact HB.out)⟩⟩
                   ·replace c141 := Bool.eq_false_iff.mpr c141
                    subst c141
                    have H1 : (some false) = some r := by rw [if_neg (show ¬ (false = true) by decide)] at H; exact H
                    clear H
                    have H := H1
                    clear H1
                    obtain rfl := Option.some.inj H
                    exact absurd HR_.out (by simp)
                  ·rw [if_neg c139] at H
                   have c139b0 : (t370 == 0) = false := beq_eq_false_iff_ne.mpr c139
                   have c139b1 : (t370 != 0) = true := bne_iff_ne.mpr c139
                   obtain rfl := Option.some.inj H
                   exact absurd HR_.out (by simp)
                 ·rw [if_neg c137] at H
                  exact absurd H (by simp)
                ·rw [if_neg c136] at H
                 exact absurd H (by simp)
               ·rw [if_neg c135] at H
                have c135b0 : decide (x199_4 < (l0_1.length : Int)) = false := decide_eq_false c135
                clear c135
                by_cases c163 : t312 = true
                ·subst c163
                 have H1 : (some ((x360001_4.length : Int) == 0)) = some r := by rw [if_pos rfl] at H; exact H
                 clear H
                 have H := H1
                 clear H1
                 obtain rfl := Option.some.inj H
                 have hcz164_0 : wr.cell? ⟨gb359, 0, none⟩ = some (.int .i64 x360000_4) := (blk_cell BK359.out 0).trans rfl
                 have hcz164_1 : wr.cell? ⟨gb359, 1, none⟩ = some (u360001) := (blk_cell BK359.out 1).trans rfl
                 have hfz164_0 := blk_frozen BK359.out 0
                 have hfz164_1 := blk_frozen BK359.out 1
                 obtain ⟨Ao165, co165, eo165⟩ := Kd.V_slice HO_360001.out
                 subst eo165
                 go_wp2
                 go_ret
                 exact ⟨by first | rfl | (simp [errW_none, errW_some] <;> rfl) | (simp only [← hji26]; first | rfl | (simp [errW_none, errW_some] <;> rfl)) | (simp [*, errW_none, errW_some] <;> rfl), by repeat (first | (with_reducible first | exact HB.out | apply below_alloc | apply pw_below_drewN | apply below_drew1 | refine below_set ?_ GE359.out) | exact HB.out)⟩
                ·replace c163 := Bool.eq_false_iff.mpr c163
                 subst c163
                 have H1 : (some false) = some r := by rw [if_neg (show ¬ (false = true) by decide)] at H; exact H
                 clear H
                 have H := H1
                 clear H1
                 obtain rfl := Option.some.inj H
                 exact absurd HR_.out (by simp)
      ·rw [if_neg c28] at H
       exact absurd H (by simp)
     ·rw [if_neg c27] at H
      exact absurd H (by simp)

def squelchlaw21_PoolBack.Pure : Prop := ∀ (a0_0 : Int) (l0_1 : List (S31)) (a1 : Int) (a2 : Int) (a3 : Int), (Lit.int .i64 a0_0).wf = true → (l0_1.length * 32 ≤ 140737488351232 ∧ l0_1.length ≤ 9223372036854775807 ∧ ∀ y0_ ∈ l0_1, ((Lit.int .i64 y0_.f0).wf = true ∧ (y0_.f1.length * 1 ≤ 140737488351232 ∧ y0_.f1.length ≤ 9223372036854775807 ∧ ∀ y1_ ∈ y0_.f1, (Lit.int .u8 y1_).wf = true))) → (Lit.int .i64 a1).wf = true → (Lit.int .i64 a2).wf = true → (Lit.int .i64 a3).wf = true → ∃ k, squelchlaw21_PoolBack.f k a0_0 l0_1 a1 a2 a3 = some true

end Go.Proofs.Yteleojddlaflnaa.PA
-- slim
