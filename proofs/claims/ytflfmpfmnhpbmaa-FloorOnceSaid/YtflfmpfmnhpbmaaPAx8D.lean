-- Written for this claim by this session's own printer (wip/patch_print.py over the kit's print).
import Derived.Test.YtflfmpfmnhpbmaaPAx0
import Derived.Test.YtflfmpfmnhpbmaaPAx6
import Derived.Test.YtflfmpfmnhpbmaaPAx9
namespace Go.Proofs.Ytflfmpfmnhpbmaa.PA
open Go.RowKit Go.Proofs.YtflfmpfmnhpbmaaW.PrintWords Go.Proofs.YtflfmpfmnhpbmaaW.PrintLast Go.Proofs.YtflfmpfmnhpbmaaW.PrintMore
attribute [local go_sem] max2_int min2_int max_two min_two max_three min_three max_four min_four   -- for this text's walks alone
set_option linter.unusedVariables false
set_option linter.unusedSimpArgs false

def mr (b : Bool) : List Nat → List Bool
 | [] => []
 | n :: r => List.replicate n b ++ mr (!b) r
/-- A mask told by its runs: so many true, so many false, and so on. -/
def mrA (l : List Nat) : Array Bool := (mr true l).toArray
/-! ### squelchref18_Check: function 15 -/
mutual
def squelchref18_Check.j0 : Nat → Bool → Int → Int → Int → Int → Int → Int → Int → List (S43) → List Int → Option (Int)
 | 0, _, _, _, _, _, _, _, _, _, _ => none
 | k + 1, x67, x245000, x245001, x245002, x245003, x245004, x245005, x245006, x245007, x245008 => if x67 = true then (some 1) else (squelchref18_Check.l0 k 0 x245008 (x245008.length : Int) 0 x245000 x245001 x245002 x245003 x245004 x245005 x245006 x245007 x245008)
def squelchref18_Check.l0 : Nat → Int → List Int → Int → Int → Int → Int → Int → Int → Int → Int → Int → List (S43) → List Int → Option (Int)
 | 0, _, _, _, _, _, _, _, _, _, _, _, _, _ => none
 | k + 1, x3, x69, x70, x71, x245000, x245001, x245002, x245003, x245004, x245005, x245006, x245007, x245008 => if x71 < x70 then (if 0 ≤ x71 then (if x71 < (x69.length : Int) then (if (rd x69 x71) ≤ x3 then (some 1) else (if (rd x69 x71) > 1073741824 then (some 1) else (squelchref18_Check.l0 k (rd x69 x71) x69 x70 (wrap64 (x71 + 1)) x245000 x245001 x245002 x245003 x245004 x245005 x245006 x245007 x245008))) else (none)) else (none)) else (squelchref18_Check.l1 k x245007 (x245007.length : Int) 0 x245000 x245001 x245002 x245003 x245004 x245005 x245006 x245007 x245008)
def squelchref18_Check.l1 : Nat → List (S43) → Int → Int → Int → Int → Int → Int → Int → Int → Int → List (S43) → List Int → Option (Int)
 | 0, _, _, _, _, _, _, _, _, _, _, _, _ => none
 | k + 1, x85, x86, x87, x245000, x245001, x245002, x245003, x245004, x245005, x245006, x245007, x245008 => if x87 < x86 then (if 0 ≤ x87 then (if x87 < (x85.length : Int) then ((squelchref18_in.f k x245008 ((rd_T43 x85 x87).f0)).bind fun t248 => (if t248 = true then (if ((rd_T43 x85 x87).f0) = x245002 then (some 1) else (if ((rd_T43 x85 x87).f1) < 0 then (some 1) else (if ((rd_T43 x85 x87).f1) > 7 then (some 1) else ((squelchref18_place.f k x245000 x245001 x245002 x245003 x245004 x245005 x245006 x245007 x245008 ((rd_T43 x85 x87).f0)).bind fun t249 => (if t249 = (wrap64 (x87 + 1)) then (if x87 > 0 then (if 0 ≤ (wrap64 (x87 - 1)) then (if (wrap64 (x87 - 1)) < (x245007.length : Int) then (if ((rd_T43 x245007 (wrap64 (x87 - 1))).f1) < ((rd_T43 x85 x87).f1) then (some 1) else (squelchref18_Check.l1 k x85 x86 (wrap64 (x87 + 1)) x245000 x245001 x245002 x245003 x245004 x245005 x245006 x245007 x245008)) else (none)) else (none)) else (squelchref18_Check.l1 k x85 x86 (wrap64 (x87 + 1)) x245000 x245001 x245002 x245003 x245004 x245005 x245006 x245007 x245008)) else (some 1)))))) else (some 1))) else (none)) else (none)) else (if x245000 = 0 then (if x245002 = 0 then (if x245003 = 0 then (if x245004 = 0 then (if x245005 = 0 then (squelchref18_Check.j3 k (decide ((x245007.length : Int) > 0))) else (squelchref18_Check.j3 k true)) else (squelchref18_Check.j3 k true)) else (squelchref18_Check.j3 k true)) else (squelchref18_Check.j3 k true)) else ((squelchref18_in.f k x245008 x245002).bind fun t251 => (if t251 = true then (if x245003 < 0 then (some 1) else (if x245003 > 7 then (some 1) else (if x245001 < 1 then (some 1) else (some 0)))) else (some 1))))
def squelchref18_Check.j3 : Nat → Bool → Option (Int)
 | 0, _ => none
 | k + 1, x167 => if x167 = true then (some 1) else (some 0)
end
def squelchref18_Check.f (k : Nat) (a0_0 : Int) (a0_1 : Int) (a0_2 : Int) (a0_3 : Int) (a0_4 : Int) (a0_5 : Int) (a0_6 : Int) (l0_7 : List (S43)) (l0_8 : List Int) : Option (Int) := if a0_0 < 0 then (squelchref18_Check.j0 k true a0_0 a0_1 a0_2 a0_3 a0_4 a0_5 a0_6 l0_7 l0_8) else (if a0_0 > 2 then (squelchref18_Check.j0 k true a0_0 a0_1 a0_2 a0_3 a0_4 a0_5 a0_6 l0_7 l0_8) else (if a0_1 < 0 then (squelchref18_Check.j0 k true a0_0 a0_1 a0_2 a0_3 a0_4 a0_5 a0_6 l0_7 l0_8) else (if a0_1 > 1099511627776 then (squelchref18_Check.j0 k true a0_0 a0_1 a0_2 a0_3 a0_4 a0_5 a0_6 l0_7 l0_8) else (if a0_6 < 0 then (squelchref18_Check.j0 k true a0_0 a0_1 a0_2 a0_3 a0_4 a0_5 a0_6 l0_7 l0_8) else (if a0_6 > 1099511627776 then (squelchref18_Check.j0 k true a0_0 a0_1 a0_2 a0_3 a0_4 a0_5 a0_6 l0_7 l0_8) else (if a0_4 < 0 then (squelchref18_Check.j0 k true a0_0 a0_1 a0_2 a0_3 a0_4 a0_5 a0_6 l0_7 l0_8) else (if a0_4 > 2199023255552 then (squelchref18_Check.j0 k true a0_0 a0_1 a0_2 a0_3 a0_4 a0_5 a0_6 l0_7 l0_8) else (if a0_5 < 0 then (squelchref18_Check.j0 k true a0_0 a0_1 a0_2 a0_3 a0_4 a0_5 a0_6 l0_7 l0_8) else (if a0_5 > 2199023255552 then (squelchref18_Check.j0 k true a0_0 a0_1 a0_2 a0_3 a0_4 a0_5 a0_6 l0_7 l0_8) else (if (l0_8.length : Int) > 8 then (squelchref18_Check.j0 k true a0_0 a0_1 a0_2 a0_3 a0_4 a0_5 a0_6 l0_7 l0_8) else (squelchref18_Check.j0 k (decide ((l0_7.length : Int) > 4)) a0_0 a0_1 a0_2 a0_3 a0_4 a0_5 a0_6 l0_7 l0_8)))))))))))
theorem squelchref18_Check.mono_l : ∀ k, (∀ y0 y1 y2 y3 y4 y5 y6 y7 y8 y9, LeO (squelchref18_Check.j0 k y0 y1 y2 y3 y4 y5 y6 y7 y8 y9) (squelchref18_Check.j0 (k + 1) y0 y1 y2 y3 y4 y5 y6 y7 y8 y9)) ∧ (∀ y0 y1 y2 y3 y4 y5 y6 y7 y8 y9 y10 y11 y12, LeO (squelchref18_Check.l0 k y0 y1 y2 y3 y4 y5 y6 y7 y8 y9 y10 y11 y12) (squelchref18_Check.l0 (k + 1) y0 y1 y2 y3 y4 y5 y6 y7 y8 y9 y10 y11 y12)) ∧ (∀ y0 y1 y2 y3 y4 y5 y6 y7 y8 y9 y10 y11, LeO (squelchref18_Check.l1 k y0 y1 y2 y3 y4 y5 y6 y7 y8 y9 y10 y11) (squelchref18_Check.l1 (k + 1) y0 y1 y2 y3 y4 y5 y6 y7 y8 y9 y10 y11)) ∧ (∀ y0, LeO (squelchref18_Check.j3 k y0) (squelchref18_Check.j3 (k + 1) y0))
 | 0 => ⟨fun _ _ _ _ _ _ _ _ _ _ r h => by simp [squelchref18_Check.j0] at h, fun _ _ _ _ _ _ _ _ _ _ _ _ _ r h => by simp [squelchref18_Check.l0] at h, fun _ _ _ _ _ _ _ _ _ _ _ _ r h => by simp [squelchref18_Check.l1] at h, fun _ r h => by simp [squelchref18_Check.j3] at h⟩
 | k + 1 => by
  obtain ⟨ih0, ih1, ih2, ih3⟩ := squelchref18_Check.mono_l k
  refine ⟨?_, ?_, ?_, ?_⟩
  ·intro y0 y1 y2 y3 y4 y5 y6 y7 y8 y9
   unfold squelchref18_Check.j0
   repeat' first
   | (with_reducible exact ih0 _ _ _ _ _ _ _ _ _ _)
   | (with_reducible exact ih1 _ _ _ _ _ _ _ _ _ _ _ _ _)
   | (with_reducible exact ih2 _ _ _ _ _ _ _ _ _ _ _ _)
   | (with_reducible exact ih3 _)
   | (with_reducible exact squelchref18_in.mono _ _ _)
   | (with_reducible exact squelchref18_place.mono _ _ _ _ _ _ _ _ _ _ _)
   | (with_reducible exact LeO.refl _)
   | (with_reducible exact LeO.none _)
   | (with_reducible refine LeO.ite ?_ ?_)
   | (with_reducible refine LeO.bind ?_ (fun _ => ?_))
   | exact ih0 _ _ _ _ _ _ _ _ _ _
   | exact ih1 _ _ _ _ _ _ _ _ _ _ _ _ _
   | exact ih2 _ _ _ _ _ _ _ _ _ _ _ _
   | exact ih3 _
   | exact squelchref18_in.mono _ _ _
   | exact squelchref18_place.mono _ _ _ _ _ _ _ _ _ _ _
   | exact LeO.none _
   | refine LeO.ite ?_ ?_
   | refine LeO.bind ?_ (fun _ => ?_)
  ·intro y0 y1 y2 y3 y4 y5 y6 y7 y8 y9 y10 y11 y12
   unfold squelchref18_Check.l0
   repeat' first
   | (with_reducible exact ih0 _ _ _ _ _ _ _ _ _ _)
   | (with_reducible exact ih1 _ _ _ _ _ _ _ _ _ _ _ _ _)
   | (with_reducible exact ih2 _ _ _ _ _ _ _ _ _ _ _ _)
   | (with_reducible exact ih3 _)
   | (with_reducible exact squelchref18_in.mono _ _ _)
   | (with_reducible exact squelchref18_place.mono _ _ _ _ _ _ _ _ _ _ _)
   | (with_reducible exact LeO.refl _)
   | (with_reducible exact LeO.none _)
   | (with_reducible refine LeO.ite ?_ ?_)
   | (with_reducible refine LeO.bind ?_ (fun _ => ?_))
   | exact ih0 _ _ _ _ _ _ _ _ _ _
   | exact ih1 _ _ _ _ _ _ _ _ _ _ _ _ _
   | exact ih2 _ _ _ _ _ _ _ _ _ _ _ _
   | exact ih3 _
   | exact squelchref18_in.mono _ _ _
   | exact squelchref18_place.mono _ _ _ _ _ _ _ _ _ _ _
   | exact LeO.none _
   | refine LeO.ite ?_ ?_
   | refine LeO.bind ?_ (fun _ => ?_)
  ·intro y0 y1 y2 y3 y4 y5 y6 y7 y8 y9 y10 y11
   unfold squelchref18_Check.l1
   repeat' first
   | (with_reducible exact ih0 _ _ _ _ _ _ _ _ _ _)
   | (with_reducible exact ih1 _ _ _ _ _ _ _ _ _ _ _ _ _)
   | (with_reducible exact ih2 _ _ _ _ _ _ _ _ _ _ _ _)
   | (with_reducible exact ih3 _)
   | (with_reducible exact squelchref18_in.mono _ _ _)
   | (with_reducible exact squelchref18_place.mono _ _ _ _ _ _ _ _ _ _ _)
   | (with_reducible exact LeO.refl _)
   | (with_reducible exact LeO.none _)
   | (with_reducible refine LeO.ite ?_ ?_)
   | (with_reducible refine LeO.bind ?_ (fun _ => ?_))
   | exact ih0 _ _ _ _ _ _ _ _ _ _
   | exact ih1 _ _ _ _ _ _ _ _ _ _ _ _ _
   | exact ih2 _ _ _ _ _ _ _ _ _ _ _ _
   | exact ih3 _
   | exact squelchref18_in.mono _ _ _
   | exact squelchref18_place.mono _ _ _ _ _ _ _ _ _ _ _
   | exact LeO.none _
   | refine LeO.ite ?_ ?_
   | refine LeO.bind ?_ (fun _ => ?_)
  ·intro y0
   unfold squelchref18_Check.j3
   repeat' first
   | (with_reducible exact ih0 _ _ _ _ _ _ _ _ _ _)
   | (with_reducible exact ih1 _ _ _ _ _ _ _ _ _ _ _ _ _)
   | (with_reducible exact ih2 _ _ _ _ _ _ _ _ _ _ _ _)
   | (with_reducible exact ih3 _)
   | (with_reducible exact squelchref18_in.mono _ _ _)
   | (with_reducible exact squelchref18_place.mono _ _ _ _ _ _ _ _ _ _ _)
   | (with_reducible exact LeO.refl _)
   | (with_reducible exact LeO.none _)
   | (with_reducible refine LeO.ite ?_ ?_)
   | (with_reducible refine LeO.bind ?_ (fun _ => ?_))
   | exact ih0 _ _ _ _ _ _ _ _ _ _
   | exact ih1 _ _ _ _ _ _ _ _ _ _ _ _ _
   | exact ih2 _ _ _ _ _ _ _ _ _ _ _ _
   | exact ih3 _
   | exact squelchref18_in.mono _ _ _
   | exact squelchref18_place.mono _ _ _ _ _ _ _ _ _ _ _
   | exact LeO.none _
   | refine LeO.ite ?_ ?_
   | refine LeO.bind ?_ (fun _ => ?_)
theorem squelchref18_Check.mono : ∀ a0 a1 a2 a3 a4 a5 a6 a7 a8 k, LeO (squelchref18_Check.f k a0 a1 a2 a3 a4 a5 a6 a7 a8) (squelchref18_Check.f (k + 1) a0 a1 a2 a3 a4 a5 a6 a7 a8) := by
 intro a0 a1 a2 a3 a4 a5 a6 a7 a8 k
 obtain ⟨ih0, ih1, ih2, ih3⟩ := squelchref18_Check.mono_l k
 unfold squelchref18_Check.f
 repeat' first
   | (with_reducible exact ih0 _ _ _ _ _ _ _ _ _ _)
   | (with_reducible exact ih1 _ _ _ _ _ _ _ _ _ _ _ _ _)
   | (with_reducible exact ih2 _ _ _ _ _ _ _ _ _ _ _ _)
   | (with_reducible exact ih3 _)
   | (with_reducible exact squelchref18_in.mono _ _ _)
   | (with_reducible exact squelchref18_place.mono _ _ _ _ _ _ _ _ _ _ _)
   | (with_reducible exact LeO.refl _)
   | (with_reducible exact LeO.none _)
   | (with_reducible refine LeO.ite ?_ ?_)
   | (with_reducible refine LeO.bind ?_ (fun _ => ?_))
   | exact ih0 _ _ _ _ _ _ _ _ _ _
   | exact ih1 _ _ _ _ _ _ _ _ _ _ _ _ _
   | exact ih2 _ _ _ _ _ _ _ _ _ _ _ _
   | exact ih3 _
   | exact squelchref18_in.mono _ _ _
   | exact squelchref18_place.mono _ _ _ _ _ _ _ _ _ _ _
   | exact LeO.none _
   | refine LeO.ite ?_ ?_
   | refine LeO.bind ?_ (fun _ => ?_)
def squelchref18_Check.T14 : Bool × List (List Nat × List Nat) := (true, [([], []), ([0], [0]), ([], []), ([2], [2]), ([1, 3], [1, 3]), ([4], [4]), ([5, 4], [5]), ([6], [6]), ([7, 6], [6, 7]), ([6], [6]), ([9, 6], [6, 9]), ([8, 10, 6], [6, 8, 10]), ([6, 11], [6, 11]), ([12, 6], [12]), ([13], [13]), ([14, 13], [13, 14]), ([15, 13], [13, 15]), ([13, 16], [13, 16]), ([17, 13], [17]), ([18], [18]), ([19, 18], [18, 19]), ([20, 18], [18, 20]), ([18, 21], [18, 21]), ([22, 18], [22]), ([23], [23]), ([23], [23]), ([25, 23], [23, 25]), ([24, 26, 23, 23], [23, 24, 26]), ([23], [23]), ([28, 23], [23, 28]), ([27, 29, 23], [23, 27, 29]), ([23, 30], [23, 30]), ([31, 27], [31]), ([32], [32]), ([33, 32], [32, 33]), ([34, 32, 32], [32, 34]), ([35], [35]), ([36, 35], [35, 36]), ([35], [35]), ([38, 35], [35, 38]), ([37, 39, 35], [35, 37, 39]), ([40, 35], [35, 40]), ([41, 35], [35, 41]), ([35], [35]), ([43, 35], [35, 43]), ([42, 44, 35], [35, 42, 44]), ([35, 45, 32], [32, 35, 45]), ([32, 46], [32, 46])])
def squelchref18_Check.B14 : List Nat := [0, 1, 0, 4, 15, 31, 63, 127, 255, 127, 639, 2047, 4095, 8191, 16383, 32767, 65535, 131071, 262143, 524287, 1048575, 2097151, 4194303, 8388607, 16777215, 16777215, 50331647, 134217727, 16777215, 285212671, 1073741823, 2147483647, 4294967295, 8589934591, 17179869183, 34359738367, 68719476735, 137438953471, 68719476735, 343597383679, 1099511627775, 2199023255551, 4398046511103, 68719476735, 8864812498943, 35184372088831, 70368744177663, 140737488355327]
theorem squelchref18_Check.tab14 : rtab .any (opsOf Try.f15 14) = squelchref18_Check.T14 := by kernel_rfl
theorem squelchref18_Check.bits14 : waitsOk squelchref18_Check.T14.2 squelchref18_Check.B14 = true := by kernel_rfl
end Go.Proofs.Ytflfmpfmnhpbmaa.PA
-- slim
