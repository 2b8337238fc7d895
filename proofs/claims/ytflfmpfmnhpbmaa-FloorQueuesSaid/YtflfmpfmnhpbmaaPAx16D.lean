-- Written for this claim by this session's own printer (wip/patch_print.py over the kit's print).
import Derived.Test.YtflfmpfmnhpbmaaPAx0
import Derived.Test.YtflfmpfmnhpbmaaPAx3
import Derived.Test.YtflfmpfmnhpbmaaPAx6
import Derived.Test.YtflfmpfmnhpbmaaPAx9
import Derived.Test.YtflfmpfmnhpbmaaPAx14
import Derived.Test.YtflfmpfmnhpbmaaHDo
namespace Go.Proofs.Ytflfmpfmnhpbmaa.PA
open Go.RowKit Go.Proofs.YtflfmpfmnhpbmaaW.PrintWords Go.Proofs.YtflfmpfmnhpbmaaW.PrintLast Go.Proofs.YtflfmpfmnhpbmaaW.PrintMore
attribute [local go_sem] max2_int min2_int max_two min_two max_three min_three max_four min_four   -- for this text's walks alone
set_option linter.unusedVariables false
set_option linter.unusedSimpArgs false

def mr (b : Bool) : List Nat → List Bool
 | [] => []
 | n :: r => List.replicate n b ++ mr (!b) r
/-- A mask told by its runs: so many true, so many false, and so on. -/
def mrA (l : List Nat) : Array Bool := (mr true l).toArray
/-! ### squelchlaw18_FloorQueues: function 7 -/
mutual
def squelchlaw18_FloorQueues.l0 : Nat → Int → Int → Bool → List (S32) → Int → Int → Int → Int → Int → Int → Int → Int → Int → List (S43) → List Int → Option (Bool)
 | 0, _, _, _, _, _, _, _, _, _, _, _, _, _, _, _ => none
 | k + 1, x1, x2, x7, x36, x37, x38, x471000, x471001, x471002, x471003, x471004, x471005, x471006, x471007, x471008 => if x38 < x37 then (if 0 ≤ x38 then (if x38 < (x36.length : Int) then ((floor_Do.f k x471000 x471001 x471002 x471003 x471004 x471005 x471006 x471007 x471008 ((rd_T32 x36 x38).f0) ((rd_T32 x36 x38).f1) ((rd_T32 x36 x38).f2) ((rd_T32 x36 x38).f3) ((rd_T32 x36 x38).f4)).bind fun bt473 => (if bt473.2.2.2.2.2.2.2.2.2.2 = 0 then (squelchlaw18_FloorQueues.l0 k x1 x2 x7 x36 x37 (wrap64 (x38 + 1)) bt473.1 bt473.2.1 bt473.2.2.1 bt473.2.2.2.1 bt473.2.2.2.2.1 bt473.2.2.2.2.2.1 bt473.2.2.2.2.2.2.1 bt473.2.2.2.2.2.2.2.1 bt473.2.2.2.2.2.2.2.2.1) else (squelchlaw18_FloorQueues.l0 k x1 x2 x7 x36 x37 (wrap64 (x38 + 1)) x471000 x471001 x471002 x471003 x471004 x471005 x471006 x471007 x471008))) else (none)) else (none)) else ((floor_Do.f k x471000 x471001 x471002 x471003 x471004 x471005 x471006 x471007 x471008 3 x1 x2 0 0).bind fun bt491 => (if bt491.2.2.2.2.2.2.2.2.2.2 = 0 then (if (bt491.2.2.2.2.2.2.2.2.2.1.length : Int) = 0 then (squelchlaw18_FloorQueues.j1 k x1 x7 bt491.2.2.2.2.2.2.2.2.2.1 true x471000 x471001 x471002 x471003 x471004 x471005 x471006 x471007 x471008 bt491.1 bt491.2.1 bt491.2.2.1 bt491.2.2.2.1 bt491.2.2.2.2.1 bt491.2.2.2.2.2.1 bt491.2.2.2.2.2.2.1 bt491.2.2.2.2.2.2.2.1 bt491.2.2.2.2.2.2.2.2.1) else (if (bt491.2.2.2.2.2.2.2.2.2.1.length : Int) > 2 then (squelchlaw18_FloorQueues.j1 k x1 x7 bt491.2.2.2.2.2.2.2.2.2.1 true x471000 x471001 x471002 x471003 x471004 x471005 x471006 x471007 x471008 bt491.1 bt491.2.1 bt491.2.2.1 bt491.2.2.2.1 bt491.2.2.2.2.1 bt491.2.2.2.2.2.1 bt491.2.2.2.2.2.2.1 bt491.2.2.2.2.2.2.2.1 bt491.2.2.2.2.2.2.2.2.1) else (if 0 < (bt491.2.2.2.2.2.2.2.2.2.1.length : Int) then (squelchlaw18_FloorQueues.j1 k x1 x7 bt491.2.2.2.2.2.2.2.2.2.1 (((rd_T38 bt491.2.2.2.2.2.2.2.2.2.1 0).f1) != x1) x471000 x471001 x471002 x471003 x471004 x471005 x471006 x471007 x471008 bt491.1 bt491.2.1 bt491.2.2.1 bt491.2.2.2.1 bt491.2.2.2.2.1 bt491.2.2.2.2.2.1 bt491.2.2.2.2.2.2.1 bt491.2.2.2.2.2.2.2.1 bt491.2.2.2.2.2.2.2.2.1) else (none)))) else (squelchlaw18_FloorQueues.j1 k x1 x7 bt491.2.2.2.2.2.2.2.2.2.1 true x471000 x471001 x471002 x471003 x471004 x471005 x471006 x471007 x471008 bt491.1 bt491.2.1 bt491.2.2.1 bt491.2.2.2.1 bt491.2.2.2.2.1 bt491.2.2.2.2.2.1 bt491.2.2.2.2.2.2.1 bt491.2.2.2.2.2.2.2.1 bt491.2.2.2.2.2.2.2.2.1)))
def squelchlaw18_FloorQueues.j1 : Nat → Int → Bool → List (S38) → Bool → Int → Int → Int → Int → Int → Int → Int → List (S43) → List Int → Int → Int → Int → Int → Int → Int → Int → List (S43) → List Int → Option (Bool)
 | 0, _, _, _, _, _, _, _, _, _, _, _, _, _, _, _, _, _, _, _, _, _, _ => none
 | k + 1, x1, x7, x15, x81, x471000, x471001, x471002, x471003, x471004, x471005, x471006, x471007, x471008, x509000, x509001, x509002, x509003, x509004, x509005, x509006, x509007, x509008 => if x81 = true then (some false) else ((floor_Place.f k x509000 x509001 x509002 x509003 x509004 x509005 x509006 x509007 x509008 x1).bind fun t510 => (if 0 < (x15.length : Int) then (if ((rd_T38 x15 0).f0) = 6 then ((floor_Member.f k x471000 x471001 x471002 x471003 x471004 x471005 x471006 x471007 x471008 x1).bind fun t512 => (if t512 = true then (if (x471007.length : Int) < 4 then (some false) else ((squelchref18_Equal.f k x471000 x471001 x471002 x471003 x471004 x471005 x471006 x471007 x471008 x509000 x509001 x509002 x509003 x509004 x509005 x509006 x509007 x509008).bind fun t513 => (if t513 = true then (some x7) else (some false)))) else ((squelchref18_Equal.f k x471000 x471001 x471002 x471003 x471004 x471005 x471006 x471007 x471008 x509000 x509001 x509002 x509003 x509004 x509005 x509006 x509007 x509008).bind fun t514 => (if t514 = true then (some x7) else (some false))))) else (if ((rd_T38 x15 0).f0) = 7 then (if t510 = ((rd_T38 x15 0).f3) then (squelchlaw18_FloorQueues.j2 k x7 t510 (decide (t510 < 1)) x509000 x509001 x509002 x509003 x509004 x509005 x509006 x509007 x509008) else (squelchlaw18_FloorQueues.j2 k x7 t510 true x509000 x509001 x509002 x509003 x509004 x509005 x509006 x509007 x509008)) else (if ((rd_T38 x15 0).f0) = 5 then (if x509002 = x1 then (if x509000 = 1 then (if x509001 = ((rd_T38 x15 0).f2) then (if x471000 = 0 then (if x509001 = (wrap64 (x471001 + 1)) then (some x7) else (some false)) else (some x7)) else (some false)) else (some false)) else (some false)) else (if ((rd_T38 x15 0).f0) = 8 then (if x471000 = 2 then (if x471002 = x1 then (some x7) else (some false)) else (some false)) else (some false))))) else (none)))
def squelchlaw18_FloorQueues.j2 : Nat → Bool → Int → Bool → Int → Int → Int → Int → Int → Int → Int → List (S43) → List Int → Option (Bool)
 | 0, _, _, _, _, _, _, _, _, _, _, _, _ => none
 | k + 1, x7, x17, x117, x509000, x509001, x509002, x509003, x509004, x509005, x509006, x509007, x509008 => if x117 = true then (some false) else (squelchlaw18_FloorQueues.l1 k x7 x17 x509007 (x509007.length : Int) 0 x509000 x509001 x509002 x509003 x509004 x509005 x509006 x509007 x509008)
def squelchlaw18_FloorQueues.l1 : Nat → Bool → Int → List (S43) → Int → Int → Int → Int → Int → Int → Int → Int → Int → List (S43) → List Int → Option (Bool)
 | 0, _, _, _, _, _, _, _, _, _, _, _, _, _, _ => none
 | k + 1, x7, x17, x119, x120, x121, x509000, x509001, x509002, x509003, x509004, x509005, x509006, x509007, x509008 => if x121 < x120 then (if 0 ≤ x121 then (if x121 < (x119.length : Int) then (if (wrap64 (x121 + 1)) < x17 then (if 0 ≤ (wrap64 (x17 - 1)) then (if (wrap64 (x17 - 1)) < (x509007.length : Int) then (if ((rd_T43 x119 x121).f1) < ((rd_T43 x509007 (wrap64 (x17 - 1))).f1) then (some false) else (if (wrap64 (x121 + 1)) > x17 then (if ((rd_T43 x119 x121).f1) > ((rd_T43 x509007 (wrap64 (x17 - 1))).f1) then (some false) else (squelchlaw18_FloorQueues.l1 k x7 x17 x119 x120 (wrap64 (x121 + 1)) x509000 x509001 x509002 x509003 x509004 x509005 x509006 x509007 x509008)) else (squelchlaw18_FloorQueues.l1 k x7 x17 x119 x120 (wrap64 (x121 + 1)) x509000 x509001 x509002 x509003 x509004 x509005 x509006 x509007 x509008))) else (none)) else (none)) else (if (wrap64 (x121 + 1)) > x17 then (if 0 ≤ (wrap64 (x17 - 1)) then (if (wrap64 (x17 - 1)) < (x509007.length : Int) then (if ((rd_T43 x119 x121).f1) > ((rd_T43 x509007 (wrap64 (x17 - 1))).f1) then (some false) else (squelchlaw18_FloorQueues.l1 k x7 x17 x119 x120 (wrap64 (x121 + 1)) x509000 x509001 x509002 x509003 x509004 x509005 x509006 x509007 x509008)) else (none)) else (none)) else (squelchlaw18_FloorQueues.l1 k x7 x17 x119 x120 (wrap64 (x121 + 1)) x509000 x509001 x509002 x509003 x509004 x509005 x509006 x509007 x509008))) else (none)) else (none)) else (some x7)
end
def squelchlaw18_FloorQueues.f (k : Nat) (l0 : List (S32)) (a1 : Int) (a2 : Int) : Option (Bool) := (squelchlaw18_live.f k).bind fun t455 => ((squelchlaw18_few.f 0 0 0 0 0 0 0 ([] : List (S43)) ([] : List Int) l0).bind fun t456 => (if t456 = true then ((floor_New.f).bind fun bt457 => (squelchlaw18_FloorQueues.l0 k (wrap64 (1 + (Int.tmod (wrap64 ((Int.tmod a1 8) + 8)) 8))) (Int.tmod (wrap64 ((Int.tmod a2 8) + 8)) 8) t455 l0 (l0.length : Int) 0 bt457.1 bt457.2.1 bt457.2.2.1 bt457.2.2.2.1 bt457.2.2.2.2.1 bt457.2.2.2.2.2.1 bt457.2.2.2.2.2.2.1 bt457.2.2.2.2.2.2.2.1 bt457.2.2.2.2.2.2.2.2)) else (some t455)))
theorem squelchlaw18_FloorQueues.mono_l : ∀ k, (∀ y0 y1 y2 y3 y4 y5 y6 y7 y8 y9 y10 y11 y12 y13 y14, LeO (squelchlaw18_FloorQueues.l0 k y0 y1 y2 y3 y4 y5 y6 y7 y8 y9 y10 y11 y12 y13 y14) (squelchlaw18_FloorQueues.l0 (k + 1) y0 y1 y2 y3 y4 y5 y6 y7 y8 y9 y10 y11 y12 y13 y14)) ∧ (∀ y0 y1 y2 y3 y4 y5 y6 y7 y8 y9 y10 y11 y12 y13 y14 y15 y16 y17 y18 y19 y20 y21, LeO (squelchlaw18_FloorQueues.j1 k y0 y1 y2 y3 y4 y5 y6 y7 y8 y9 y10 y11 y12 y13 y14 y15 y16 y17 y18 y19 y20 y21) (squelchlaw18_FloorQueues.j1 (k + 1) y0 y1 y2 y3 y4 y5 y6 y7 y8 y9 y10 y11 y12 y13 y14 y15 y16 y17 y18 y19 y20 y21)) ∧ (∀ y0 y1 y2 y3 y4 y5 y6 y7 y8 y9 y10 y11, LeO (squelchlaw18_FloorQueues.j2 k y0 y1 y2 y3 y4 y5 y6 y7 y8 y9 y10 y11) (squelchlaw18_FloorQueues.j2 (k + 1) y0 y1 y2 y3 y4 y5 y6 y7 y8 y9 y10 y11)) ∧ (∀ y0 y1 y2 y3 y4 y5 y6 y7 y8 y9 y10 y11 y12 y13, LeO (squelchlaw18_FloorQueues.l1 k y0 y1 y2 y3 y4 y5 y6 y7 y8 y9 y10 y11 y12 y13) (squelchlaw18_FloorQueues.l1 (k + 1) y0 y1 y2 y3 y4 y5 y6 y7 y8 y9 y10 y11 y12 y13))
 | 0 => ⟨fun _ _ _ _ _ _ _ _ _ _ _ _ _ _ _ r h => by simp [squelchlaw18_FloorQueues.l0] at h, fun _ _ _ _ _ _ _ _ _ _ _ _ _ _ _ _ _ _ _ _ _ _ r h => by simp [squelchlaw18_FloorQueues.j1] at h, fun _ _ _ _ _ _ _ _ _ _ _ _ r h => by simp [squelchlaw18_FloorQueues.j2] at h, fun _ _ _ _ _ _ _ _ _ _ _ _ _ _ r h => by simp [squelchlaw18_FloorQueues.l1] at h⟩
 | k + 1 => by
  obtain ⟨ih0, ih1, ih2, ih3⟩ := squelchlaw18_FloorQueues.mono_l k
  refine ⟨?_, ?_, ?_, ?_⟩
  ·intro y0 y1 y2 y3 y4 y5 y6 y7 y8 y9 y10 y11 y12 y13 y14
   unfold squelchlaw18_FloorQueues.l0
   repeat' first
   | (with_reducible exact ih0 _ _ _ _ _ _ _ _ _ _ _ _ _ _ _)
   | (with_reducible exact ih1 _ _ _ _ _ _ _ _ _ _ _ _ _ _ _ _ _ _ _ _ _ _)
   | (with_reducible exact ih2 _ _ _ _ _ _ _ _ _ _ _ _)
   | (with_reducible exact ih3 _ _ _ _ _ _ _ _ _ _ _ _ _ _)
   | (with_reducible exact floor_Do.mono _ _ _ _ _ _ _ _ _ _ _ _ _ _ _)
   | (with_reducible exact floor_Member.mono _ _ _ _ _ _ _ _ _ _ _)
   | (with_reducible exact floor_Place.mono _ _ _ _ _ _ _ _ _ _ _)
   | (with_reducible exact squelchlaw18_live.mono _)
   | (with_reducible exact squelchref18_Equal.mono _ _ _ _ _ _ _ _ _ _ _ _ _ _ _ _ _ _ _)
   | (with_reducible exact LeO.refl _)
   | (with_reducible exact LeO.none _)
   | (with_reducible refine LeO.ite ?_ ?_)
   | (with_reducible refine LeO.bind ?_ (fun _ => ?_))
   | exact ih0 _ _ _ _ _ _ _ _ _ _ _ _ _ _ _
   | exact ih1 _ _ _ _ _ _ _ _ _ _ _ _ _ _ _ _ _ _ _ _ _ _
   | exact ih2 _ _ _ _ _ _ _ _ _ _ _ _
   | exact ih3 _ _ _ _ _ _ _ _ _ _ _ _ _ _
   | exact floor_Do.mono _ _ _ _ _ _ _ _ _ _ _ _ _ _ _
   | exact floor_Member.mono _ _ _ _ _ _ _ _ _ _ _
   | exact floor_Place.mono _ _ _ _ _ _ _ _ _ _ _
   | exact squelchlaw18_live.mono _
   | exact squelchref18_Equal.mono _ _ _ _ _ _ _ _ _ _ _ _ _ _ _ _ _ _ _
   | exact LeO.none _
   | refine LeO.ite ?_ ?_
   | refine LeO.bind ?_ (fun _ => ?_)
  ·intro y0 y1 y2 y3 y4 y5 y6 y7 y8 y9 y10 y11 y12 y13 y14 y15 y16 y17 y18 y19 y20 y21
   unfold squelchlaw18_FloorQueues.j1
   repeat' first
   | (with_reducible exact ih0 _ _ _ _ _ _ _ _ _ _ _ _ _ _ _)
   | (with_reducible exact ih1 _ _ _ _ _ _ _ _ _ _ _ _ _ _ _ _ _ _ _ _ _ _)
   | (with_reducible exact ih2 _ _ _ _ _ _ _ _ _ _ _ _)
   | (with_reducible exact ih3 _ _ _ _ _ _ _ _ _ _ _ _ _ _)
   | (with_reducible exact floor_Do.mono _ _ _ _ _ _ _ _ _ _ _ _ _ _ _)
   | (with_reducible exact floor_Member.mono _ _ _ _ _ _ _ _ _ _ _)
   | (with_reducible exact floor_Place.mono _ _ _ _ _ _ _ _ _ _ _)
   | (with_reducible exact squelchlaw18_live.mono _)
   | (with_reducible exact squelchref18_Equal.mono _ _ _ _ _ _ _ _ _ _ _ _ _ _ _ _ _ _ _)
   | (with_reducible exact LeO.refl _)
   | (with_reducible exact LeO.none _)
   | (with_reducible refine LeO.ite ?_ ?_)
   | (with_reducible refine LeO.bind ?_ (fun _ => ?_))
   | exact ih0 _ _ _ _ _ _ _ _ _ _ _ _ _ _ _
   | exact ih1 _ _ _ _ _ _ _ _ _ _ _ _ _ _ _ _ _ _ _ _ _ _
   | exact ih2 _ _ _ _ _ _ _ _ _ _ _ _
   | exact ih3 _ _ _ _ _ _ _ _ _ _ _ _ _ _
   | exact floor_Do.mono _ _ _ _ _ _ _ _ _ _ _ _ _ _ _
   | exact floor_Member.mono _ _ _ _ _ _ _ _ _ _ _
   | exact floor_Place.mono _ _ _ _ _ _ _ _ _ _ _
   | exact squelchlaw18_live.mono _
   | exact squelchref18_Equal.mono _ _ _ _ _ _ _ _ _ _ _ _ _ _ _ _ _ _ _
   | exact LeO.none _
   | refine LeO.ite ?_ ?_
   | refine LeO.bind ?_ (fun _ => ?_)
  ·intro y0 y1 y2 y3 y4 y5 y6 y7 y8 y9 y10 y11
   unfold squelchlaw18_FloorQueues.j2
   repeat' first
   | (with_reducible exact ih0 _ _ _ _ _ _ _ _ _ _ _ _ _ _ _)
   | (with_reducible exact ih1 _ _ _ _ _ _ _ _ _ _ _ _ _ _ _ _ _ _ _ _ _ _)
   | (with_reducible exact ih2 _ _ _ _ _ _ _ _ _ _ _ _)
   | (with_reducible exact ih3 _ _ _ _ _ _ _ _ _ _ _ _ _ _)
   | (with_reducible exact floor_Do.mono _ _ _ _ _ _ _ _ _ _ _ _ _ _ _)
   | (with_reducible exact floor_Member.mono _ _ _ _ _ _ _ _ _ _ _)
   | (with_reducible exact floor_Place.mono _ _ _ _ _ _ _ _ _ _ _)
   | (with_reducible exact squelchlaw18_live.mono _)
   | (with_reducible exact squelchref18_Equal.mono _ _ _ _ _ _ _ _ _ _ _ _ _ _ _ _ _ _ _)
   | (with_reducible exact LeO.refl _)
   | (with_reducible exact LeO.none _)
   | (with_reducible refine LeO.ite ?_ ?_)
   | (with_reducible refine LeO.bind ?_ (fun _ => ?_))
   | exact ih0 _ _ _ _ _ _ _ _ _ _ _ _ _ _ _
   | exact ih1 _ _ _ _ _ _ _ _ _ _ _ _ _ _ _ _ _ _ _ _ _ _
   | exact ih2 _ _ _ _ _ _ _ _ _ _ _ _
   | exact ih3 _ _ _ _ _ _ _ _ _ _ _ _ _ _
   | exact floor_Do.mono _ _ _ _ _ _ _ _ _ _ _ _ _ _ _
   | exact floor_Member.mono _ _ _ _ _ _ _ _ _ _ _
   | exact floor_Place.mono _ _ _ _ _ _ _ _ _ _ _
   | exact squelchlaw18_live.mono _
   | exact squelchref18_Equal.mono _ _ _ _ _ _ _ _ _ _ _ _ _ _ _ _ _ _ _
   | exact LeO.none _
   | refine LeO.ite ?_ ?_
   | refine LeO.bind ?_ (fun _ => ?_)
  ·intro y0 y1 y2 y3 y4 y5 y6 y7 y8 y9 y10 y11 y12 y13
   unfold squelchlaw18_FloorQueues.l1
   repeat' first
   | (with_reducible exact ih0 _ _ _ _ _ _ _ _ _ _ _ _ _ _ _)
   | (with_reducible exact ih1 _ _ _ _ _ _ _ _ _ _ _ _ _ _ _ _ _ _ _ _ _ _)
   | (with_reducible exact ih2 _ _ _ _ _ _ _ _ _ _ _ _)
   | (with_reducible exact ih3 _ _ _ _ _ _ _ _ _ _ _ _ _ _)
   | (with_reducible exact floor_Do.mono _ _ _ _ _ _ _ _ _ _ _ _ _ _ _)
   | (with_reducible exact floor_Member.mono _ _ _ _ _ _ _ _ _ _ _)
   | (with_reducible exact floor_Place.mono _ _ _ _ _ _ _ _ _ _ _)
   | (with_reducible exact squelchlaw18_live.mono _)
   | (with_reducible exact squelchref18_Equal.mono _ _ _ _ _ _ _ _ _ _ _ _ _ _ _ _ _ _ _)
   | (with_reducible exact LeO.refl _)
   | (with_reducible exact LeO.none _)
   | (with_reducible refine LeO.ite ?_ ?_)
   | (with_reducible refine LeO.bind ?_ (fun _ => ?_))
   | exact ih0 _ _ _ _ _ _ _ _ _ _ _ _ _ _ _
   | exact ih1 _ _ _ _ _ _ _ _ _ _ _ _ _ _ _ _ _ _ _ _ _ _
   | exact ih2 _ _ _ _ _ _ _ _ _ _ _ _
   | exact ih3 _ _ _ _ _ _ _ _ _ _ _ _ _ _
   | exact floor_Do.mono _ _ _ _ _ _ _ _ _ _ _ _ _ _ _
   | exact floor_Member.mono _ _ _ _ _ _ _ _ _ _ _
   | exact floor_Place.mono _ _ _ _ _ _ _ _ _ _ _
   | exact squelchlaw18_live.mono _
   | exact squelchref18_Equal.mono _ _ _ _ _ _ _ _ _ _ _ _ _ _ _ _ _ _ _
   | exact LeO.none _
   | refine LeO.ite ?_ ?_
   | refine LeO.bind ?_ (fun _ => ?_)
theorem squelchlaw18_FloorQueues.mono : ∀ a0 a1 a2 k, LeO (squelchlaw18_FloorQueues.f k a0 a1 a2) (squelchlaw18_FloorQueues.f (k + 1) a0 a1 a2) := by
 intro a0 a1 a2 k
 obtain ⟨ih0, ih1, ih2, ih3⟩ := squelchlaw18_FloorQueues.mono_l k
 unfold squelchlaw18_FloorQueues.f
 repeat' first
   | (with_reducible exact ih0 _ _ _ _ _ _ _ _ _ _ _ _ _ _ _)
   | (with_reducible exact ih1 _ _ _ _ _ _ _ _ _ _ _ _ _ _ _ _ _ _ _ _ _ _)
   | (with_reducible exact ih2 _ _ _ _ _ _ _ _ _ _ _ _)
   | (with_reducible exact ih3 _ _ _ _ _ _ _ _ _ _ _ _ _ _)
   | (with_reducible exact floor_Do.mono _ _ _ _ _ _ _ _ _ _ _ _ _ _ _)
   | (with_reducible exact floor_Member.mono _ _ _ _ _ _ _ _ _ _ _)
   | (with_reducible exact floor_Place.mono _ _ _ _ _ _ _ _ _ _ _)
   | (with_reducible exact squelchlaw18_live.mono _)
   | (with_reducible exact squelchref18_Equal.mono _ _ _ _ _ _ _ _ _ _ _ _ _ _ _ _ _ _ _)
   | (with_reducible exact LeO.refl _)
   | (with_reducible exact LeO.none _)
   | (with_reducible refine LeO.ite ?_ ?_)
   | (with_reducible refine LeO.bind ?_ (fun _ => ?_))
   | exact ih0 _ _ _ _ _ _ _ _ _ _ _ _ _ _ _
   | exact ih1 _ _ _ _ _ _ _ _ _ _ _ _ _ _ _ _ _ _ _ _ _ _
   | exact ih2 _ _ _ _ _ _ _ _ _ _ _ _
   | exact ih3 _ _ _ _ _ _ _ _ _ _ _ _ _ _
   | exact floor_Do.mono _ _ _ _ _ _ _ _ _ _ _ _ _ _ _
   | exact floor_Member.mono _ _ _ _ _ _ _ _ _ _ _
   | exact floor_Place.mono _ _ _ _ _ _ _ _ _ _ _
   | exact squelchlaw18_live.mono _
   | exact squelchref18_Equal.mono _ _ _ _ _ _ _ _ _ _ _ _ _ _ _ _ _ _ _
   | exact LeO.none _
   | refine LeO.ite ?_ ?_
   | refine LeO.bind ?_ (fun _ => ?_)
end Go.Proofs.Ytflfmpfmnhpbmaa.PA
-- slim
