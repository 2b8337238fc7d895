-- Written for this claim by this session's own printer (wip/patch_print.py over the kit's print).
import Derived.Test.YtflfmpfmnhpbmaaPAx0
import Derived.Test.YtflfmpfmnhpbmaaPAx3
import Derived.Test.YtflfmpfmnhpbmaaPAx6
import Derived.Test.YtflfmpfmnhpbmaaPAx9
import Derived.Test.YtflfmpfmnhpbmaaPAx13
import Derived.Test.YtflfmpfmnhpbmaaHDo
namespace Go.Proofs.Ytflfmpfmnhpbmaa.PA
open Go.RowKit Go.Proofs.YtflfmpfmnhpbmaaW.PrintWords Go.Proofs.YtflfmpfmnhpbmaaW.PrintLast Go.Proofs.YtflfmpfmnhpbmaaW.PrintMore
attribute [local go_sem] max2_int min2_int max_two min_two max_three min_three max_four min_four   -- for this text's walks alone
set_option linter.unusedVariables false
set_option linter.unusedSimpArgs false

/-! ### squelchlaw18_FloorLeaves: function 9 -/
mutual
def squelchlaw18_FloorLeaves.l0 : Nat → Bool → List (S32) → Int → Int → Int → Int → Int → Int → Int → Int → Int → List (S43) → List Int → Option (Bool)
 | 0, _, _, _, _, _, _, _, _, _, _, _, _, _ => none
 | k + 1, x3, x25, x26, x27, x538000, x538001, x538002, x538003, x538004, x538005, x538006, x538007, x538008 => if x27 < x26 then (if 0 ≤ x27 then (if x27 < (x25.length : Int) then ((floor_Do.f k x538000 x538001 x538002 x538003 x538004 x538005 x538006 x538007 x538008 ((rd_T32 x25 x27).f0) ((rd_T32 x25 x27).f1) ((rd_T32 x25 x27).f2) ((rd_T32 x25 x27).f3) ((rd_T32 x25 x27).f4)).bind fun bt540 => (if bt540.2.2.2.2.2.2.2.2.2.2 = 0 then (squelchlaw18_FloorLeaves.j1 k x3 x25 x26 x27 bt540.1 bt540.2.1 bt540.2.2.1 bt540.2.2.2.1 bt540.2.2.2.2.1 bt540.2.2.2.2.2.1 bt540.2.2.2.2.2.2.1 bt540.2.2.2.2.2.2.2.1 bt540.2.2.2.2.2.2.2.2.1) else (squelchlaw18_FloorLeaves.j1 k x3 x25 x26 x27 x538000 x538001 x538002 x538003 x538004 x538005 x538006 x538007 x538008))) else (none)) else (none)) else (if ([] : List Int).length + x538008.length < 17592186044416 then ((some (([] : List Int) ++ x538008 : List Int)).bind fun y562 => (squelchlaw18_FloorLeaves.l2 k x3 y562 (y562.length : Int) 0 x538000 x538001 x538002 x538003 x538004 x538005 x538006 x538007 x538008)) else (none))
def squelchlaw18_FloorLeaves.j1 : Nat → Bool → List (S32) → Int → Int → Int → Int → Int → Int → Int → Int → Int → List (S43) → List Int → Option (Bool)
 | 0, _, _, _, _, _, _, _, _, _, _, _, _, _ => none
 | k + 1, x3, x25, x26, x27, x538000, x538001, x538002, x538003, x538004, x538005, x538006, x538007, x538008 => squelchlaw18_FloorLeaves.l1 k x3 0 x25 x26 x27 x538008 (x538008.length : Int) 0 x538000 x538001 x538002 x538003 x538004 x538005 x538006 x538007 x538008
def squelchlaw18_FloorLeaves.l1 : Nat → Bool → Int → List (S32) → Int → Int → List Int → Int → Int → Int → Int → Int → Int → Int → Int → Int → List (S43) → List Int → Option (Bool)
 | 0, _, _, _, _, _, _, _, _, _, _, _, _, _, _, _, _, _ => none
 | k + 1, x3, x10, x25, x26, x27, x42, x43, x44, x538000, x538001, x538002, x538003, x538004, x538005, x538006, x538007, x538008 => if x44 < x43 then (if 0 ≤ x44 then (if x44 < (x42.length : Int) then ((floor_Forward.f k x538000 x538001 x538002 x538003 x538004 x538005 x538006 x538007 x538008 (rd x42 x44) x538001).bind fun t559 => (if t559 = true then (squelchlaw18_FloorLeaves.j3 k x3 (wrap64 (x10 + 1)) (rd x42 x44) x25 x26 x27 x42 x43 x44 x538000 x538001 x538002 x538003 x538004 x538005 x538006 x538007 x538008) else (squelchlaw18_FloorLeaves.j3 k x3 x10 (rd x42 x44) x25 x26 x27 x42 x43 x44 x538000 x538001 x538002 x538003 x538004 x538005 x538006 x538007 x538008))) else (none)) else (none)) else (if ((x10 == 1) != (x538000 != 0)) = true then (some false) else (if x10 > 1 then (some false) else (squelchlaw18_FloorLeaves.l0 k x3 x25 x26 (wrap64 (x27 + 1)) x538000 x538001 x538002 x538003 x538004 x538005 x538006 x538007 x538008)))
def squelchlaw18_FloorLeaves.j3 : Nat → Bool → Int → Int → List (S32) → Int → Int → List Int → Int → Int → Int → Int → Int → Int → Int → Int → Int → List (S43) → List Int → Option (Bool)
 | 0, _, _, _, _, _, _, _, _, _, _, _, _, _, _, _, _, _, _ => none
 | k + 1, x3, x10, x12, x25, x26, x27, x42, x43, x44, x538000, x538001, x538002, x538003, x538004, x538005, x538006, x538007, x538008 => (floor_Forward.f k x538000 x538001 x538002 x538003 x538004 x538005 x538006 x538007 x538008 x12 (wrap64 (x538001 + 1))).bind fun t560 => (if t560 = true then (some false) else ((floor_Forward.f k x538000 x538001 x538002 x538003 x538004 x538005 x538006 x538007 x538008 x12 (wrap64 (x538001 - 1))).bind fun t561 => (if t561 = true then (some false) else (squelchlaw18_FloorLeaves.l1 k x3 x10 x25 x26 x27 x42 x43 (wrap64 (x44 + 1)) x538000 x538001 x538002 x538003 x538004 x538005 x538006 x538007 x538008))))
def squelchlaw18_FloorLeaves.l2 : Nat → Bool → List Int → Int → Int → Int → Int → Int → Int → Int → Int → Int → List (S43) → List Int → Option (Bool)
 | 0, _, _, _, _, _, _, _, _, _, _, _, _, _ => none
 | k + 1, x3, x83, x84, x85, x538000, x538001, x538002, x538003, x538004, x538005, x538006, x538007, x538008 => if x85 < x84 then (if 0 ≤ x85 then (if x85 < (x83.length : Int) then ((floor_Do.f k x538000 x538001 x538002 x538003 x538004 x538005 x538006 x538007 x538008 2 (rd x83 x85) 0 0 0).bind fun bt566 => (if bt566.2.2.2.2.2.2.2.2.2.2 = 0 then ((floor_Member.f k bt566.1 bt566.2.1 bt566.2.2.1 bt566.2.2.2.1 bt566.2.2.2.2.1 bt566.2.2.2.2.2.1 bt566.2.2.2.2.2.2.1 bt566.2.2.2.2.2.2.2.1 bt566.2.2.2.2.2.2.2.2.1 (rd x83 x85)).bind fun t584 => (if t584 = true then (some false) else ((floor_Place.f k bt566.1 bt566.2.1 bt566.2.2.1 bt566.2.2.2.1 bt566.2.2.2.2.1 bt566.2.2.2.2.2.1 bt566.2.2.2.2.2.2.1 bt566.2.2.2.2.2.2.2.1 bt566.2.2.2.2.2.2.2.2.1 (rd x83 x85)).bind fun t585 => (if t585 = 0 then (squelchlaw18_FloorLeaves.l2 k x3 x83 x84 (wrap64 (x85 + 1)) bt566.1 bt566.2.1 bt566.2.2.1 bt566.2.2.2.1 bt566.2.2.2.2.1 bt566.2.2.2.2.2.1 bt566.2.2.2.2.2.2.1 bt566.2.2.2.2.2.2.2.1 bt566.2.2.2.2.2.2.2.2.1) else (some false))))) else (some false))) else (none)) else (none)) else (if x3 = true then (if x538000 = 0 then (some ((wrap64 ((x538008.length : Int) + (x538007.length : Int))) == 0)) else (some false)) else (some false))
end
def squelchlaw18_FloorLeaves.f (k : Nat) (l0 : List (S32)) : Option (Bool) := (squelchlaw18_live.f k).bind fun t522 => ((squelchlaw18_few.f 0 0 0 0 0 0 0 ([] : List (S43)) ([] : List Int) l0).bind fun t523 => (if t523 = true then ((floor_New.f).bind fun bt524 => (squelchlaw18_FloorLeaves.l0 k t522 l0 (l0.length : Int) 0 bt524.1 bt524.2.1 bt524.2.2.1 bt524.2.2.2.1 bt524.2.2.2.2.1 bt524.2.2.2.2.2.1 bt524.2.2.2.2.2.2.1 bt524.2.2.2.2.2.2.2.1 bt524.2.2.2.2.2.2.2.2)) else (some t522)))
theorem squelchlaw18_FloorLeaves.mono_l : ∀ k, (∀ y0 y1 y2 y3 y4 y5 y6 y7 y8 y9 y10 y11 y12, LeO (squelchlaw18_FloorLeaves.l0 k y0 y1 y2 y3 y4 y5 y6 y7 y8 y9 y10 y11 y12) (squelchlaw18_FloorLeaves.l0 (k + 1) y0 y1 y2 y3 y4 y5 y6 y7 y8 y9 y10 y11 y12)) ∧ (∀ y0 y1 y2 y3 y4 y5 y6 y7 y8 y9 y10 y11 y12, LeO (squelchlaw18_FloorLeaves.j1 k y0 y1 y2 y3 y4 y5 y6 y7 y8 y9 y10 y11 y12) (squelchlaw18_FloorLeaves.j1 (k + 1) y0 y1 y2 y3 y4 y5 y6 y7 y8 y9 y10 y11 y12)) ∧ (∀ y0 y1 y2 y3 y4 y5 y6 y7 y8 y9 y10 y11 y12 y13 y14 y15 y16, LeO (squelchlaw18_FloorLeaves.l1 k y0 y1 y2 y3 y4 y5 y6 y7 y8 y9 y10 y11 y12 y13 y14 y15 y16) (squelchlaw18_FloorLeaves.l1 (k + 1) y0 y1 y2 y3 y4 y5 y6 y7 y8 y9 y10 y11 y12 y13 y14 y15 y16)) ∧ (∀ y0 y1 y2 y3 y4 y5 y6 y7 y8 y9 y10 y11 y12 y13 y14 y15 y16 y17, LeO (squelchlaw18_FloorLeaves.j3 k y0 y1 y2 y3 y4 y5 y6 y7 y8 y9 y10 y11 y12 y13 y14 y15 y16 y17) (squelchlaw18_FloorLeaves.j3 (k + 1) y0 y1 y2 y3 y4 y5 y6 y7 y8 y9 y10 y11 y12 y13 y14 y15 y16 y17)) ∧ (∀ y0 y1 y2 y3 y4 y5 y6 y7 y8 y9 y10 y11 y12, LeO (squelchlaw18_FloorLeaves.l2 k y0 y1 y2 y3 y4 y5 y6 y7 y8 y9 y10 y11 y12) (squelchlaw18_FloorLeaves.l2 (k + 1) y0 y1 y2 y3 y4 y5 y6 y7 y8 y9 y10 y11 y12))
 | 0 => ⟨fun _ _ _ _ _ _ _ _ _ _ _ _ _ r h => by simp [squelchlaw18_FloorLeaves.l0] at h, fun _ _ _ _ _ _ _ _ _ _ _ _ _ r h => by simp [squelchlaw18_FloorLeaves.j1] at h, fun _ _ _ _ _ _ _ _ _ _ _ _ _ _ _ _ _ r h => by simp [squelchlaw18_FloorLeaves.l1] at h, fun _ _ _ _ _ _ _ _ _ _ _ _ _ _ _ _ _ _ r h => by simp [squelchlaw18_FloorLeaves.j3] at h, fun _ _ _ _ _ _ _ _ _ _ _ _ _ r h => by simp [squelchlaw18_FloorLeaves.l2] at h⟩
 | k + 1 => by
  obtain ⟨ih0, ih1, ih2, ih3, ih4⟩ := squelchlaw18_FloorLeaves.mono_l k
  refine ⟨?_, ?_, ?_, ?_, ?_⟩
  ·intro y0 y1 y2 y3 y4 y5 y6 y7 y8 y9 y10 y11 y12
   unfold squelchlaw18_FloorLeaves.l0
   repeat' first
   | (with_reducible exact ih0 _ _ _ _ _ _ _ _ _ _ _ _ _)
   | (with_reducible exact ih1 _ _ _ _ _ _ _ _ _ _ _ _ _)
   | (with_reducible exact ih2 _ _ _ _ _ _ _ _ _ _ _ _ _ _ _ _ _)
   | (with_reducible exact ih3 _ _ _ _ _ _ _ _ _ _ _ _ _ _ _ _ _ _)
   | (with_reducible exact ih4 _ _ _ _ _ _ _ _ _ _ _ _ _)
   | (with_reducible exact floor_Do.mono _ _ _ _ _ _ _ _ _ _ _ _ _ _ _)
   | (with_reducible exact floor_Forward.mono _ _ _ _ _ _ _ _ _ _ _ _)
   | (with_reducible exact floor_Member.mono _ _ _ _ _ _ _ _ _ _ _)
   | (with_reducible exact floor_Place.mono _ _ _ _ _ _ _ _ _ _ _)
   | (with_reducible exact squelchlaw18_live.mono _)
   | (with_reducible exact LeO.refl _)
   | (with_reducible exact LeO.none _)
   | (with_reducible refine LeO.ite ?_ ?_)
   | (with_reducible refine LeO.bind ?_ (fun _ => ?_))
   | exact ih0 _ _ _ _ _ _ _ _ _ _ _ _ _
   | exact ih1 _ _ _ _ _ _ _ _ _ _ _ _ _
   | exact ih2 _ _ _ _ _ _ _ _ _ _ _ _ _ _ _ _ _
   | exact ih3 _ _ _ _ _ _ _ _ _ _ _ _ _ _ _ _ _ _
   | exact ih4 _ _ _ _ _ _ _ _ _ _ _ _ _
   | exact floor_Do.mono _ _ _ _ _ _ _ _ _ _ _ _ _ _ _
   | exact floor_Forward.mono _ _ _ _ _ _ _ _ _ _ _ _
   | exact floor_Member.mono _ _ _ _ _ _ _ _ _ _ _
   | exact floor_Place.mono _ _ _ _ _ _ _ _ _ _ _
   | exact squelchlaw18_live.mono _
   | exact LeO.none _
   | refine LeO.ite ?_ ?_
   | refine LeO.bind ?_ (fun _ => ?_)
  ·intro y0 y1 y2 y3 y4 y5 y6 y7 y8 y9 y10 y11 y12
   unfold squelchlaw18_FloorLeaves.j1
   repeat' first
   | (with_reducible exact ih0 _ _ _ _ _ _ _ _ _ _ _ _ _)
   | (with_reducible exact ih1 _ _ _ _ _ _ _ _ _ _ _ _ _)
   | (with_reducible exact ih2 _ _ _ _ _ _ _ _ _ _ _ _ _ _ _ _ _)
   | (with_reducible exact ih3 _ _ _ _ _ _ _ _ _ _ _ _ _ _ _ _ _ _)
   | (with_reducible exact ih4 _ _ _ _ _ _ _ _ _ _ _ _ _)
   | (with_reducible exact floor_Do.mono _ _ _ _ _ _ _ _ _ _ _ _ _ _ _)
   | (with_reducible exact floor_Forward.mono _ _ _ _ _ _ _ _ _ _ _ _)
   | (with_reducible exact floor_Member.mono _ _ _ _ _ _ _ _ _ _ _)
   | (with_reducible exact floor_Place.mono _ _ _ _ _ _ _ _ _ _ _)
   | (with_reducible exact squelchlaw18_live.mono _)
   | (with_reducible exact LeO.refl _)
   | (with_reducible exact LeO.none _)
   | (with_reducible refine LeO.ite ?_ ?_)
   | (with_reducible refine LeO.bind ?_ (fun _ => ?_))
   | exact ih0 _ _ _ _ _ _ _ _ _ _ _ _ _
   | exact ih1 _ _ _ _ _ _ _ _ _ _ _ _ _
   | exact ih2 _ _ _ _ _ _ _ _ _ _ _ _ _ _ _ _ _
   | exact ih3 _ _ _ _ _ _ _ _ _ _ _ _ _ _ _ _ _ _
   | exact ih4 _ _ _ _ _ _ _ _ _ _ _ _ _
   | exact floor_Do.mono _ _ _ _ _ _ _ _ _ _ _ _ _ _ _
   | exact floor_Forward.mono _ _ _ _ _ _ _ _ _ _ _ _
   | exact floor_Member.mono _ _ _ _ _ _ _ _ _ _ _
   | exact floor_Place.mono _ _ _ _ _ _ _ _ _ _ _
   | exact squelchlaw18_live.mono _
   | exact LeO.none _
   | refine LeO.ite ?_ ?_
   | refine LeO.bind ?_ (fun _ => ?_)
  ·intro y0 y1 y2 y3 y4 y5 y6 y7 y8 y9 y10 y11 y12 y13 y14 y15 y16
   unfold squelchlaw18_FloorLeaves.l1
   repeat' first
   | (with_reducible exact ih0 _ _ _ _ _ _ _ _ _ _ _ _ _)
   | (with_reducible exact ih1 _ _ _ _ _ _ _ _ _ _ _ _ _)
   | (with_reducible exact ih2 _ _ _ _ _ _ _ _ _ _ _ _ _ _ _ _ _)
   | (with_reducible exact ih3 _ _ _ _ _ _ _ _ _ _ _ _ _ _ _ _ _ _)
   | (with_reducible exact ih4 _ _ _ _ _ _ _ _ _ _ _ _ _)
   | (with_reducible exact floor_Do.mono _ _ _ _ _ _ _ _ _ _ _ _ _ _ _)
   | (with_reducible exact floor_Forward.mono _ _ _ _ _ _ _ _ _ _ _ _)
   | (with_reducible exact floor_Member.mono _ _ _ _ _ _ _ _ _ _ _)
   | (with_reducible exact floor_Place.mono _ _ _ _ _ _ _ _ _ _ _)
   | (with_reducible exact squelchlaw18_live.mono _)
   | (with_reducible exact LeO.refl _)
   | (with_reducible exact LeO.none _)
   | (with_reducible refine LeO.ite ?_ ?_)
   | (with_reducible refine LeO.bind ?_ (fun _ => ?_))
   | exact ih0 _ _ _ _ _ _ _ _ _ _ _ _ _
   | exact ih1 _ _ _ _ _ _ _ _ _ _ _ _ _
   | exact ih2 _ _ _ _ _ _ _ _ _ _ _ _ _ _ _ _ _
   | exact ih3 _ _ _ _ _ _ _ _ _ _ _ _ _ _ _ _ _ _
   | exact ih4 _ _ _ _ _ _ _ _ _ _ _ _ _
   | exact floor_Do.mono _ _ _ _ _ _ _ _ _ _ _ _ _ _ _
   | exact floor_Forward.mono _ _ _ _ _ _ _ _ _ _ _ _
   | exact floor_Member.mono _ _ _ _ _ _ _ _ _ _ _
   | exact floor_Place.mono _ _ _ _ _ _ _ _ _ _ _
   | exact squelchlaw18_live.mono _
   | exact LeO.none _
   | refine LeO.ite ?_ ?_
   | refine LeO.bind ?_ (fun _ => ?_)
  ·intro y0 y1 y2 y3 y4 y5 y6 y7 y8 y9 y10 y11 y12 y13 y14 y15 y16 y17
   unfold squelchlaw18_FloorLeaves.j3
   repeat' first
   | (with_reducible exact ih0 _ _ _ _ _ _ _ _ _ _ _ _ _)
   | (with_reducible exact ih1 _ _ _ _ _ _ _ _ _ _ _ _ _)
   | (with_reducible exact ih2 _ _ _ _ _ _ _ _ _ _ _ _ _ _ _ _ _)
   | (with_reducible exact ih3 _ _ _ _ _ _ _ _ _ _ _ _ _ _ _ _ _ _)
   | (with_reducible exact ih4 _ _ _ _ _ _ _ _ _ _ _ _ _)
   | (with_reducible exact floor_Do.mono _ _ _ _ _ _ _ _ _ _ _ _ _ _ _)
   | (with_reducible exact floor_Forward.mono _ _ _ _ _ _ _ _ _ _ _ _)
   | (with_reducible exact floor_Member.mono _ _ _ _ _ _ _ _ _ _ _)
   | (with_reducible exact floor_Place.mono _ _ _ _ _ _ _ _ _ _ _)
   | (with_reducible exact squelchlaw18_live.mono _)
   | (with_reducible exact LeO.refl _)
   | (with_reducible exact LeO.none _)
   | (with_reducible refine LeO.ite ?_ ?_)
   | (with_reducible refine LeO.bind ?_ (fun _ => ?_))
   | exact ih0 _ _ _ _ _ _ _ _ _ _ _ _ _
   | exact ih1 _ _ _ _ _ _ _ _ _ _ _ _ _
   | exact ih2 _ _ _ _ _ _ _ _ _ _ _ _ _ _ _ _ _
   | exact ih3 _ _ _ _ _ _ _ _ _ _ _ _ _ _ _ _ _ _
   | exact ih4 _ _ _ _ _ _ _ _ _ _ _ _ _
   | exact floor_Do.mono _ _ _ _ _ _ _ _ _ _ _ _ _ _ _
   | exact floor_Forward.mono _ _ _ _ _ _ _ _ _ _ _ _
   | exact floor_Member.mono _ _ _ _ _ _ _ _ _ _ _
   | exact floor_Place.mono _ _ _ _ _ _ _ _ _ _ _
   | exact squelchlaw18_live.mono _
   | exact LeO.none _
   | refine LeO.ite ?_ ?_
   | refine LeO.bind ?_ (fun _ => ?_)
  ·intro y0 y1 y2 y3 y4 y5 y6 y7 y8 y9 y10 y11 y12
   unfold squelchlaw18_FloorLeaves.l2
   repeat' first
   | (with_reducible exact ih0 _ _ _ _ _ _ _ _ _ _ _ _ _)
   | (with_reducible exact ih1 _ _ _ _ _ _ _ _ _ _ _ _ _)
   | (with_reducible exact ih2 _ _ _ _ _ _ _ _ _ _ _ _ _ _ _ _ _)
   | (with_reducible exact ih3 _ _ _ _ _ _ _ _ _ _ _ _ _ _ _ _ _ _)
   | (with_reducible exact ih4 _ _ _ _ _ _ _ _ _ _ _ _ _)
   | (with_reducible exact floor_Do.mono _ _ _ _ _ _ _ _ _ _ _ _ _ _ _)
   | (with_reducible exact floor_Forward.mono _ _ _ _ _ _ _ _ _ _ _ _)
   | (with_reducible exact floor_Member.mono _ _ _ _ _ _ _ _ _ _ _)
   | (with_reducible exact floor_Place.mono _ _ _ _ _ _ _ _ _ _ _)
   | (with_reducible exact squelchlaw18_live.mono _)
   | (with_reducible exact LeO.refl _)
   | (with_reducible exact LeO.none _)
   | (with_reducible refine LeO.ite ?_ ?_)
   | (with_reducible refine LeO.bind ?_ (fun _ => ?_))
   | exact ih0 _ _ _ _ _ _ _ _ _ _ _ _ _
   | exact ih1 _ _ _ _ _ _ _ _ _ _ _ _ _
   | exact ih2 _ _ _ _ _ _ _ _ _ _ _ _ _ _ _ _ _
   | exact ih3 _ _ _ _ _ _ _ _ _ _ _ _ _ _ _ _ _ _
   | exact ih4 _ _ _ _ _ _ _ _ _ _ _ _ _
   | exact floor_Do.mono _ _ _ _ _ _ _ _ _ _ _ _ _ _ _
   | exact floor_Forward.mono _ _ _ _ _ _ _ _ _ _ _ _
   | exact floor_Member.mono _ _ _ _ _ _ _ _ _ _ _
   | exact floor_Place.mono _ _ _ _ _ _ _ _ _ _ _
   | exact squelchlaw18_live.mono _
   | exact LeO.none _
   | refine LeO.ite ?_ ?_
   | refine LeO.bind ?_ (fun _ => ?_)
theorem squelchlaw18_FloorLeaves.mono : ∀ a0 k, LeO (squelchlaw18_FloorLeaves.f k a0) (squelchlaw18_FloorLeaves.f (k + 1) a0) := by
 intro a0 k
 obtain ⟨ih0, ih1, ih2, ih3, ih4⟩ := squelchlaw18_FloorLeaves.mono_l k
 unfold squelchlaw18_FloorLeaves.f
 repeat' first
   | (with_reducible exact ih0 _ _ _ _ _ _ _ _ _ _ _ _ _)
   | (with_reducible exact ih1 _ _ _ _ _ _ _ _ _ _ _ _ _)
   | (with_reducible exact ih2 _ _ _ _ _ _ _ _ _ _ _ _ _ _ _ _ _)
   | (with_reducible exact ih3 _ _ _ _ _ _ _ _ _ _ _ _ _ _ _ _ _ _)
   | (with_reducible exact ih4 _ _ _ _ _ _ _ _ _ _ _ _ _)
   | (with_reducible exact floor_Do.mono _ _ _ _ _ _ _ _ _ _ _ _ _ _ _)
   | (with_reducible exact floor_Forward.mono _ _ _ _ _ _ _ _ _ _ _ _)
   | (with_reducible exact floor_Member.mono _ _ _ _ _ _ _ _ _ _ _)
   | (with_reducible exact floor_Place.mono _ _ _ _ _ _ _ _ _ _ _)
   | (with_reducible exact squelchlaw18_live.mono _)
   | (with_reducible exact LeO.refl _)
   | (with_reducible exact LeO.none _)
   | (with_reducible refine LeO.ite ?_ ?_)
   | (with_reducible refine LeO.bind ?_ (fun _ => ?_))
   | exact ih0 _ _ _ _ _ _ _ _ _ _ _ _ _
   | exact ih1 _ _ _ _ _ _ _ _ _ _ _ _ _
   | exact ih2 _ _ _ _ _ _ _ _ _ _ _ _ _ _ _ _ _
   | exact ih3 _ _ _ _ _ _ _ _ _ _ _ _ _ _ _ _ _ _
   | exact ih4 _ _ _ _ _ _ _ _ _ _ _ _ _
   | exact floor_Do.mono _ _ _ _ _ _ _ _ _ _ _ _ _ _ _
   | exact floor_Forward.mono _ _ _ _ _ _ _ _ _ _ _ _
   | exact floor_Member.mono _ _ _ _ _ _ _ _ _ _ _
   | exact floor_Place.mono _ _ _ _ _ _ _ _ _ _ _
   | exact squelchlaw18_live.mono _
   | exact LeO.none _
   | refine LeO.ite ?_ ?_
   | refine LeO.bind ?_ (fun _ => ?_)
set_option maxHeartbeats 8000000 in
set_option maxRecDepth 100000 in
theorem squelchlaw18_FloorLeaves.calls (k : Nat) (A0 : Option Addr) (c0 : Nat) (l0 : List (S32)) (r : Bool) (w : World) (hr0 : Kd.C k32 w A0 l0.length l0) (hc0 : l0.length ≤ c0) (h : squelchlaw18_FloorLeaves.f k l0 = some r) (hr_ : r = true) :
  Calls Try.prog 9 #[.slice A0 l0.length c0] w fun e w' => e = .returned (.bool r) ∧ Below w.heap.size w w' := by
 have HR_ := Aside0.mk hr_
 clear hr_
 have hu28 := Try.underlying28
 have hu32 := Try.underlying32
 have HR0 := Aside0.mk hr0
 have HC0 := Aside0.mk hc0
 clear hr0 hc0
 have HB := Aside0.mk (Below.refl w.heap.size w)
 have H : ((squelchlaw18_live.f k).bind fun t522 => ((squelchlaw18_few.f 0 0 0 0 0 0 0 ([] : List (S43)) ([] : List Int) l0).bind fun t523 => (if t523 = true then ((floor_New.f).bind fun bt524 => (squelchlaw18_FloorLeaves.l0 k t522 l0 (l0.length : Int) 0 bt524.1 bt524.2.1 bt524.2.2.1 bt524.2.2.2.1 bt524.2.2.2.2.1 bt524.2.2.2.2.2.1 bt524.2.2.2.2.2.2.1 bt524.2.2.2.2.2.2.2.1 bt524.2.2.2.2.2.2.2.2)) else (some t522)))) = some r := h
 clear h
 replace H := Option.bind_eq_some_iff.mp H
 obtain ⟨t522, A20, H⟩ := H
 replace H : ((squelchlaw18_few.f 0 0 0 0 0 0 0 ([] : List (S43)) ([] : List Int) l0).bind fun t523 => (if t523 = true then ((floor_New.f).bind fun bt524 => (squelchlaw18_FloorLeaves.l0 k t522 l0 (l0.length : Int) 0 bt524.1 bt524.2.1 bt524.2.2.1 bt524.2.2.2.1 bt524.2.2.2.2.1 bt524.2.2.2.2.2.1 bt524.2.2.2.2.2.2.1 bt524.2.2.2.2.2.2.2.1 bt524.2.2.2.2.2.2.2.2)) else (some t522))) = some r := H
 have A2 := Aside0.mk A20
 clear A20
 replace H := Option.bind_eq_some_iff.mp H
 obtain ⟨t523, A30, H⟩ := H
 replace H : (if t523 = true then ((floor_New.f).bind fun bt524 => (squelchlaw18_FloorLeaves.l0 k t522 l0 (l0.length : Int) 0 bt524.1 bt524.2.1 bt524.2.2.1 bt524.2.2.2.1 bt524.2.2.2.2.1 bt524.2.2.2.2.2.1 bt524.2.2.2.2.2.2.1 bt524.2.2.2.2.2.2.2.1 bt524.2.2.2.2.2.2.2.2)) else (some t522)) = some r := H
 have A3 := Aside0.mk A30
 clear A30
 by_cases c4 : t523 = true
 ·subst c4
  have H1 : ((floor_New.f).bind fun bt524 => (squelchlaw18_FloorLeaves.l0 k t522 l0 (l0.length : Int) 0 bt524.1 bt524.2.1 bt524.2.2.1 bt524.2.2.2.1 bt524.2.2.2.2.1 bt524.2.2.2.2.2.1 bt524.2.2.2.2.2.2.1 bt524.2.2.2.2.2.2.2.1 bt524.2.2.2.2.2.2.2.2)) = some r := by rw [if_pos rfl] at H; exact H
  clear H
  have H := H1
  clear H1
  replace H := Option.bind_eq_some_iff.mp H
  obtain ⟨⟨t524, t525, t526, t527, t528, t529, t530, t531, t534⟩, A50, H⟩ := H
  replace H : (squelchlaw18_FloorLeaves.l0 k t522 l0 (l0.length : Int) 0 t524 t525 t526 t527 t528 t529 t530 t531 t534) = some r := H
  have A5 := Aside0.mk A50
  clear A50
  have H' := Aside0.mk H
  clear H
  go_enter Try.func9, Try.ntmps9
  go_wp2_with (first | ((with_reducible refine gate_callee (f := 11) rfl ?_); refine goesL_ (some 18) rfl rfl Try.func11 (by kernel_rfl) rfl #[] rfl (by (try simp only [List.map_toArray, List.map_cons, List.map_nil]); first | done | rfl | (simp only [List.length_drop, List.length_take]; rfl)) ?_; (with_reducible refine (squelchlaw18_live.calls k  t522 _ A2.out).mono ?_); rintro e w6 ⟨rfl, hb⟩; refine ⟨_, rfl, ?_⟩; have n0_ := Aside0.mk (below_step (by repeat (first | (with_reducible first | exact HB.out | apply below_alloc | apply pw_below_drewN | apply below_drew1) | exact HB.out)) hb); clear HB; have HB := n0_; clear n0_; (try clear hb); (try clear hb2); (try clear hk); (try clear hi)) | ((with_reducible refine gate_callee (f := 12) rfl ?_); refine goesL_ (some 21) rfl rfl Try.func12 (by kernel_rfl) rfl #[.agg #[.int .i64 0, .int .i64 0, .int .i64 0, .int .i64 0, .int .i64 0, .int .i64 0, .int .i64 0, .slice none 0 0, .slice none 0 0], .slice A0 l0.length c0] rfl (by (try simp only [List.map_toArray, List.map_cons, List.map_nil]); first | done | rfl | (simp only [List.length_drop, List.length_take]; rfl)) ?_; (refine (squelchlaw18_few.calls 0 0 0 0 0 0 0 _ _ ([] : List (S43)) _ _ ([] : List Int) _ _ l0 true _ ?side1 ?side2 ?side3 ?side4 ?side5 ?side6 A3.out).mono ?_); (case side1 => exact Kd.C_nil _ _); (case side2 => exact Nat.le_refl _); (case side3 => exact Kd.C_nil _ _); (case side4 => exact Nat.le_refl _); (case side5 => repeat (first | exact (Kd.C_below HR0.out HB.out) | (with_reducible refine Kd.C_alloc ?_ _) | (with_reducible refine Kd.C_drewN ?_ _) | (with_reducible refine Kd.C_drew ?_))); (case side6 => exact HC0.out); rintro e w7 ⟨rfl, hb⟩; refine ⟨_, rfl, ?_⟩; have n0_ := Aside0.mk (below_step (by repeat (first | (with_reducible first | exact HB.out | apply below_alloc | apply pw_below_drewN | apply below_drew1) | exact HB.out)) hb); clear HB; have HB := n0_; clear n0_; (try clear hb); (try clear hb2); (try clear hk); (try clear hi)) | ((with_reducible refine gate_callee (f := 13) rfl ?_); refine goesL_ (some 24) rfl rfl Try.func13 (by kernel_rfl) rfl #[] rfl (by (try simp only [List.map_toArray, List.map_cons, List.map_nil]); first | done | rfl | (simp only [List.length_drop, List.length_take]; rfl)) ?_; (with_reducible refine (floor_New.calls  t524 t525 t526 t527 t528 t529 t530 t531 t534 _ A5.out).mono ?_); rintro e w8 ⟨v532, v535, rfl, ho0, ho1, hb⟩; refine ⟨_, rfl, ?_⟩; have n0_ := Aside0.mk (Kd.R_lower ho0 (below_size (by repeat (first | (with_reducible first | exact HB.out | apply below_alloc | apply pw_below_drewN | apply below_drew1) | exact HB.out)))); have n1_ := Aside0.mk (Kd.R_lower ho1 (below_size (by repeat (first | (with_reducible first | exact HB.out | apply below_alloc | apply pw_below_drewN | apply below_drew1) | exact HB.out)))); have n2_ := Aside0.mk (below_step (by repeat (first | (with_reducible first | exact HB.out | apply below_alloc | apply pw_below_drewN | apply below_drew1) | exact HB.out)) hb); clear HB; have HO533 := n0_; have HO536 := n1_; have HB := n2_; clear n0_ n1_ n2_; (try clear hb); (try clear hb2); (try clear hk); (try clear hi); (try clear ho0); (try clear ho1)) | ((with_reducible refine gate_dst (N := 4) rfl ?_); (try (refine gate_guard (by rfl) ?_; dsimp only)); refine box_event ?hg (N := 4) ?hd (cs := #[.int .i64 0, .int .i64 0, .int .i64 0, .int .i64 0, .int .i64 0, .int .i64 0, .int .i64 0, .slice none 0 0, .slice none 0 0]) (t := 28) ?hr ?_; (case hd => rfl); (case hg => rfl); (case hr => first | (go_simp; done) | (go_simp; rfl)); intro gb537 hg w9 hbox hb; have n0_ := Aside0.mk (Kd.R_below (by (with_reducible repeat (first | apply Kd.R_alloc | apply Kd.R_drewN | apply Kd.R_drew)); exact HO533.out) hb); have n1_ := Aside0.mk (Kd.R_below (by (with_reducible repeat (first | apply Kd.R_alloc | apply Kd.R_drewN | apply Kd.R_drew)); exact HO536.out) hb); have n2_ := Aside0.mk (below_step (by repeat (first | (with_reducible first | exact HB.out | apply below_alloc | apply pw_below_drewN | apply below_drew1) | exact HB.out)) hb); have n3_ := Aside0.mk (hbox); have n4_ := Aside0.mk ((by rw [hg]; exact (below_size (by repeat (first | (with_reducible first | exact HB.out | apply below_alloc | apply pw_below_drewN | apply below_drew1) | exact HB.out))) : w.heap.size ≤ gb537)); have n5_ := Aside0.mk ((by rw [hg]; exact (below_size (by repeat (first | (with_reducible first | exact HB.out | apply below_alloc | apply pw_below_drewN | apply below_drew1) | exact HB.out))) : w.heap.size ≤ gb537)); clear HO533; clear HO536; clear HB; have HO533 := n0_; have HO536 := n1_; have HB := n2_; have BK537 := n3_; have GW537 := n4_; have GE537 := n5_; clear n0_ n1_ n2_ n3_ n4_ n5_; clear hb hbox hg; have hcz10_0 : w9.cell? ⟨gb537, 0, none⟩ = some (.int .i64 0) := (blk_cell BK537.out 0).trans rfl; have hcz10_1 : w9.cell? ⟨gb537, 1, none⟩ = some (.int .i64 0) := (blk_cell BK537.out 1).trans rfl; have hcz10_2 : w9.cell? ⟨gb537, 2, none⟩ = some (.int .i64 0) := (blk_cell BK537.out 2).trans rfl; have hcz10_3 : w9.cell? ⟨gb537, 3, none⟩ = some (.int .i64 0) := (blk_cell BK537.out 3).trans rfl; have hcz10_4 : w9.cell? ⟨gb537, 4, none⟩ = some (.int .i64 0) := (blk_cell BK537.out 4).trans rfl; have hcz10_5 : w9.cell? ⟨gb537, 5, none⟩ = some (.int .i64 0) := (blk_cell BK537.out 5).trans rfl; have hcz10_6 : w9.cell? ⟨gb537, 6, none⟩ = some (.int .i64 0) := (blk_cell BK537.out 6).trans rfl; have hcz10_7 : w9.cell? ⟨gb537, 7, none⟩ = some (.slice none 0 0) := (blk_cell BK537.out 7).trans rfl; have hcz10_8 : w9.cell? ⟨gb537, 8, none⟩ = some (.slice none 0 0) := (blk_cell BK537.out 8).trans rfl; have hfz10_0 := blk_frozen BK537.out 0; have hfz10_1 := blk_frozen BK537.out 1; have hfz10_2 := blk_frozen BK537.out 2; have hfz10_3 := blk_frozen BK537.out 3; have hfz10_4 := blk_frozen BK537.out 4; have hfz10_5 := blk_frozen BK537.out 5; have hfz10_6 := blk_frozen BK537.out 6; have hfz10_7 := blk_frozen BK537.out 7; have hfz10_8 := blk_frozen BK537.out 8; obtain ⟨Ao11, co11, eo11⟩ := Kd.R_slice HO533.out; subst eo11; obtain ⟨Ao12, co12, eo12⟩ := Kd.R_slice HO536.out; subst eo12))
  (try simp only [Act.put, sA, sZ, sS])
  go_loopg [27] k (fun kq v27 w' => ∃ (x27_1 : Int) (x538000_1 : Int) (x538001_1 : Int) (x538002_1 : Int) (x538003_1 : Int) (x538004_1 : Int) (x538005_1 : Int) (x538006_1 : Int) (x538007_1 : List (S43)) (x538008_1 : List Int) (u538007 : Value) (u538008 : Value), v27 = .int .i64 x27_1 ∧ Aside0 (squelchlaw18_FloorLeaves.l0 kq t522 l0 (l0.length : Int) x27_1 x538000_1 x538001_1 x538002_1 x538003_1 x538004_1 x538005_1 x538006_1 x538007_1 x538008_1 = some r) ∧ Aside0 (kq ≤ k) ∧ Aside0 (Kd.V k43 43 w' w.heap.size (fun k_ => some k_ ≠ (u538008 : Value).ownBlock ∧ k_ ≠ gb537) u538007 x538007_1) ∧ Aside0 (Kd.R (Kd.int .i64) 3 w' w.heap.size (fun _ => True) u538008 x538008_1) ∧ Aside0 (w'.heap[gb537]? = some (.cells #[.int .i64 x538000_1, .int .i64 x538001_1, .int .i64 x538002_1, .int .i64 x538003_1, .int .i64 x538004_1, .int .i64 x538005_1, .int .i64 x538006_1, u538007, u538008] 28 (0, 0))) ∧ Aside0 (Below w.heap.size w w'))
  case atStart => exact ⟨(0), (t524), (t525), (t526), (t527), (t528), (t529), (t530), (t531), (t534), (.slice Ao11 t531.length co11), (.slice Ao12 t534.length co12), (by first | rfl | (simp; done) | (simp [*]; done)), H', ⟨Nat.le_refl _⟩, ⟨Kd.R_V (by (with_reducible repeat (first | apply Kd.R_alloc | apply Kd.R_drewN | apply Kd.R_drew)); exact Kd.R_mono (Kd.R_far (p := ⟨gb537, 8, none⟩) (Kd.R_far (p := ⟨gb537, 7, none⟩) (Kd.R_far (p := ⟨gb537, 6, none⟩) (Kd.R_far (p := ⟨gb537, 5, none⟩) (Kd.R_far (p := ⟨gb537, 4, none⟩) (Kd.R_far (p := ⟨gb537, 3, none⟩) (Kd.R_far (p := ⟨gb537, 2, none⟩) (Kd.R_far (p := ⟨gb537, 1, none⟩) (Kd.R_far (p := ⟨gb537, 0, none⟩) (Kd.R_types (Kd.R_types (Kd.R_apart' HO533.out (Kd.R_typed HO536.out) (by decide)) BK537.out (by decide)) BK537.out (by decide)) (fun _ hk => hk.2) (.int .i64 t524)) (fun _ hk => hk.2) (.int .i64 t525)) (fun _ hk => hk.2) (.int .i64 t526)) (fun _ hk => hk.2) (.int .i64 t527)) (fun _ hk => hk.2) (.int .i64 t528)) (fun _ hk => hk.2) (.int .i64 t529)) (fun _ hk => hk.2) (.int .i64 t530)) (fun _ hk => hk.2) (.slice Ao11 t531.length co11)) (fun _ hk => hk.2) (.slice Ao12 t534.length co12)) (fun _ hk => ⟨hk.1.1.2, hk.1.2⟩))⟩, ⟨by (with_reducible repeat (first | apply Kd.R_alloc | apply Kd.R_drewN | apply Kd.R_drew)); exact Kd.R_mono (Kd.R_far (p := ⟨gb537, 8, none⟩) (Kd.R_far (p := ⟨gb537, 7, none⟩) (Kd.R_far (p := ⟨gb537, 6, none⟩) (Kd.R_far (p := ⟨gb537, 5, none⟩) (Kd.R_far (p := ⟨gb537, 4, none⟩) (Kd.R_far (p := ⟨gb537, 3, none⟩) (Kd.R_far (p := ⟨gb537, 2, none⟩) (Kd.R_far (p := ⟨gb537, 1, none⟩) (Kd.R_far (p := ⟨gb537, 0, none⟩) (Kd.R_types HO536.out BK537.out (by decide)) (fun _ hk => hk.2) (.int .i64 t524)) (fun _ hk => hk.2) (.int .i64 t525)) (fun _ hk => hk.2) (.int .i64 t526)) (fun _ hk => hk.2) (.int .i64 t527)) (fun _ hk => hk.2) (.int .i64 t528)) (fun _ hk => hk.2) (.int .i64 t529)) (fun _ hk => hk.2) (.int .i64 t530)) (fun _ hk => hk.2) (.slice Ao11 t531.length co11)) (fun _ hk => hk.2) (.slice Ao12 t534.length co12)) (fun _ hk => trivial)⟩, ⟨by (with_reducible repeat (first | refine blk_drewN ?_ _ | refine blk_drew ?_ | refine blk_alloc ?_ _)); refine blk_put (cs := #[.int .i64 t524, .int .i64 t525, .int .i64 t526, .int .i64 t527, .int .i64 t528, .int .i64 t529, .int .i64 t530, .slice Ao11 t531.length co11, .slice none 0 0]) ?_ 8 _ rfl; (with_reducible repeat (first | refine blk_drewN ?_ _ | refine blk_drew ?_ | refine blk_alloc ?_ _)); refine blk_put (cs := #[.int .i64 t524, .int .i64 t525, .int .i64 t526, .int .i64 t527, .int .i64 t528, .int .i64 t529, .int .i64 t530, .slice none 0 0, .slice none 0 0]) ?_ 7 _ rfl; (with_reducible repeat (first | refine blk_drewN ?_ _ | refine blk_drew ?_ | refine blk_alloc ?_ _)); refine blk_put (cs := #[.int .i64 t524, .int .i64 t525, .int .i64 t526, .int .i64 t527, .int .i64 t528, .int .i64 t529, .int .i64 0, .slice none 0 0, .slice none 0 0]) ?_ 6 _ rfl; (with_reducible repeat (first | refine blk_drewN ?_ _ | refine blk_drew ?_ | refine blk_alloc ?_ _)); refine blk_put (cs := #[.int .i64 t524, .int .i64 t525, .int .i64 t526, .int .i64 t527, .int .i64 t528, .int .i64 0, .int .i64 0, .slice none 0 0, .slice none 0 0]) ?_ 5 _ rfl; (with_reducible repeat (first | refine blk_drewN ?_ _ | refine blk_drew ?_ | refine blk_alloc ?_ _)); refine blk_put (cs := #[.int .i64 t524, .int .i64 t525, .int .i64 t526, .int .i64 t527, .int .i64 0, .int .i64 0, .int .i64 0, .slice none 0 0, .slice none 0 0]) ?_ 4 _ rfl; (with_reducible repeat (first | refine blk_drewN ?_ _ | refine blk_drew ?_ | refine blk_alloc ?_ _)); refine blk_put (cs := #[.int .i64 t524, .int .i64 t525, .int .i64 t526, .int .i64 0, .int .i64 0, .int .i64 0, .int .i64 0, .slice none 0 0, .slice none 0 0]) ?_ 3 _ rfl; (with_reducible repeat (first | refine blk_drewN ?_ _ | refine blk_drew ?_ | refine blk_alloc ?_ _)); refine blk_put (cs := #[.int .i64 t524, .int .i64 t525, .int .i64 0, .int .i64 0, .int .i64 0, .int .i64 0, .int .i64 0, .slice none 0 0, .slice none 0 0]) ?_ 2 _ rfl; (with_reducible repeat (first | refine blk_drewN ?_ _ | refine blk_drew ?_ | refine blk_alloc ?_ _)); refine blk_put (cs := #[.int .i64 t524, .int .i64 0, .int .i64 0, .int .i64 0, .int .i64 0, .int .i64 0, .int .i64 0, .slice none 0 0, .slice none 0 0]) ?_ 1 _ rfl; (with_reducible repeat (first | refine blk_drewN ?_ _ | refine blk_drew ?_ | refine blk_alloc ?_ _)); refine blk_put (cs := #[.int .i64 0, .int .i64 0, .int .i64 0, .int .i64 0, .int .i64 0, .int .i64 0, .int .i64 0, .slice none 0 0, .slice none 0 0]) ?_ 0 _ rfl; (with_reducible repeat (first | refine blk_drewN ?_ _ | refine blk_drew ?_ | refine blk_alloc ?_ _)); exact BK537.out⟩, ⟨by repeat (first | (with_reducible first | exact HB.out | apply below_alloc | apply pw_below_drewN | apply below_drew1 | refine below_set ?_ GE537.out) | exact HB.out)⟩⟩
  case round =>
   clear H'
   try clear c1
   try clear p2
   try clear c4
   try clear c9
   try clear c11
   try clear c12
   try clear hcz10_0
   try clear hcz10_1
   try clear hcz10_2
   try clear hcz10_3
   try clear hcz10_4
   try clear hcz10_5
   try clear hcz10_6
   try clear hcz10_7
   try clear hcz10_8
   try clear hfz10_0
   try clear hfz10_1
   try clear hfz10_2
   try clear hfz10_3
   try clear hfz10_4
   try clear hfz10_5
   try clear hfz10_6
   try clear hfz10_7
   try clear hfz10_8
   obtain ⟨x27_1, x538000_1, x538001_1, x538002_1, x538003_1, x538004_1, x538005_1, x538006_1, x538007_1, x538008_1, u538007, u538008, rfl, HA, HK1, HO_538007, HO_538008, BK537, HB⟩ := hrel
   cases gk with
   | zero => exact absurd HA.out (by simp [squelchlaw18_FloorLeaves.l0])
   | succ k1 =>
    have H := HA.out
    clear HA
    simp only [squelchlaw18_FloorLeaves.l0] at H
    by_cases c13 : x27_1 < (l0.length : Int)
    ·rw [if_pos c13] at H
     have c13b0 : decide (x27_1 < (l0.length : Int)) = true := decide_eq_true c13
     clear c13
     by_cases c14 : 0 ≤ x27_1
     ·rw [if_pos c14] at H
      have c14b0 : decide (0 ≤ x27_1) = true := decide_eq_true c14
      clear c14
      by_cases c15 : x27_1 < (l0.length : Int)
      ·rw [if_pos c15] at H
       have c15b0 : decide (x27_1 < (l0.length : Int)) = true := decide_eq_true c15
       clear c15
       replace H := Option.bind_eq_some_iff.mp H
       obtain ⟨⟨t540, t541, t542, t543, t544, t545, t546, t547, t550, t553, t556⟩, A160, H⟩ := H
       replace H : (if t556 = 0 then (squelchlaw18_FloorLeaves.j1 k1 t522 l0 (l0.length : Int) x27_1 t540 t541 t542 t543 t544 t545 t546 t547 t550) else (squelchlaw18_FloorLeaves.j1 k1 t522 l0 (l0.length : Int) x27_1 x538000_1 x538001_1 x538002_1 x538003_1 x538004_1 x538005_1 x538006_1 x538007_1 x538008_1)) = some r := H
       have A16 := Aside0.mk A160
       clear A160
       have HC17 := Aside0.mk H
       clear H
       have p538 : 0 ≤ (x27_1 : Int) := of_decide_eq_true (by first | (with_reducible assumption) | assumption)
       have q538 : x27_1 < (l0.length : Int) := of_decide_eq_true (by first | (with_reducible assumption) | assumption)
       obtain ⟨ad538, e538, hx538_0, hx538_1, hx538_2, hx538_3, hx538_4⟩ := at_T32 HR0.out x27_1 p538 q538
       cases e538
       replace hx538_0 := (HB.out.cell (World.block_lt_of_cell? w _ hx538_0)).trans hx538_0
       replace hx538_1 := (HB.out.cell (World.block_lt_of_cell? w _ hx538_1)).trans hx538_1
       replace hx538_2 := (HB.out.cell (World.block_lt_of_cell? w _ hx538_2)).trans hx538_2
       replace hx538_3 := (HB.out.cell (World.block_lt_of_cell? w _ hx538_3)).trans hx538_3
       replace hx538_4 := (HB.out.cell (World.block_lt_of_cell? w _ hx538_4)).trans hx538_4
       replace p538 := eq_true p538
       replace q538 := eq_true q538
       go_upto_if 39 with (first | ((with_reducible refine gate_dst (N := 6) rfl ?_); (try (refine gate_guard (by rfl) ?_; dsimp only)); refine box_event ?hg (N := 6) ?hd (cs := #[.int .i64 0, .int .i64 0, .int .i64 0, .int .i64 0, .int .i64 0]) (t := 32) ?hr ?_; (case hd => rfl); (case hg => rfl); (case hr => first | (go_simp; done) | (go_simp; rfl)); intro gb539 hg w18 hbox hb; have n0_ := Aside0.mk (Kd.V_below (Kd.V_elderB (by (with_reducible repeat (first | apply Kd.V_alloc | apply Kd.V_drewN | apply Kd.V_drew)); exact HO_538007.out) gb539 (Nat.le_of_eq hg.symm)) hb); have n1_ := Aside0.mk (Kd.R_below (by (with_reducible repeat (first | apply Kd.R_alloc | apply Kd.R_drewN | apply Kd.R_drew)); exact HO_538008.out) hb); have n2_ := Aside0.mk (blk_below (g := gb537) (o := .cells #[.int .i64 x538000_1, .int .i64 x538001_1, .int .i64 x538002_1, .int .i64 x538003_1, .int .i64 x538004_1, .int .i64 x538005_1, .int .i64 x538006_1, u538007, u538008] 28 (0, 0)) (by (with_reducible repeat (first | refine blk_drewN ?_ _ | refine blk_drew ?_ | refine blk_alloc ?_ _)); exact BK537.out) hb); have n3_ := Aside0.mk (below_step (by repeat (first | (with_reducible first | exact HB.out | apply below_alloc | apply pw_below_drewN | apply below_drew1 | refine below_set ?_ GE537.out) | exact HB.out)) hb); have n4_ := Aside0.mk (hbox); have n5_ := Aside0.mk ((by rw [hg]; exact (below_size (by repeat (first | (with_reducible first | exact HB.out | apply below_alloc | apply pw_below_drewN | apply below_drew1 | refine below_set ?_ GE537.out) | exact HB.out))) : w.heap.size ≤ gb539)); have n6_ := Aside0.mk ((by rw [hg]; exact (below_size (by repeat (first | (with_reducible first | exact HB.out | apply below_alloc | apply pw_below_drewN | apply below_drew1 | refine below_set ?_ GE537.out) | exact HB.out))) : w.heap.size ≤ gb539)); have n7_ := Aside0.mk ((by rw [hg]; exact Nat.ne_of_lt (blk_lt (g := gb537) (o := .cells #[.int .i64 x538000_1, .int .i64 x538001_1, .int .i64 x538002_1, .int .i64 x538003_1, .int .i64 x538004_1, .int .i64 x538005_1, .int .i64 x538006_1, u538007, u538008] 28 (0, 0)) (by (with_reducible repeat (first | refine blk_drewN ?_ _ | refine blk_drew ?_ | refine blk_alloc ?_ _)); exact BK537.out)) : gb537 ≠ gb539)); have n8_ := Aside0.mk ((by rw [hg]; exact Nat.ne_of_gt (blk_lt (g := gb537) (o := .cells #[.int .i64 x538000_1, .int .i64 x538001_1, .int .i64 x538002_1, .int .i64 x538003_1, .int .i64 x538004_1, .int .i64 x538005_1, .int .i64 x538006_1, u538007, u538008] 28 (0, 0)) (by (with_reducible repeat (first | refine blk_drewN ?_ _ | refine blk_drew ?_ | refine blk_alloc ?_ _)); exact BK537.out)) : gb539 ≠ gb537)); clear HO_538007; clear HO_538008; clear BK537; clear HB; have HO_538007 := n0_; have HO_538008 := n1_; have BK537 := n2_; have HB := n3_; have BK539 := n4_; have GW539 := n5_; have GE539 := n6_; have NB537_539 := n7_; have NB539_537 := n8_; clear n0_ n1_ n2_ n3_ n4_ n5_ n6_ n7_ n8_; clear hb hbox hg; have hnb19 := NB539_537.out; have hnc19 := NB537_539.out; have hcz20_0 : w18.cell? ⟨gb539, 0, none⟩ = some (.int .i64 0) := (blk_cell BK539.out 0).trans rfl; have hcz20_1 : w18.cell? ⟨gb539, 1, none⟩ = some (.int .i64 0) := (blk_cell BK539.out 1).trans rfl; have hcz20_2 : w18.cell? ⟨gb539, 2, none⟩ = some (.int .i64 0) := (blk_cell BK539.out 2).trans rfl; have hcz20_3 : w18.cell? ⟨gb539, 3, none⟩ = some (.int .i64 0) := (blk_cell BK539.out 3).trans rfl; have hcz20_4 : w18.cell? ⟨gb539, 4, none⟩ = some (.int .i64 0) := (blk_cell BK539.out 4).trans rfl; have hfz20_0 := blk_frozen BK539.out 0; have hfz20_1 := blk_frozen BK539.out 1; have hfz20_2 := blk_frozen BK539.out 2; have hfz20_3 := blk_frozen BK539.out 3; have hfz20_4 := blk_frozen BK539.out 4; have hcz21_0 : w18.cell? ⟨gb537, 0, none⟩ = some (.int .i64 x538000_1) := (blk_cell BK537.out 0).trans rfl; have hcz21_1 : w18.cell? ⟨gb537, 1, none⟩ = some (.int .i64 x538001_1) := (blk_cell BK537.out 1).trans rfl; have hcz21_2 : w18.cell? ⟨gb537, 2, none⟩ = some (.int .i64 x538002_1) := (blk_cell BK537.out 2).trans rfl; have hcz21_3 : w18.cell? ⟨gb537, 3, none⟩ = some (.int .i64 x538003_1) := (blk_cell BK537.out 3).trans rfl; have hcz21_4 : w18.cell? ⟨gb537, 4, none⟩ = some (.int .i64 x538004_1) := (blk_cell BK537.out 4).trans rfl; have hcz21_5 : w18.cell? ⟨gb537, 5, none⟩ = some (.int .i64 x538005_1) := (blk_cell BK537.out 5).trans rfl; have hcz21_6 : w18.cell? ⟨gb537, 6, none⟩ = some (.int .i64 x538006_1) := (blk_cell BK537.out 6).trans rfl; have hcz21_7 : w18.cell? ⟨gb537, 7, none⟩ = some (u538007) := (blk_cell BK537.out 7).trans rfl; have hcz21_8 : w18.cell? ⟨gb537, 8, none⟩ = some (u538008) := (blk_cell BK537.out 8).trans rfl; have hfz21_0 := blk_frozen BK537.out 0; have hfz21_1 := blk_frozen BK537.out 1; have hfz21_2 := blk_frozen BK537.out 2; have hfz21_3 := blk_frozen BK537.out 3; have hfz21_4 := blk_frozen BK537.out 4; have hfz21_5 := blk_frozen BK537.out 5; have hfz21_6 := blk_frozen BK537.out 6; have hfz21_7 := blk_frozen BK537.out 7; have hfz21_8 := blk_frozen BK537.out 8; obtain ⟨Ao22, co22, eo22⟩ := Kd.V_slice HO_538007.out; subst eo22; obtain ⟨Ao23, co23, eo23⟩ := Kd.R_slice HO_538008.out; subst eo23) | ((with_reducible refine gate_callee (f := 14) rfl ?_); refine goesL_ (some 34) rfl rfl Try.func14 (by kernel_rfl) rfl #[.agg #[.int .i64 x538000_1, .int .i64 x538001_1, .int .i64 x538002_1, .int .i64 x538003_1, .int .i64 x538004_1, .int .i64 x538005_1, .int .i64 x538006_1, .slice Ao22 x538007_1.length co22, .slice Ao23 x538008_1.length co23], .agg #[.int .i64 ((rd_T32 l0 x27_1).f0), .int .i64 ((rd_T32 l0 x27_1).f1), .int .i64 ((rd_T32 l0 x27_1).f2), .int .i64 ((rd_T32 l0 x27_1).f3), .int .i64 ((rd_T32 l0 x27_1).f4)]] rfl (by (try simp only [List.map_toArray, List.map_cons, List.map_nil]); first | done | rfl | (simp only [List.length_drop, List.length_take]; rfl)) ?_; (with_reducible refine (floor_Do.calls k1 x538000_1 x538001_1 x538002_1 x538003_1 x538004_1 x538005_1 x538006_1 _ _ x538007_1 _ _ x538008_1 ((rd_T32 l0 x27_1).f0) ((rd_T32 l0 x27_1).f1) ((rd_T32 l0 x27_1).f2) ((rd_T32 l0 x27_1).f3) ((rd_T32 l0 x27_1).f4) t540 t541 t542 t543 t544 t545 t546 t547 t550 t553 t556 _ ?side1 ?side2 ?side3 ?side4 A16.out).mono ?_); (case side1 => refine (Kd.V_reads' (e := 43) (base := w.heap.size) (ok := fun k_ => ((some k_ ≠ (.slice Ao23 x538008_1.length co23 : Value).ownBlock ∧ k_ ≠ gb537) ∧ k_ ≠ gb539)) (n := x538007_1.length) (c := co22) ?_).2.2; exact (by (with_reducible repeat (first | apply Kd.V_alloc | apply Kd.V_drewN | apply Kd.V_drew)); exact (Kd.V_mono (Kd.V_far (p := ⟨gb539, 4, none⟩) (Kd.V_far (p := ⟨gb539, 3, none⟩) (Kd.V_far (p := ⟨gb539, 2, none⟩) (Kd.V_far (p := ⟨gb539, 1, none⟩) (Kd.V_far (p := ⟨gb539, 0, none⟩) (Kd.V_mono HO_538007.out (fun k_ hk => (⟨hk, hk.2⟩ : _ ∧ k_ ≠ gb539))) (fun _ hk => hk.2) (.int .i64 ((rd_T32 l0 x27_1).f0))) (fun _ hk => hk.2) (.int .i64 ((rd_T32 l0 x27_1).f1))) (fun _ hk => hk.2) (.int .i64 ((rd_T32 l0 x27_1).f2))) (fun _ hk => hk.2) (.int .i64 ((rd_T32 l0 x27_1).f3))) (fun _ hk => hk.2) (.int .i64 ((rd_T32 l0 x27_1).f4))) (fun _ h_ => h_.1)))); (case side2 => exact (Kd.V_reads' HO_538007.out).2.1); (case side3 => refine (Kd.R_reads' (e := 3) (base := w.heap.size) (ok := fun k_ => True) (n := x538008_1.length) (c := co23) ?_).2.2; exact (by (with_reducible repeat (first | apply Kd.R_alloc | apply Kd.R_drewN | apply Kd.R_drew)); exact (Kd.R_mono (Kd.R_far (p := ⟨gb539, 4, none⟩) (Kd.R_far (p := ⟨gb539, 3, none⟩) (Kd.R_far (p := ⟨gb539, 2, none⟩) (Kd.R_far (p := ⟨gb539, 1, none⟩) (Kd.R_far (p := ⟨gb539, 0, none⟩) (Kd.R_types HO_538008.out BK539.out (by decide)) (fun _ hk => hk.2) (.int .i64 ((rd_T32 l0 x27_1).f0))) (fun _ hk => hk.2) (.int .i64 ((rd_T32 l0 x27_1).f1))) (fun _ hk => hk.2) (.int .i64 ((rd_T32 l0 x27_1).f2))) (fun _ hk => hk.2) (.int .i64 ((rd_T32 l0 x27_1).f3))) (fun _ hk => hk.2) (.int .i64 ((rd_T32 l0 x27_1).f4))) (fun _ h_ => h_.1)))); (case side4 => exact (Kd.R_reads' HO_538008.out).2.1); rintro e w24 ⟨v548, v551, v554, rfl, ho0, ho1, ho2, hb⟩; refine ⟨_, rfl, ?_⟩; have n0_ := Aside0.mk (Kd.V_mono (Kd.V_told (Kd.V_told (Kd.V_old (by (with_reducible repeat (first | apply Kd.V_alloc | apply Kd.V_drewN | apply Kd.V_drew)); exact (Kd.V_mono (Kd.V_far (p := ⟨gb539, 4, none⟩) (Kd.V_far (p := ⟨gb539, 3, none⟩) (Kd.V_far (p := ⟨gb539, 2, none⟩) (Kd.V_far (p := ⟨gb539, 1, none⟩) (Kd.V_far (p := ⟨gb539, 0, none⟩) (Kd.V_mono HO_538007.out (fun k_ hk => (⟨hk, hk.2⟩ : _ ∧ k_ ≠ gb539))) (fun _ hk => hk.2) (.int .i64 ((rd_T32 l0 x27_1).f0))) (fun _ hk => hk.2) (.int .i64 ((rd_T32 l0 x27_1).f1))) (fun _ hk => hk.2) (.int .i64 ((rd_T32 l0 x27_1).f2))) (fun _ hk => hk.2) (.int .i64 ((rd_T32 l0 x27_1).f3))) (fun _ hk => hk.2) (.int .i64 ((rd_T32 l0 x27_1).f4))) (fun _ h_ => h_.1))) hb) (Kd.R_base ho1)) (Kd.R_base ho2)) (fun _ h_ => h_.1)); have n1_ := Aside0.mk (Kd.R_elder' (by (with_reducible repeat (first | apply Kd.R_alloc | apply Kd.R_drewN | apply Kd.R_drew)); exact (Kd.R_mono (Kd.R_far (p := ⟨gb539, 4, none⟩) (Kd.R_far (p := ⟨gb539, 3, none⟩) (Kd.R_far (p := ⟨gb539, 2, none⟩) (Kd.R_far (p := ⟨gb539, 1, none⟩) (Kd.R_far (p := ⟨gb539, 0, none⟩) (Kd.R_types HO_538008.out BK539.out (by decide)) (fun _ hk => hk.2) (.int .i64 ((rd_T32 l0 x27_1).f0))) (fun _ hk => hk.2) (.int .i64 ((rd_T32 l0 x27_1).f1))) (fun _ hk => hk.2) (.int .i64 ((rd_T32 l0 x27_1).f2))) (fun _ hk => hk.2) (.int .i64 ((rd_T32 l0 x27_1).f3))) (fun _ hk => hk.2) (.int .i64 ((rd_T32 l0 x27_1).f4))) (fun _ h_ => h_.1))) (Kd.R_base ho1) hb); have n2_ := Aside0.mk (Kd.V_lower (Kd.V_mono (ok' := fun k_ => some k_ ≠ (v551 : Value).ownBlock ∧ some k_ ≠ (v554 : Value).ownBlock ∧ some k_ ≠ (.slice Ao23 x538008_1.length co23 : Value).ownBlock ∧ k_ ≠ gb537 ∧ k_ ≠ gb539) ho0 (fun k_ hk_ => ⟨hk_.2.1, hk_.2.2, (Kd.fresh' (Kd.R_lt (by (with_reducible repeat (first | apply Kd.R_alloc | apply Kd.R_drewN | apply Kd.R_drew)); exact (Kd.R_mono (Kd.R_far (p := ⟨gb539, 4, none⟩) (Kd.R_far (p := ⟨gb539, 3, none⟩) (Kd.R_far (p := ⟨gb539, 2, none⟩) (Kd.R_far (p := ⟨gb539, 1, none⟩) (Kd.R_far (p := ⟨gb539, 0, none⟩) (Kd.R_types HO_538008.out BK539.out (by decide)) (fun _ hk => hk.2) (.int .i64 ((rd_T32 l0 x27_1).f0))) (fun _ hk => hk.2) (.int .i64 ((rd_T32 l0 x27_1).f1))) (fun _ hk => hk.2) (.int .i64 ((rd_T32 l0 x27_1).f2))) (fun _ hk => hk.2) (.int .i64 ((rd_T32 l0 x27_1).f3))) (fun _ hk => hk.2) (.int .i64 ((rd_T32 l0 x27_1).f4))) (fun _ h_ => h_.1)))) k_ hk_.1), (Kd.freshB (g := gb537) (o := .cells #[.int .i64 x538000_1, .int .i64 x538001_1, .int .i64 x538002_1, .int .i64 x538003_1, .int .i64 x538004_1, .int .i64 x538005_1, .int .i64 x538006_1, .slice Ao22 x538007_1.length co22, .slice Ao23 x538008_1.length co23] 28 (0, 0)) (by (with_reducible repeat (first | refine blk_drewN ?_ _ | refine blk_drew ?_ | refine blk_alloc ?_ _)); refine blk_far ?_ NB537_539.out _; (with_reducible repeat (first | refine blk_drewN ?_ _ | refine blk_drew ?_ | refine blk_alloc ?_ _)); refine blk_far ?_ NB537_539.out _; (with_reducible repeat (first | refine blk_drewN ?_ _ | refine blk_drew ?_ | refine blk_alloc ?_ _)); refine blk_far ?_ NB537_539.out _; (with_reducible repeat (first | refine blk_drewN ?_ _ | refine blk_drew ?_ | refine blk_alloc ?_ _)); refine blk_far ?_ NB537_539.out _; (with_reducible repeat (first | refine blk_drewN ?_ _ | refine blk_drew ?_ | refine blk_alloc ?_ _)); refine blk_far ?_ NB537_539.out _; (with_reducible repeat (first | refine blk_drewN ?_ _ | refine blk_drew ?_ | refine blk_alloc ?_ _)); exact BK537.out) k_ hk_.1), (Kd.freshB (g := gb539) (o := .cells #[.int .i64 ((rd_T32 l0 x27_1).f0), .int .i64 ((rd_T32 l0 x27_1).f1), .int .i64 ((rd_T32 l0 x27_1).f2), .int .i64 ((rd_T32 l0 x27_1).f3), .int .i64 ((rd_T32 l0 x27_1).f4)] 32 (0, 0)) (by (with_reducible repeat (first | refine blk_drewN ?_ _ | refine blk_drew ?_ | refine blk_alloc ?_ _)); refine blk_put (cs := #[.int .i64 ((rd_T32 l0 x27_1).f0), .int .i64 ((rd_T32 l0 x27_1).f1), .int .i64 ((rd_T32 l0 x27_1).f2), .int .i64 ((rd_T32 l0 x27_1).f3), .int .i64 0]) ?_ 4 _ rfl; (with_reducible repeat (first | refine blk_drewN ?_ _ | refine blk_drew ?_ | refine blk_alloc ?_ _)); refine blk_put (cs := #[.int .i64 ((rd_T32 l0 x27_1).f0), .int .i64 ((rd_T32 l0 x27_1).f1), .int .i64 ((rd_T32 l0 x27_1).f2), .int .i64 0, .int .i64 0]) ?_ 3 _ rfl; (with_reducible repeat (first | refine blk_drewN ?_ _ | refine blk_drew ?_ | refine blk_alloc ?_ _)); refine blk_put (cs := #[.int .i64 ((rd_T32 l0 x27_1).f0), .int .i64 ((rd_T32 l0 x27_1).f1), .int .i64 0, .int .i64 0, .int .i64 0]) ?_ 2 _ rfl; (with_reducible repeat (first | refine blk_drewN ?_ _ | refine blk_drew ?_ | refine blk_alloc ?_ _)); refine blk_put (cs := #[.int .i64 ((rd_T32 l0 x27_1).f0), .int .i64 0, .int .i64 0, .int .i64 0, .int .i64 0]) ?_ 1 _ rfl; (with_reducible repeat (first | refine blk_drewN ?_ _ | refine blk_drew ?_ | refine blk_alloc ?_ _)); refine blk_put (cs := #[.int .i64 0, .int .i64 0, .int .i64 0, .int .i64 0, .int .i64 0]) ?_ 0 _ rfl; (with_reducible repeat (first | refine blk_drewN ?_ _ | refine blk_drew ?_ | refine blk_alloc ?_ _)); exact BK539.out) k_ hk_.1)⟩)) (below_size (by repeat (first | (with_reducible first | exact HB.out | apply below_alloc | apply pw_below_drewN | apply below_drew1 | refine below_set ?_ GE537.out | refine below_set ?_ GE539.out) | exact HB.out)))); have n3_ := Aside0.mk (Kd.R_lower (Kd.R_new' (Kd.R_mono (ok' := fun k_ => True) ho1 (fun _ hk_ => trivial)) (Kd.R_lt (by (with_reducible repeat (first | apply Kd.R_alloc | apply Kd.R_drewN | apply Kd.R_drew)); exact (Kd.R_mono (Kd.R_far (p := ⟨gb539, 4, none⟩) (Kd.R_far (p := ⟨gb539, 3, none⟩) (Kd.R_far (p := ⟨gb539, 2, none⟩) (Kd.R_far (p := ⟨gb539, 1, none⟩) (Kd.R_far (p := ⟨gb539, 0, none⟩) (Kd.R_types HO_538008.out BK539.out (by decide)) (fun _ hk => hk.2) (.int .i64 ((rd_T32 l0 x27_1).f0))) (fun _ hk => hk.2) (.int .i64 ((rd_T32 l0 x27_1).f1))) (fun _ hk => hk.2) (.int .i64 ((rd_T32 l0 x27_1).f2))) (fun _ hk => hk.2) (.int .i64 ((rd_T32 l0 x27_1).f3))) (fun _ hk => hk.2) (.int .i64 ((rd_T32 l0 x27_1).f4))) (fun _ h_ => h_.1))))) (below_size (by repeat (first | (with_reducible first | exact HB.out | apply below_alloc | apply pw_below_drewN | apply below_drew1 | refine below_set ?_ GE537.out | refine below_set ?_ GE539.out) | exact HB.out)))); have n4_ := Aside0.mk (Kd.R_lower (Kd.R_mono (ok' := fun k_ => True) ho2 (fun _ hk_ => trivial)) (below_size (by repeat (first | (with_reducible first | exact HB.out | apply below_alloc | apply pw_below_drewN | apply below_drew1 | refine below_set ?_ GE537.out | refine below_set ?_ GE539.out) | exact HB.out)))); have n5_ := Aside0.mk (blk_below (g := gb537) (o := .cells #[.int .i64 x538000_1, .int .i64 x538001_1, .int .i64 x538002_1, .int .i64 x538003_1, .int .i64 x538004_1, .int .i64 x538005_1, .int .i64 x538006_1, .slice Ao22 x538007_1.length co22, .slice Ao23 x538008_1.length co23] 28 (0, 0)) (by (with_reducible repeat (first | refine blk_drewN ?_ _ | refine blk_drew ?_ | refine blk_alloc ?_ _)); refine blk_far ?_ NB537_539.out _; (with_reducible repeat (first | refine blk_drewN ?_ _ | refine blk_drew ?_ | refine blk_alloc ?_ _)); refine blk_far ?_ NB537_539.out _; (with_reducible repeat (first | refine blk_drewN ?_ _ | refine blk_drew ?_ | refine blk_alloc ?_ _)); refine blk_far ?_ NB537_539.out _; (with_reducible repeat (first | refine blk_drewN ?_ _ | refine blk_drew ?_ | refine blk_alloc ?_ _)); refine blk_far ?_ NB537_539.out _; (with_reducible repeat (first | refine blk_drewN ?_ _ | refine blk_drew ?_ | refine blk_alloc ?_ _)); refine blk_far ?_ NB537_539.out _; (with_reducible repeat (first | refine blk_drewN ?_ _ | refine blk_drew ?_ | refine blk_alloc ?_ _)); exact BK537.out) hb); have n6_ := Aside0.mk (blk_below (g := gb539) (o := .cells #[.int .i64 ((rd_T32 l0 x27_1).f0), .int .i64 ((rd_T32 l0 x27_1).f1), .int .i64 ((rd_T32 l0 x27_1).f2), .int .i64 ((rd_T32 l0 x27_1).f3), .int .i64 ((rd_T32 l0 x27_1).f4)] 32 (0, 0)) (by (with_reducible repeat (first | refine blk_drewN ?_ _ | refine blk_drew ?_ | refine blk_alloc ?_ _)); refine blk_put (cs := #[.int .i64 ((rd_T32 l0 x27_1).f0), .int .i64 ((rd_T32 l0 x27_1).f1), .int .i64 ((rd_T32 l0 x27_1).f2), .int .i64 ((rd_T32 l0 x27_1).f3), .int .i64 0]) ?_ 4 _ rfl; (with_reducible repeat (first | refine blk_drewN ?_ _ | refine blk_drew ?_ | refine blk_alloc ?_ _)); refine blk_put (cs := #[.int .i64 ((rd_T32 l0 x27_1).f0), .int .i64 ((rd_T32 l0 x27_1).f1), .int .i64 ((rd_T32 l0 x27_1).f2), .int .i64 0, .int .i64 0]) ?_ 3 _ rfl; (with_reducible repeat (first | refine blk_drewN ?_ _ | refine blk_drew ?_ | refine blk_alloc ?_ _)); refine blk_put (cs := #[.int .i64 ((rd_T32 l0 x27_1).f0), .int .i64 ((rd_T32 l0 x27_1).f1), .int .i64 0, .int .i64 0, .int .i64 0]) ?_ 2 _ rfl; (with_reducible repeat (first | refine blk_drewN ?_ _ | refine blk_drew ?_ | refine blk_alloc ?_ _)); refine blk_put (cs := #[.int .i64 ((rd_T32 l0 x27_1).f0), .int .i64 0, .int .i64 0, .int .i64 0, .int .i64 0]) ?_ 1 _ rfl; (with_reducible repeat (first | refine blk_drewN ?_ _ | refine blk_drew ?_ | refine blk_alloc ?_ _)); refine blk_put (cs := #[.int .i64 0, .int .i64 0, .int .i64 0, .int .i64 0, .int .i64 0]) ?_ 0 _ rfl; (with_reducible repeat (first | refine blk_drewN ?_ _ | refine blk_drew ?_ | refine blk_alloc ?_ _)); exact BK539.out) hb); have n7_ := Aside0.mk (below_step (by repeat (first | (with_reducible first | exact HB.out | apply below_alloc | apply pw_below_drewN | apply below_drew1 | refine below_set ?_ GE537.out | refine below_set ?_ GE539.out) | exact HB.out)) hb); clear HO_538007; clear HO_538008; clear BK537; clear BK539; clear HB; have HO_538007 := n0_; have HO_538008 := n1_; have HO549 := n2_; have HO552 := n3_; have HO555 := n4_; have BK537 := n5_; have BK539 := n6_; have HB := n7_; clear n0_ n1_ n2_ n3_ n4_ n5_ n6_ n7_; (try clear hb); (try clear hb2); (try clear hk); (try clear hi); (try clear ho0); (try clear ho1); (try clear ho2)) | ((with_reducible refine gate_dst (N := 7) rfl ?_); (try (refine gate_guard (by rfl) ?_; dsimp only)); refine box_event ?hg (N := 7) ?hd (cs := #[.int .i64 0, .int .i64 0, .int .i64 0, .int .i64 0, .int .i64 0, .int .i64 0, .int .i64 0, .slice none 0 0, .slice none 0 0]) (t := 28) ?hr ?_; (case hd => rfl); (case hg => rfl); (case hr => first | (go_simp; done) | (go_simp; rfl)); intro gb557 hg w25 hbox hb; have n0_ := Aside0.mk (Kd.V_below (Kd.V_elderB (by (with_reducible repeat (first | apply Kd.V_alloc | apply Kd.V_drewN | apply Kd.V_drew)); exact HO_538007.out) gb557 (Nat.le_of_eq hg.symm)) hb); have n1_ := Aside0.mk (Kd.R_below (by (with_reducible repeat (first | apply Kd.R_alloc | apply Kd.R_drewN | apply Kd.R_drew)); exact HO_538008.out) hb); have n2_ := Aside0.mk (Kd.V_below (Kd.V_elderB (by (with_reducible repeat (first | apply Kd.V_alloc | apply Kd.V_drewN | apply Kd.V_drew)); exact HO549.out) gb557 (Nat.le_of_eq hg.symm)) hb); have n3_ := Aside0.mk (Kd.R_below (by (with_reducible repeat (first | apply Kd.R_alloc | apply Kd.R_drewN | apply Kd.R_drew)); exact HO552.out) hb); have n4_ := Aside0.mk (Kd.R_below (by (with_reducible repeat (first | apply Kd.R_alloc | apply Kd.R_drewN | apply Kd.R_drew)); exact HO555.out) hb); have n5_ := Aside0.mk (blk_below (g := gb537) (o := .cells #[.int .i64 x538000_1, .int .i64 x538001_1, .int .i64 x538002_1, .int .i64 x538003_1, .int .i64 x538004_1, .int .i64 x538005_1, .int .i64 x538006_1, .slice Ao22 x538007_1.length co22, .slice Ao23 x538008_1.length co23] 28 (0, 0)) (by (with_reducible repeat (first | refine blk_drewN ?_ _ | refine blk_drew ?_ | refine blk_alloc ?_ _)); exact BK537.out) hb); have n6_ := Aside0.mk (blk_below (g := gb539) (o := .cells #[.int .i64 ((rd_T32 l0 x27_1).f0), .int .i64 ((rd_T32 l0 x27_1).f1), .int .i64 ((rd_T32 l0 x27_1).f2), .int .i64 ((rd_T32 l0 x27_1).f3), .int .i64 ((rd_T32 l0 x27_1).f4)] 32 (0, 0)) (by (with_reducible repeat (first | refine blk_drewN ?_ _ | refine blk_drew ?_ | refine blk_alloc ?_ _)); exact BK539.out) hb); have n7_ := Aside0.mk (below_step (by repeat (first | (with_reducible first | exact HB.out | apply below_alloc | apply pw_below_drewN | apply below_drew1 | refine below_set ?_ GE537.out | refine below_set ?_ GE539.out) | exact HB.out)) hb); have n8_ := Aside0.mk (hbox); have n9_ := Aside0.mk ((by rw [hg]; exact (below_size (by repeat (first | (with_reducible first | exact HB.out | apply below_alloc | apply pw_below_drewN | apply below_drew1 | refine below_set ?_ GE537.out | refine below_set ?_ GE539.out) | exact HB.out))) : w.heap.size ≤ gb557)); have n10_ := Aside0.mk ((by rw [hg]; exact (below_size (by repeat (first | (with_reducible first | exact HB.out | apply below_alloc | apply pw_below_drewN | apply below_drew1 | refine below_set ?_ GE537.out | refine below_set ?_ GE539.out) | exact HB.out))) : w.heap.size ≤ gb557)); have n11_ := Aside0.mk ((by rw [hg]; exact Nat.ne_of_lt (blk_lt (g := gb537) (o := .cells #[.int .i64 x538000_1, .int .i64 x538001_1, .int .i64 x538002_1, .int .i64 x538003_1, .int .i64 x538004_1, .int .i64 x538005_1, .int .i64 x538006_1, .slice Ao22 x538007_1.length co22, .slice Ao23 x538008_1.length co23] 28 (0, 0)) (by (with_reducible repeat (first | refine blk_drewN ?_ _ | refine blk_drew ?_ | refine blk_alloc ?_ _)); exact BK537.out)) : gb537 ≠ gb557)); have n12_ := Aside0.mk ((by rw [hg]; exact Nat.ne_of_gt (blk_lt (g := gb537) (o := .cells #[.int .i64 x538000_1, .int .i64 x538001_1, .int .i64 x538002_1, .int .i64 x538003_1, .int .i64 x538004_1, .int .i64 x538005_1, .int .i64 x538006_1, .slice Ao22 x538007_1.length co22, .slice Ao23 x538008_1.length co23] 28 (0, 0)) (by (with_reducible repeat (first | refine blk_drewN ?_ _ | refine blk_drew ?_ | refine blk_alloc ?_ _)); exact BK537.out)) : gb557 ≠ gb537)); have n13_ := Aside0.mk ((by rw [hg]; exact Nat.ne_of_lt (blk_lt (g := gb539) (o := .cells #[.int .i64 ((rd_T32 l0 x27_1).f0), .int .i64 ((rd_T32 l0 x27_1).f1), .int .i64 ((rd_T32 l0 x27_1).f2), .int .i64 ((rd_T32 l0 x27_1).f3), .int .i64 ((rd_T32 l0 x27_1).f4)] 32 (0, 0)) (by (with_reducible repeat (first | refine blk_drewN ?_ _ | refine blk_drew ?_ | refine blk_alloc ?_ _)); exact BK539.out)) : gb539 ≠ gb557)); have n14_ := Aside0.mk ((by rw [hg]; exact Nat.ne_of_gt (blk_lt (g := gb539) (o := .cells #[.int .i64 ((rd_T32 l0 x27_1).f0), .int .i64 ((rd_T32 l0 x27_1).f1), .int .i64 ((rd_T32 l0 x27_1).f2), .int .i64 ((rd_T32 l0 x27_1).f3), .int .i64 ((rd_T32 l0 x27_1).f4)] 32 (0, 0)) (by (with_reducible repeat (first | refine blk_drewN ?_ _ | refine blk_drew ?_ | refine blk_alloc ?_ _)); exact BK539.out)) : gb557 ≠ gb539)); clear HO_538007; clear HO_538008; clear HO549; clear HO552; clear HO555; clear BK537; clear BK539; clear HB; have HO_538007 := n0_; have HO_538008 := n1_; have HO549 := n2_; have HO552 := n3_; have HO555 := n4_; have BK537 := n5_; have BK539 := n6_; have HB := n7_; have BK557 := n8_; have GW557 := n9_; have GE557 := n10_; have NB537_557 := n11_; have NB557_537 := n12_; have NB539_557 := n13_; have NB557_539 := n14_; clear n0_ n1_ n2_ n3_ n4_ n5_ n6_ n7_ n8_ n9_ n10_ n11_ n12_ n13_ n14_; clear hb hbox hg; have hnb26 := NB557_537.out; have hnc26 := NB537_557.out; have hnb27 := NB557_539.out; have hnc27 := NB539_557.out; have hcz28_0 : w25.cell? ⟨gb557, 0, none⟩ = some (.int .i64 0) := (blk_cell BK557.out 0).trans rfl; have hcz28_1 : w25.cell? ⟨gb557, 1, none⟩ = some (.int .i64 0) := (blk_cell BK557.out 1).trans rfl; have hcz28_2 : w25.cell? ⟨gb557, 2, none⟩ = some (.int .i64 0) := (blk_cell BK557.out 2).trans rfl; have hcz28_3 : w25.cell? ⟨gb557, 3, none⟩ = some (.int .i64 0) := (blk_cell BK557.out 3).trans rfl; have hcz28_4 : w25.cell? ⟨gb557, 4, none⟩ = some (.int .i64 0) := (blk_cell BK557.out 4).trans rfl; have hcz28_5 : w25.cell? ⟨gb557, 5, none⟩ = some (.int .i64 0) := (blk_cell BK557.out 5).trans rfl; have hcz28_6 : w25.cell? ⟨gb557, 6, none⟩ = some (.int .i64 0) := (blk_cell BK557.out 6).trans rfl; have hcz28_7 : w25.cell? ⟨gb557, 7, none⟩ = some (.slice none 0 0) := (blk_cell BK557.out 7).trans rfl; have hcz28_8 : w25.cell? ⟨gb557, 8, none⟩ = some (.slice none 0 0) := (blk_cell BK557.out 8).trans rfl; have hfz28_0 := blk_frozen BK557.out 0; have hfz28_1 := blk_frozen BK557.out 1; have hfz28_2 := blk_frozen BK557.out 2; have hfz28_3 := blk_frozen BK557.out 3; have hfz28_4 := blk_frozen BK557.out 4; have hfz28_5 := blk_frozen BK557.out 5; have hfz28_6 := blk_frozen BK557.out 6; have hfz28_7 := blk_frozen BK557.out 7; have hfz28_8 := blk_frozen BK557.out 8; obtain ⟨Ao29, co29, eo29⟩ := Kd.V_slice HO549.out; subst eo29; obtain ⟨Ao30, co30, eo30⟩ := Kd.R_slice HO552.out; subst eo30))
       (try simp only [Act.put, sA, sZ, sS])
       go_cut [] (fun wc => ∃ (kq : Nat) (x538000_16 : Int) (x538001_16 : Int) (x538002_16 : Int) (x538003_16 : Int) (x538004_16 : Int) (x538005_16 : Int) (x538006_16 : Int) (x538007_16 : List (S43)) (x538008_16 : List Int) (u538007 : Value) (u538008 : Value), Aside0 (squelchlaw18_FloorLeaves.j1 kq t522 l0 (l0.length : Int) x27_1 x538000_16 x538001_16 x538002_16 x538003_16 x538004_16 x538005_16 x538006_16 x538007_16 x538008_16 = some r) ∧ Aside0 (kq ≤ k1) ∧ Aside0 (Kd.V k43 43 wc w.heap.size (fun k_ => some k_ ≠ (u538008 : Value).ownBlock ∧ k_ ≠ gb537) u538007 x538007_16) ∧ Aside0 (Kd.R (Kd.int .i64) 3 wc w.heap.size (fun _ => True) u538008 x538008_16) ∧ Aside0 (wc.heap[gb537]? = some (.cells #[.int .i64 x538000_16, .int .i64 x538001_16, .int .i64 x538002_16, .int .i64 x538003_16, .int .i64 x538004_16, .int .i64 x538005_16, .int .i64 x538006_16, u538007, u538008] 28 (0, 0))) ∧ Aside0 (Below w.heap.size w wc))
       case first =>
        have H := HC17.out
        clear HC17
        by_cases c31 : t556 = 0
        ·rw [if_pos c31] at H
         have c31b0 : (t556 == 0) = true := beq_iff_eq.mpr c31
         have c31b1 : (t556 != 0) = false := bne_eq_false_iff_eq.mpr c31
         clear c31
         (first | rw [c31b0] | (simp only [i64_w, i32_w]; rw [c31b0]) | skip)
         have H' := Aside0.mk H
         clear H
         have hnb32 := NB557_537.out
         have hnc32 := NB537_557.out
         have hnb33 := NB557_539.out
         have hnc33 := NB539_557.out
         have hcz34_0 : w25.cell? ⟨gb557, 0, none⟩ = some (.int .i64 0) := (blk_cell BK557.out 0).trans rfl
         have hcz34_1 : w25.cell? ⟨gb557, 1, none⟩ = some (.int .i64 0) := (blk_cell BK557.out 1).trans rfl
         have hcz34_2 : w25.cell? ⟨gb557, 2, none⟩ = some (.int .i64 0) := (blk_cell BK557.out 2).trans rfl
         have hcz34_3 : w25.cell? ⟨gb557, 3, none⟩ = some (.int .i64 0) := (blk_cell BK557.out 3).trans rfl
         have hcz34_4 : w25.cell? ⟨gb557, 4, none⟩ = some (.int .i64 0) := (blk_cell BK557.out 4).trans rfl
         have hcz34_5 : w25.cell? ⟨gb557, 5, none⟩ = some (.int .i64 0) := (blk_cell BK557.out 5).trans rfl
         have hcz34_6 : w25.cell? ⟨gb557, 6, none⟩ = some (.int .i64 0) := (blk_cell BK557.out 6).trans rfl
         have hcz34_7 : w25.cell? ⟨gb557, 7, none⟩ = some (.slice none 0 0) := (blk_cell BK557.out 7).trans rfl
         have hcz34_8 : w25.cell? ⟨gb557, 8, none⟩ = some (.slice none 0 0) := (blk_cell BK557.out 8).trans rfl
         have hfz34_0 := blk_frozen BK557.out 0
         have hfz34_1 := blk_frozen BK557.out 1
         have hfz34_2 := blk_frozen BK557.out 2
         have hfz34_3 := blk_frozen BK557.out 3
         have hfz34_4 := blk_frozen BK557.out 4
         have hfz34_5 := blk_frozen BK557.out 5
         have hfz34_6 := blk_frozen BK557.out 6
         have hfz34_7 := blk_frozen BK557.out 7
         have hfz34_8 := blk_frozen BK557.out 8
         have hnb35 := NB537_539.out
         have hnc35 := NB539_537.out
         have hcz36_0 : w25.cell? ⟨gb537, 0, none⟩ = some (.int .i64 x538000_1) := (blk_cell BK537.out 0).trans rfl
         have hcz36_1 : w25.cell? ⟨gb537, 1, none⟩ = some (.int .i64 x538001_1) := (blk_cell BK537.out 1).trans rfl
         have hcz36_2 : w25.cell? ⟨gb537, 2, none⟩ = some (.int .i64 x538002_1) := (blk_cell BK537.out 2).trans rfl
         have hcz36_3 : w25.cell? ⟨gb537, 3, none⟩ = some (.int .i64 x538003_1) := (blk_cell BK537.out 3).trans rfl
         have hcz36_4 : w25.cell? ⟨gb537, 4, none⟩ = some (.int .i64 x538004_1) := (blk_cell BK537.out 4).trans rfl
         have hcz36_5 : w25.cell? ⟨gb537, 5, none⟩ = some (.int .i64 x538005_1) := (blk_cell BK537.out 5).trans rfl
         have hcz36_6 : w25.cell? ⟨gb537, 6, none⟩ = some (.int .i64 x538006_1) := (blk_cell BK537.out 6).trans rfl
         have hcz36_7 : w25.cell? ⟨gb537, 7, none⟩ = some (.slice Ao22 x538007_1.length co22) := (blk_cell BK537.out 7).trans rfl
         have hcz36_8 : w25.cell? ⟨gb537, 8, none⟩ = some (.slice Ao23 x538008_1.length co23) := (blk_cell BK537.out 8).trans rfl
         have hfz36_0 := blk_frozen BK537.out 0
         have hfz36_1 := blk_frozen BK537.out 1
         have hfz36_2 := blk_frozen BK537.out 2
         have hfz36_3 := blk_frozen BK537.out 3
         have hfz36_4 := blk_frozen BK537.out 4
         have hfz36_5 := blk_frozen BK537.out 5
         have hfz36_6 := blk_frozen BK537.out 6
         have hfz36_7 := blk_frozen BK537.out 7
         have hfz36_8 := blk_frozen BK537.out 8
         go_wp2
         go_meet
         case rel => exact ⟨_, (t540), (t541), (t542), (t543), (t544), (t545), (t546), (t547), (t550), (.slice Ao29 t547.length co29), (.slice Ao30 t550.length co30), H', ⟨by have := HK1.out; first | omega | exact Nat.le_refl _⟩, ⟨by (with_reducible repeat (first | apply Kd.V_alloc | apply Kd.V_drewN | apply Kd.V_drew)); exact Kd.V_mono (Kd.V_far (p := ⟨gb537, 8, none⟩) (Kd.V_far (p := ⟨gb537, 7, none⟩) (Kd.V_far (p := ⟨gb537, 6, none⟩) (Kd.V_far (p := ⟨gb537, 5, none⟩) (Kd.V_far (p := ⟨gb537, 4, none⟩) (Kd.V_far (p := ⟨gb537, 3, none⟩) (Kd.V_far (p := ⟨gb537, 2, none⟩) (Kd.V_far (p := ⟨gb537, 1, none⟩) (Kd.V_far (p := ⟨gb537, 0, none⟩) (Kd.V_far (p := ⟨gb557, 8, none⟩) (Kd.V_far (p := ⟨gb557, 7, none⟩) (Kd.V_far (p := ⟨gb557, 6, none⟩) (Kd.V_far (p := ⟨gb557, 5, none⟩) (Kd.V_far (p := ⟨gb557, 4, none⟩) (Kd.V_far (p := ⟨gb557, 3, none⟩) (Kd.V_far (p := ⟨gb557, 2, none⟩) (Kd.V_far (p := ⟨gb557, 1, none⟩) (Kd.V_far (p := ⟨gb557, 0, none⟩) (Kd.V_mono (Kd.V_mono HO549.out (fun k_ hk => (⟨hk, hk.2⟩ : _ ∧ k_ ≠ gb557))) (fun k_ hk => (⟨hk, hk.1.1.2.2.2.1⟩ : _ ∧ k_ ≠ gb537))) (fun _ hk => hk.1.2) (.int .i64 t540)) (fun _ hk => hk.1.2) (.int .i64 t541)) (fun _ hk => hk.1.2) (.int .i64 t542)) (fun _ hk => hk.1.2) (.int .i64 t543)) (fun _ hk => hk.1.2) (.int .i64 t544)) (fun _ hk => hk.1.2) (.int .i64 t545)) (fun _ hk => hk.1.2) (.int .i64 t546)) (fun _ hk => hk.1.2) (.slice Ao29 t547.length co29)) (fun _ hk => hk.1.2) (.slice Ao30 t550.length co30)) (fun _ hk => hk.2) (.int .i64 t540)) (fun _ hk => hk.2) (.int .i64 t541)) (fun _ hk => hk.2) (.int .i64 t542)) (fun _ hk => hk.2) (.int .i64 t543)) (fun _ hk => hk.2) (.int .i64 t544)) (fun _ hk => hk.2) (.int .i64 t545)) (fun _ hk => hk.2) (.int .i64 t546)) (fun _ hk => hk.2) (.slice Ao29 t547.length co29)) (fun _ hk => hk.2) (.slice Ao30 t550.length co30)) (fun _ hk => ⟨hk.1.1.1.1, hk.1.1.1.2.2.2.1⟩)⟩, ⟨by (with_reducible repeat (first | apply Kd.R_alloc | apply Kd.R_drewN | apply Kd.R_drew)); exact Kd.R_mono (Kd.R_far (p := ⟨gb537, 8, none⟩) (Kd.R_far (p := ⟨gb537, 7, none⟩) (Kd.R_far (p := ⟨gb537, 6, none⟩) (Kd.R_far (p := ⟨gb537, 5, none⟩) (Kd.R_far (p := ⟨gb537, 4, none⟩) (Kd.R_far (p := ⟨gb537, 3, none⟩) (Kd.R_far (p := ⟨gb537, 2, none⟩) (Kd.R_far (p := ⟨gb537, 1, none⟩) (Kd.R_far (p := ⟨gb537, 0, none⟩) (Kd.R_far (p := ⟨gb557, 8, none⟩) (Kd.R_far (p := ⟨gb557, 7, none⟩) (Kd.R_far (p := ⟨gb557, 6, none⟩) (Kd.R_far (p := ⟨gb557, 5, none⟩) (Kd.R_far (p := ⟨gb557, 4, none⟩) (Kd.R_far (p := ⟨gb557, 3, none⟩) (Kd.R_far (p := ⟨gb557, 2, none⟩) (Kd.R_far (p := ⟨gb557, 1, none⟩) (Kd.R_far (p := ⟨gb557, 0, none⟩) (Kd.R_types (Kd.R_types HO552.out BK557.out (by decide)) BK537.out (by decide)) (fun _ hk => hk.1.2) (.int .i64 t540)) (fun _ hk => hk.1.2) (.int .i64 t541)) (fun _ hk => hk.1.2) (.int .i64 t542)) (fun _ hk => hk.1.2) (.int .i64 t543)) (fun _ hk => hk.1.2) (.int .i64 t544)) (fun _ hk => hk.1.2) (.int .i64 t545)) (fun _ hk => hk.1.2) (.int .i64 t546)) (fun _ hk => hk.1.2) (.slice Ao29 t547.length co29)) (fun _ hk => hk.1.2) (.slice Ao30 t550.length co30)) (fun _ hk => hk.2) (.int .i64 t540)) (fun _ hk => hk.2) (.int .i64 t541)) (fun _ hk => hk.2) (.int .i64 t542)) (fun _ hk => hk.2) (.int .i64 t543)) (fun _ hk => hk.2) (.int .i64 t544)) (fun _ hk => hk.2) (.int .i64 t545)) (fun _ hk => hk.2) (.int .i64 t546)) (fun _ hk => hk.2) (.slice Ao29 t547.length co29)) (fun _ hk => hk.2) (.slice Ao30 t550.length co30)) (fun _ hk => trivial)⟩, ⟨by (with_reducible repeat (first | refine blk_drewN ?_ _ | refine blk_drew ?_ | refine blk_alloc ?_ _)); refine blk_put (cs := #[.int .i64 t540, .int .i64 t541, .int .i64 t542, .int .i64 t543, .int .i64 t544, .int .i64 t545, .int .i64 t546, .slice Ao29 t547.length co29, .slice Ao23 x538008_1.length co23]) ?_ 8 _ rfl; (with_reducible repeat (first | refine blk_drewN ?_ _ | refine blk_drew ?_ | refine blk_alloc ?_ _)); refine blk_put (cs := #[.int .i64 t540, .int .i64 t541, .int .i64 t542, .int .i64 t543, .int .i64 t544, .int .i64 t545, .int .i64 t546, .slice Ao22 x538007_1.length co22, .slice Ao23 x538008_1.length co23]) ?_ 7 _ rfl; (with_reducible repeat (first | refine blk_drewN ?_ _ | refine blk_drew ?_ | refine blk_alloc ?_ _)); refine blk_put (cs := #[.int .i64 t540, .int .i64 t541, .int .i64 t542, .int .i64 t543, .int .i64 t544, .int .i64 t545, .int .i64 x538006_1, .slice Ao22 x538007_1.length co22, .slice Ao23 x538008_1.length co23]) ?_ 6 _ rfl; (with_reducible repeat (first | refine blk_drewN ?_ _ | refine blk_drew ?_ | refine blk_alloc ?_ _)); refine blk_put (cs := #[.int .i64 t540, .int .i64 t541, .int .i64 t542, .int .i64 t543, .int .i64 t544, .int .i64 x538005_1, .int .i64 x538006_1, .slice Ao22 x538007_1.length co22, .slice Ao23 x538008_1.length co23]) ?_ 5 _ rfl; (with_reducible repeat (first | refine blk_drewN ?_ _ | refine blk_drew ?_ | refine blk_alloc ?_ _)); refine blk_put (cs := #[.int .i64 t540, .int .i64 t541, .int .i64 t542, .int .i64 t543, .int .i64 x538004_1, .int .i64 x538005_1, .int .i64 x538006_1, .slice Ao22 x538007_1.length co22, .slice Ao23 x538008_1.length co23]) ?_ 4 _ rfl; (with_reducible repeat (first | refine blk_drewN ?_ _ | refine blk_drew ?_ | refine blk_alloc ?_ _)); refine blk_put (cs := #[.int .i64 t540, .int .i64 t541, .int .i64 t542, .int .i64 x538003_1, .int .i64 x538004_1, .int .i64 x538005_1, .int .i64 x538006_1, .slice Ao22 x538007_1.length co22, .slice Ao23 x538008_1.length co23]) ?_ 3 _ rfl; (with_reducible repeat (first | refine blk_drewN ?_ _ | refine blk_drew ?_ | refine blk_alloc ?_ _)); refine blk_put (cs := #[.int .i64 t540, .int .i64 t541, .int .i64 x538002_1, .int .i64 x538003_1, .int .i64 x538004_1, .int .i64 x538005_1, .int .i64 x538006_1, .slice Ao22 x538007_1.length co22, .slice Ao23 x538008_1.length co23]) ?_ 2 _ rfl; (with_reducible repeat (first | refine blk_drewN ?_ _ | refine blk_drew ?_ | refine blk_alloc ?_ _)); refine blk_put (cs := #[.int .i64 t540, .int .i64 x538001_1, .int .i64 x538002_1, .int .i64 x538003_1, .int .i64 x538004_1, .int .i64 x538005_1, .int .i64 x538006_1, .slice Ao22 x538007_1.length co22, .slice Ao23 x538008_1.length co23]) ?_ 1 _ rfl; (with_reducible repeat (first | refine blk_drewN ?_ _ | refine blk_drew ?_ | refine blk_alloc ?_ _)); refine blk_put (cs := #[.int .i64 x538000_1, .int .i64 x538001_1, .int .i64 x538002_1, .int .i64 x538003_1, .int .i64 x538004_1, .int .i64 x538005_1, .int .i64 x538006_1, .slice Ao22 x538007_1.length co22, .slice Ao23 x538008_1.length co23]) ?_ 0 _ rfl; (with_reducible repeat (first | refine blk_drewN ?_ _ | refine blk_drew ?_ | refine blk_alloc ?_ _)); refine blk_far ?_ NB537_557.out _; (with_reducible repeat (first | refine blk_drewN ?_ _ | refine blk_drew ?_ | refine blk_alloc ?_ _)); refine blk_far ?_ NB537_557.out _; (with_reducible repeat (first | refine blk_drewN ?_ _ | refine blk_drew ?_ | refine blk_alloc ?_ _)); refine blk_far ?_ NB537_557.out _; (with_reducible repeat (first | refine blk_drewN ?_ _ | refine blk_drew ?_ | refine blk_alloc ?_ _)); refine blk_far ?_ NB537_557.out _; (with_reducible repeat (first | refine blk_drewN ?_ _ | refine blk_drew ?_ | refine blk_alloc ?_ _)); refine blk_far ?_ NB537_557.out _; (with_reducible repeat (first | refine blk_drewN ?_ _ | refine blk_drew ?_ | refine blk_alloc ?_ _)); refine blk_far ?_ NB537_557.out _; (with_reducible repeat (first | refine blk_drewN ?_ _ | refine blk_drew ?_ | refine blk_alloc ?_ _)); refine blk_far ?_ NB537_557.out _; (with_reducible repeat (first | refine blk_drewN ?_ _ | refine blk_drew ?_ | refine blk_alloc ?_ _)); refine blk_far ?_ NB537_557.out _; (with_reducible repeat (first | refine blk_drewN ?_ _ | refine blk_drew ?_ | refine blk_alloc ?_ _)); refine blk_far ?_ NB537_557.out _; (with_reducible repeat (first | refine blk_drewN ?_ _ | refine blk_drew ?_ | refine blk_alloc ?_ _)); exact BK537.out⟩, ⟨by repeat (first | (with_reducible first | exact HB.out | apply below_alloc | apply pw_below_drewN | apply below_drew1 | refine below_set ?_ GE537.out | refine below_set ?_ GE539.out | refine below_set ?_ GE557.out) | exact HB.out)⟩⟩
        ·rw [if_neg c31] at H
         have c31b0 : (t556 == 0) = false := beq_eq_false_iff_ne.mpr c31
         have c31b1 : (t556 != 0) = true := bne_iff_ne.mpr c31
         (first | rw [c31b0] | (simp only [i64_w, i32_w]; rw [c31b0]) | skip)
         have H' := Aside0.mk H
         clear H
         go_wp2
         go_meet
         case rel => exact ⟨_, (x538000_1), (x538001_1), (x538002_1), (x538003_1), (x538004_1), (x538005_1), (x538006_1), (x538007_1), (x538008_1), (.slice Ao22 x538007_1.length co22), (.slice Ao23 x538008_1.length co23), H', ⟨by have := HK1.out; first | omega | exact Nat.le_refl _⟩, ⟨by (with_reducible repeat (first | apply Kd.V_alloc | apply Kd.V_drewN | apply Kd.V_drew)); exact Kd.V_mono (Kd.V_far (p := ⟨gb557, 8, none⟩) (Kd.V_far (p := ⟨gb557, 7, none⟩) (Kd.V_far (p := ⟨gb557, 6, none⟩) (Kd.V_far (p := ⟨gb557, 5, none⟩) (Kd.V_far (p := ⟨gb557, 4, none⟩) (Kd.V_far (p := ⟨gb557, 3, none⟩) (Kd.V_far (p := ⟨gb557, 2, none⟩) (Kd.V_far (p := ⟨gb557, 1, none⟩) (Kd.V_far (p := ⟨gb557, 0, none⟩) (Kd.V_mono HO_538007.out (fun k_ hk => (⟨hk, hk.2⟩ : _ ∧ k_ ≠ gb557))) (fun _ hk => hk.2) (.int .i64 t540)) (fun _ hk => hk.2) (.int .i64 t541)) (fun _ hk => hk.2) (.int .i64 t542)) (fun _ hk => hk.2) (.int .i64 t543)) (fun _ hk => hk.2) (.int .i64 t544)) (fun _ hk => hk.2) (.int .i64 t545)) (fun _ hk => hk.2) (.int .i64 t546)) (fun _ hk => hk.2) (.slice Ao29 t547.length co29)) (fun _ hk => hk.2) (.slice Ao30 t550.length co30)) (fun _ hk => ⟨hk.1.1.1.1.1.1, hk.1.1.1.1.1.2⟩)⟩, ⟨by (with_reducible repeat (first | apply Kd.R_alloc | apply Kd.R_drewN | apply Kd.R_drew)); exact Kd.R_mono (Kd.R_far (p := ⟨gb557, 8, none⟩) (Kd.R_far (p := ⟨gb557, 7, none⟩) (Kd.R_far (p := ⟨gb557, 6, none⟩) (Kd.R_far (p := ⟨gb557, 5, none⟩) (Kd.R_far (p := ⟨gb557, 4, none⟩) (Kd.R_far (p := ⟨gb557, 3, none⟩) (Kd.R_far (p := ⟨gb557, 2, none⟩) (Kd.R_far (p := ⟨gb557, 1, none⟩) (Kd.R_far (p := ⟨gb557, 0, none⟩) (Kd.R_types HO_538008.out BK557.out (by decide)) (fun _ hk => hk.2) (.int .i64 t540)) (fun _ hk => hk.2) (.int .i64 t541)) (fun _ hk => hk.2) (.int .i64 t542)) (fun _ hk => hk.2) (.int .i64 t543)) (fun _ hk => hk.2) (.int .i64 t544)) (fun _ hk => hk.2) (.int .i64 t545)) (fun _ hk => hk.2) (.int .i64 t546)) (fun _ hk => hk.2) (.slice Ao29 t547.length co29)) (fun _ hk => hk.2) (.slice Ao30 t550.length co30)) (fun _ hk => trivial)⟩, ⟨by (with_reducible repeat (first | refine blk_drewN ?_ _ | refine blk_drew ?_ | refine blk_alloc ?_ _)); refine blk_far ?_ NB537_557.out _; (with_reducible repeat (first | refine blk_drewN ?_ _ | refine blk_drew ?_ | refine blk_alloc ?_ _)); refine blk_far ?_ NB537_557.out _; (with_reducible repeat (first | refine blk_drewN ?_ _ | refine blk_drew ?_ | refine blk_alloc ?_ _)); refine blk_far ?_ NB537_557.out _; (with_reducible repeat (first | refine blk_drewN ?_ _ | refine blk_drew ?_ | refine blk_alloc ?_ _)); refine blk_far ?_ NB537_557.out _; (with_reducible repeat (first | refine blk_drewN ?_ _ | refine blk_drew ?_ | refine blk_alloc ?_ _)); refine blk_far ?_ NB537_557.out _; (with_reducible repeat (first | refine blk_drewN ?_ _ | refine blk_drew ?_ | refine blk_alloc ?_ _)); refine blk_far ?_ NB537_557.out _; (with_reducible repeat (first | refine blk_drewN ?_ _ | refine blk_drew ?_ | refine blk_alloc ?_ _)); refine blk_far ?_ NB537_557.out _; (with_reducible repeat (first | refine blk_drewN ?_ _ | refine blk_drew ?_ | refine blk_alloc ?_ _)); refine blk_far ?_ NB537_557.out _; (with_reducible repeat (first | refine blk_drewN ?_ _ | refine blk_drew ?_ | refine blk_alloc ?_ _)); refine blk_far ?_ NB537_557.out _; (with_reducible repeat (first | refine blk_drewN ?_ _ | refine blk_drew ?_ | refine blk_alloc ?_ _)); exact BK537.out⟩, ⟨by repeat (first | (with_reducible first | exact HB.out | apply below_alloc | apply pw_below_drewN | apply below_drew1 | refine below_set ?_ GE537.out | refine below_set ?_ GE539.out | refine below_set ?_ GE557.out) | exact HB.out)⟩⟩
       case rest =>
        clear HC17
        try clear c1
        try clear c2
        try clear p2
        try clear c3
        try clear c4
        try clear p5
        try clear q5
        try clear hx5
        try clear c9
        try clear c11
        try clear c12
        try clear c13
        try clear c13b0
        try clear c14
        try clear c14b0
        try clear c15
        try clear c15b0
        try clear c19
        try clear c26
        try clear c27
        try clear c31
        try clear c31b0
        try clear c31b1
        try clear c32
        try clear c33
        try clear c35
        try clear hcz10_0
        try clear hcz10_1
        try clear hcz10_2
        try clear hcz10_3
        try clear hcz10_4
        try clear hcz10_5
        try clear hcz10_6
        try clear hcz10_7
        try clear hcz10_8
        try clear hcz20_0
        try clear hcz20_1
        try clear hcz20_2
        try clear hcz20_3
        try clear hcz20_4
        try clear hcz21_0
        try clear hcz21_1
        try clear hcz21_2
        try clear hcz21_3
        try clear hcz21_4
        try clear hcz21_5
        try clear hcz21_6
        try clear hcz21_7
        try clear hcz21_8
        try clear hcz28_0
        try clear hcz28_1
        try clear hcz28_2
        try clear hcz28_3
        try clear hcz28_4
        try clear hcz28_5
        try clear hcz28_6
        try clear hcz28_7
        try clear hcz28_8
        try clear hcz34_0
        try clear hcz34_1
        try clear hcz34_2
        try clear hcz34_3
        try clear hcz34_4
        try clear hcz34_5
        try clear hcz34_6
        try clear hcz34_7
        try clear hcz34_8
        try clear hcz36_0
        try clear hcz36_1
        try clear hcz36_2
        try clear hcz36_3
        try clear hcz36_4
        try clear hcz36_5
        try clear hcz36_6
        try clear hcz36_7
        try clear hcz36_8
        try clear hfz10_0
        try clear hfz10_1
        try clear hfz10_2
        try clear hfz10_3
        try clear hfz10_4
        try clear hfz10_5
        try clear hfz10_6
        try clear hfz10_7
        try clear hfz10_8
        try clear hfz20_0
        try clear hfz20_1
        try clear hfz20_2
        try clear hfz20_3
        try clear hfz20_4
        try clear hfz21_0
        try clear hfz21_1
        try clear hfz21_2
        try clear hfz21_3
        try clear hfz21_4
        try clear hfz21_5
        try clear hfz21_6
        try clear hfz21_7
        try clear hfz21_8
        try clear hfz28_0
        try clear hfz28_1
        try clear hfz28_2
        try clear hfz28_3
        try clear hfz28_4
        try clear hfz28_5
        try clear hfz28_6
        try clear hfz28_7
        try clear hfz28_8
        try clear hfz34_0
        try clear hfz34_1
        try clear hfz34_2
        try clear hfz34_3
        try clear hfz34_4
        try clear hfz34_5
        try clear hfz34_6
        try clear hfz34_7
        try clear hfz34_8
        try clear hfz36_0
        try clear hfz36_1
        try clear hfz36_2
        try clear hfz36_3
        try clear hfz36_4
        try clear hfz36_5
        try clear hfz36_6
        try clear hfz36_7
        try clear hfz36_8
        try clear hx538_0
        try clear hx538_1
        try clear hx538_2
        try clear hx538_3
        try clear hx538_4
        try clear p2
        try clear p538
        try clear q538
        obtain ⟨kq, x538000_16, x538001_16, x538002_16, x538003_16, x538004_16, x538005_16, x538006_16, x538007_16, x538008_16, u538007, u538008, HA, HJ16, HO_538007, HO_538008, BK537, HB⟩ := hcut
        cases kq with
        | zero => exact absurd HA.out (by simp [squelchlaw18_FloorLeaves.j1])
        | succ kj16 =>
         have H := HA.out
         clear HA
         simp only [squelchlaw18_FloorLeaves.j1] at H
         have H' := Aside0.mk H
         clear H
         have hcz37_0 : wc.cell? ⟨gb537, 0, none⟩ = some (.int .i64 x538000_16) := (blk_cell BK537.out 0).trans rfl
         have hcz37_1 : wc.cell? ⟨gb537, 1, none⟩ = some (.int .i64 x538001_16) := (blk_cell BK537.out 1).trans rfl
         have hcz37_2 : wc.cell? ⟨gb537, 2, none⟩ = some (.int .i64 x538002_16) := (blk_cell BK537.out 2).trans rfl
         have hcz37_3 : wc.cell? ⟨gb537, 3, none⟩ = some (.int .i64 x538003_16) := (blk_cell BK537.out 3).trans rfl
         have hcz37_4 : wc.cell? ⟨gb537, 4, none⟩ = some (.int .i64 x538004_16) := (blk_cell BK537.out 4).trans rfl
         have hcz37_5 : wc.cell? ⟨gb537, 5, none⟩ = some (.int .i64 x538005_16) := (blk_cell BK537.out 5).trans rfl
         have hcz37_6 : wc.cell? ⟨gb537, 6, none⟩ = some (.int .i64 x538006_16) := (blk_cell BK537.out 6).trans rfl
         have hcz37_7 : wc.cell? ⟨gb537, 7, none⟩ = some (u538007) := (blk_cell BK537.out 7).trans rfl
         have hcz37_8 : wc.cell? ⟨gb537, 8, none⟩ = some (u538008) := (blk_cell BK537.out 8).trans rfl
         have hfz37_0 := blk_frozen BK537.out 0
         have hfz37_1 := blk_frozen BK537.out 1
         have hfz37_2 := blk_frozen BK537.out 2
         have hfz37_3 := blk_frozen BK537.out 3
         have hfz37_4 := blk_frozen BK537.out 4
         have hfz37_5 := blk_frozen BK537.out 5
         have hfz37_6 := blk_frozen BK537.out 6
         have hfz37_7 := blk_frozen BK537.out 7
         have hfz37_8 := blk_frozen BK537.out 8
         obtain ⟨Ao38, co38, eo38⟩ := Kd.R_slice HO_538008.out
         subst eo38
         go_wp2
         (try simp only [Act.put, sA, sZ, sS])
         go_loopg [10, 44] kj16 (fun kq v10 v44 w' => ∃ (x10_3 : Int) (x44_3 : Int), v10 = .int .i64 x10_3 ∧ v44 = .int .i64 x44_3 ∧ Aside0 (squelchlaw18_FloorLeaves.l1 kq t522 x10_3 l0 (l0.length : Int) x27_1 x538008_16 (x538008_16.length : Int) x44_3 x538000_16 x538001_16 x538002_16 x538003_16 x538004_16 x538005_16 x538006_16 x538007_16 x538008_16 = some r) ∧ Aside0 (kq ≤ kj16) ∧ Aside0 (Kd.R (Kd.int .i64) 3 w' w.heap.size (fun _ => True) (.slice Ao38 x538008_16.length co38) x538008_16) ∧ Aside0 (Kd.V k43 43 w' w.heap.size (fun k_ => some k_ ≠ ((.slice Ao38 x538008_16.length co38) : Value).ownBlock ∧ some k_ ≠ ((.slice Ao38 x538008_16.length co38) : Value).ownBlock ∧ k_ ≠ gb537) u538007 x538007_16) ∧ Aside0 (Kd.R (Kd.int .i64) 3 w' w.heap.size (fun _ => True) (.slice Ao38 x538008_16.length co38) x538008_16) ∧ Aside0 (w'.heap[gb537]? = some (.cells #[.int .i64 x538000_16, .int .i64 x538001_16, .int .i64 x538002_16, .int .i64 x538003_16, .int .i64 x538004_16, .int .i64 x538005_16, .int .i64 x538006_16, u538007, (.slice Ao38 x538008_16.length co38)] 28 (0, 0))) ∧ Aside0 (Below w.heap.size w w'))
         case atStart => exact ⟨(0), (0), (by first | rfl | (simp; done) | (simp [*]; done)), (by first | rfl | (simp; done) | (simp [*]; done)), H', ⟨Nat.le_refl _⟩, ⟨by (with_reducible repeat (first | apply Kd.R_alloc | apply Kd.R_drewN | apply Kd.R_drew)); exact HO_538008.out⟩, ⟨by (with_reducible repeat (first | apply Kd.V_alloc | apply Kd.V_drewN | apply Kd.V_drew)); exact Kd.V_mono HO_538007.out (fun _ hk => ⟨hk.1, ⟨hk.1, hk.2⟩⟩)⟩, ⟨by (with_reducible repeat (first | apply Kd.R_alloc | apply Kd.R_drewN | apply Kd.R_drew)); exact HO_538008.out⟩, ⟨by (with_reducible repeat (first | refine blk_drewN ?_ _ | refine blk_drew ?_ | refine blk_alloc ?_ _)); exact BK537.out⟩, ⟨by repeat (first | (with_reducible first | exact HB.out | apply below_alloc | apply pw_below_drewN | apply below_drew1 | refine below_set ?_ GE537.out) | exact HB.out)⟩⟩
         case round =>
          clear H'
          try clear c1
          try clear c2
          try clear p2
          try clear c3
          try clear c4
          try clear p5
          try clear q5
          try clear hx5
          try clear c9
          try clear c11
          try clear c12
          try clear c13
          try clear c13b0
          try clear c14
          try clear c14b0
          try clear c15
          try clear c15b0
          try clear c19
          try clear c26
          try clear c27
          try clear c31
          try clear c31b0
          try clear c31b1
          try clear c32
          try clear c33
          try clear c35
          try clear hcz10_0
          try clear hcz10_1
          try clear hcz10_2
          try clear hcz10_3
          try clear hcz10_4
          try clear hcz10_5
          try clear hcz10_6
          try clear hcz10_7
          try clear hcz10_8
          try clear hcz20_0
          try clear hcz20_1
          try clear hcz20_2
          try clear hcz20_3
          try clear hcz20_4
          try clear hcz21_0
          try clear hcz21_1
          try clear hcz21_2
          try clear hcz21_3
          try clear hcz21_4
          try clear hcz21_5
          try clear hcz21_6
          try clear hcz21_7
          try clear hcz21_8
          try clear hcz28_0
          try clear hcz28_1
          try clear hcz28_2
          try clear hcz28_3
          try clear hcz28_4
          try clear hcz28_5
          try clear hcz28_6
          try clear hcz28_7
          try clear hcz28_8
          try clear hcz34_0
          try clear hcz34_1
          try clear hcz34_2
          try clear hcz34_3
          try clear hcz34_4
          try clear hcz34_5
          try clear hcz34_6
          try clear hcz34_7
          try clear hcz34_8
          try clear hcz36_0
          try clear hcz36_1
          try clear hcz36_2
          try clear hcz36_3
          try clear hcz36_4
          try clear hcz36_5
          try clear hcz36_6
          try clear hcz36_7
          try clear hcz36_8
          try clear hcz37_0
          try clear hcz37_1
          try clear hcz37_2
          try clear hcz37_3
          try clear hcz37_4
          try clear hcz37_5
          try clear hcz37_6
          try clear hcz37_7
          try clear hcz37_8
          try clear hfz10_0
          try clear hfz10_1
          try clear hfz10_2
          try clear hfz10_3
          try clear hfz10_4
          try clear hfz10_5
          try clear hfz10_6
          try clear hfz10_7
          try clear hfz10_8
          try clear hfz20_0
          try clear hfz20_1
          try clear hfz20_2
          try clear hfz20_3
          try clear hfz20_4
          try clear hfz21_0
          try clear hfz21_1
          try clear hfz21_2
          try clear hfz21_3
          try clear hfz21_4
          try clear hfz21_5
          try clear hfz21_6
          try clear hfz21_7
          try clear hfz21_8
          try clear hfz28_0
          try clear hfz28_1
          try clear hfz28_2
          try clear hfz28_3
          try clear hfz28_4
          try clear hfz28_5
          try clear hfz28_6
          try clear hfz28_7
          try clear hfz28_8
          try clear hfz34_0
          try clear hfz34_1
          try clear hfz34_2
          try clear hfz34_3
          try clear hfz34_4
          try clear hfz34_5
          try clear hfz34_6
          try clear hfz34_7
          try clear hfz34_8
          try clear hfz36_0
          try clear hfz36_1
          try clear hfz36_2
          try clear hfz36_3
          try clear hfz36_4
          try clear hfz36_5
          try clear hfz36_6
          try clear hfz36_7
          try clear hfz36_8
          try clear hfz37_0
          try clear hfz37_1
          try clear hfz37_2
          try clear hfz37_3
          try clear hfz37_4
          try clear hfz37_5
          try clear hfz37_6
          try clear hfz37_7
          try clear hfz37_8
          try clear hx538_0
          try clear hx538_1
          try clear hx538_2
          try clear hx538_3
          try clear hx538_4
          try clear p2
          try clear p5
          try clear p538
          try clear q5
          try clear q538
          obtain ⟨x10_3, x44_3, rfl, rfl, HA, HK3, HO_42, HO_538007, HO_538008, BK537, HB⟩ := hrel
          cases gk with
          | zero => exact absurd HA.out (by simp [squelchlaw18_FloorLeaves.l1])
          | succ k3 =>
           have H := HA.out
           clear HA
           simp only [squelchlaw18_FloorLeaves.l1] at H
           by_cases c39 : x44_3 < (x538008_16.length : Int)
           ·rw [if_pos c39] at H
            have c39b0 : decide (x44_3 < (x538008_16.length : Int)) = true := decide_eq_true c39
            clear c39
            by_cases c40 : 0 ≤ x44_3
            ·rw [if_pos c40] at H
             have c40b0 : decide (0 ≤ x44_3) = true := decide_eq_true c40
             clear c40
             by_cases c41 : x44_3 < (x538008_16.length : Int)
             ·rw [if_pos c41] at H
              have c41b0 : decide (x44_3 < (x538008_16.length : Int)) = true := decide_eq_true c41
              clear c41
              replace H := Option.bind_eq_some_iff.mp H
              obtain ⟨t559, A420, H⟩ := H
              replace H : (if t559 = true then (squelchlaw18_FloorLeaves.j3 k3 t522 (wrap64 (x10_3 + 1)) (rd x538008_16 x44_3) l0 (l0.length : Int) x27_1 x538008_16 (x538008_16.length : Int) x44_3 x538000_16 x538001_16 x538002_16 x538003_16 x538004_16 x538005_16 x538006_16 x538007_16 x538008_16) else (squelchlaw18_FloorLeaves.j3 k3 t522 x10_3 (rd x538008_16 x44_3) l0 (l0.length : Int) x27_1 x538008_16 (x538008_16.length : Int) x44_3 x538000_16 x538001_16 x538002_16 x538003_16 x538004_16 x538005_16 x538006_16 x538007_16 x538008_16)) = some r := H
              have A42 := Aside0.mk A420
              clear A420
              have HC43 := Aside0.mk H
              clear H
              have p558 : 0 ≤ (x44_3 : Int) := of_decide_eq_true (by first | (with_reducible assumption) | assumption)
              have q558 : x44_3 < (x538008_16.length : Int) := of_decide_eq_true (by first | (with_reducible assumption) | assumption)
              obtain ⟨ad558, e558, hx558_0⟩ := Kd.at_int (Kd.R_reads' HO_42.out).2.2 x44_3 p558 q558
              cases e558
              replace p558 := eq_true p558
              replace q558 := eq_true q558
              have hcz44_0 : wr.cell? ⟨gb537, 0, none⟩ = some (.int .i64 x538000_16) := (blk_cell BK537.out 0).trans rfl
              have hcz44_1 : wr.cell? ⟨gb537, 1, none⟩ = some (.int .i64 x538001_16) := (blk_cell BK537.out 1).trans rfl
              have hcz44_2 : wr.cell? ⟨gb537, 2, none⟩ = some (.int .i64 x538002_16) := (blk_cell BK537.out 2).trans rfl
              have hcz44_3 : wr.cell? ⟨gb537, 3, none⟩ = some (.int .i64 x538003_16) := (blk_cell BK537.out 3).trans rfl
              have hcz44_4 : wr.cell? ⟨gb537, 4, none⟩ = some (.int .i64 x538004_16) := (blk_cell BK537.out 4).trans rfl
              have hcz44_5 : wr.cell? ⟨gb537, 5, none⟩ = some (.int .i64 x538005_16) := (blk_cell BK537.out 5).trans rfl
              have hcz44_6 : wr.cell? ⟨gb537, 6, none⟩ = some (.int .i64 x538006_16) := (blk_cell BK537.out 6).trans rfl
              have hcz44_7 : wr.cell? ⟨gb537, 7, none⟩ = some (u538007) := (blk_cell BK537.out 7).trans rfl
              have hcz44_8 : wr.cell? ⟨gb537, 8, none⟩ = some (.slice (some ad558) x538008_16.length co38) := (blk_cell BK537.out 8).trans rfl
              have hfz44_0 := blk_frozen BK537.out 0
              have hfz44_1 := blk_frozen BK537.out 1
              have hfz44_2 := blk_frozen BK537.out 2
              have hfz44_3 := blk_frozen BK537.out 3
              have hfz44_4 := blk_frozen BK537.out 4
              have hfz44_5 := blk_frozen BK537.out 5
              have hfz44_6 := blk_frozen BK537.out 6
              have hfz44_7 := blk_frozen BK537.out 7
              have hfz44_8 := blk_frozen BK537.out 8
              obtain ⟨Ao45, co45, eo45⟩ := Kd.V_slice HO_538007.out
              subst eo45
              go_upto_if 52 with (first | ((with_reducible refine gate_callee (f := 16) rfl ?_); refine goesL_ (some 52) rfl rfl Try.func16 (by kernel_rfl) rfl #[.agg #[.int .i64 x538000_16, .int .i64 x538001_16, .int .i64 x538002_16, .int .i64 x538003_16, .int .i64 x538004_16, .int .i64 x538005_16, .int .i64 x538006_16, .slice Ao45 x538007_16.length co45, .slice (some ad558) x538008_16.length co38], .int .i64 (rd x538008_16 x44_3), .int .i64 x538001_16] rfl (by (try simp only [List.map_toArray, List.map_cons, List.map_nil]); first | done | rfl | (simp only [List.length_drop, List.length_take]; rfl)) ?_; (with_reducible refine (floor_Forward.calls k3 x538000_16 x538001_16 x538002_16 x538003_16 x538004_16 x538005_16 x538006_16 _ _ x538007_16 _ _ x538008_16 (rd x538008_16 x44_3) x538001_16 t559 _ ?side1 ?side2 ?side3 ?side4 A42.out).mono ?_); (case side1 => repeat (first | exact (Kd.V_reads' HO_538007.out).2.2 | (with_reducible refine Kd.C_alloc ?_ _) | (with_reducible refine Kd.C_drewN ?_ _) | (with_reducible refine Kd.C_drew ?_))); (case side2 => exact (Kd.V_reads' HO_538007.out).2.1); (case side3 => repeat (first | exact (Kd.R_reads' HO_538008.out).2.2 | (with_reducible refine Kd.C_alloc ?_ _) | (with_reducible refine Kd.C_drewN ?_ _) | (with_reducible refine Kd.C_drew ?_))); (case side4 => exact (Kd.R_reads' HO_538008.out).2.1); rintro e w46 ⟨rfl, hb⟩; refine ⟨_, rfl, ?_⟩; have n0_ := Aside0.mk (Kd.R_below (by (with_reducible repeat (first | apply Kd.R_alloc | apply Kd.R_drewN | apply Kd.R_drew)); exact HO_42.out) hb); have n1_ := Aside0.mk (Kd.V_below (by (with_reducible repeat (first | apply Kd.V_alloc | apply Kd.V_drewN | apply Kd.V_drew)); exact HO_538007.out) hb); have n2_ := Aside0.mk (Kd.R_below (by (with_reducible repeat (first | apply Kd.R_alloc | apply Kd.R_drewN | apply Kd.R_drew)); exact HO_538008.out) hb); have n3_ := Aside0.mk (blk_below (g := gb537) (o := .cells #[.int .i64 x538000_16, .int .i64 x538001_16, .int .i64 x538002_16, .int .i64 x538003_16, .int .i64 x538004_16, .int .i64 x538005_16, .int .i64 x538006_16, .slice Ao45 x538007_16.length co45, .slice (some ad558) x538008_16.length co38] 28 (0, 0)) (by (with_reducible repeat (first | refine blk_drewN ?_ _ | refine blk_drew ?_ | refine blk_alloc ?_ _)); exact BK537.out) hb); have n4_ := Aside0.mk (below_step (by repeat (first | (with_reducible first | exact HB.out | apply below_alloc | apply pw_below_drewN | apply below_drew1 | refine below_set ?_ GE537.out) | exact HB.out)) hb); clear HO_42; clear HO_538007; clear HO_538008; clear BK537; clear HB; have HO_42 := n0_; have HO_538007 := n1_; have HO_538008 := n2_; have BK537 := n3_; have HB := n4_; clear n0_ n1_ n2_ n3_ n4_; (try clear hb); (try clear hb2); (try clear hk); (try clear hi)))
              (try simp only [Act.put, sA, sZ, sS])
              go_cut [10] (fun v10 wc => ∃ (kq : Nat) (x10_42 : Int), v10 = .int .i64 x10_42 ∧ Aside0 (squelchlaw18_FloorLeaves.j3 kq t522 x10_42 (rd x538008_16 x44_3) l0 (l0.length : Int) x27_1 x538008_16 (x538008_16.length : Int) x44_3 x538000_16 x538001_16 x538002_16 x538003_16 x538004_16 x538005_16 x538006_16 x538007_16 x538008_16 = some r) ∧ Aside0 (kq ≤ k3) ∧ Aside0 (Kd.R (Kd.int .i64) 3 wc w.heap.size (fun _ => True) (.slice (some ad558) x538008_16.length co38) x538008_16) ∧ Aside0 (Kd.V k43 43 wc w.heap.size (fun k_ => some k_ ≠ ((.slice (some ad558) x538008_16.length co38) : Value).ownBlock ∧ some k_ ≠ ((.slice (some ad558) x538008_16.length co38) : Value).ownBlock ∧ k_ ≠ gb537) (.slice Ao45 x538007_16.length co45) x538007_16) ∧ Aside0 (Kd.R (Kd.int .i64) 3 wc w.heap.size (fun _ => True) (.slice (some ad558) x538008_16.length co38) x538008_16) ∧ Aside0 (wc.heap[gb537]? = some (.cells #[.int .i64 x538000_16, .int .i64 x538001_16, .int .i64 x538002_16, .int .i64 x538003_16, .int .i64 x538004_16, .int .i64 x538005_16, .int .i64 x538006_16, (.slice Ao45 x538007_16.length co45), (.slice (some ad558) x538008_16.length co38)] 28 (0, 0))) ∧ Aside0 (Below w.heap.size w wc))
              case first =>
               have H := HC43.out
               clear HC43
               by_cases c47 : t559 = true
               ·subst c47
                have H1 : (squelchlaw18_FloorLeaves.j3 k3 t522 (wrap64 (x10_3 + 1)) (rd x538008_16 x44_3) l0 (l0.length : Int) x27_1 x538008_16 (x538008_16.length : Int) x44_3 x538000_16 x538001_16 x538002_16 x538003_16 x538004_16 x538005_16 x538006_16 x538007_16 x538008_16) = some r := by rw [if_pos rfl] at H; exact H
                clear H
                have H := H1
                clear H1
                have H' := Aside0.mk H
                clear H
                go_wp2
                go_meet
                case rel => exact ⟨_, (wrap64 (x10_3 + 1)), (by first | rfl | (simp; done) | (simp [*]; done)), H', ⟨by have := HK1.out; have := HJ16.out; have := HK3.out; first | omega | exact Nat.le_refl _⟩, ⟨by (with_reducible repeat (first | apply Kd.R_alloc | apply Kd.R_drewN | apply Kd.R_drew)); exact HO_42.out⟩, ⟨by (with_reducible repeat (first | apply Kd.V_alloc | apply Kd.V_drewN | apply Kd.V_drew)); exact HO_538007.out⟩, ⟨by (with_reducible repeat (first | apply Kd.R_alloc | apply Kd.R_drewN | apply Kd.R_drew)); exact HO_538008.out⟩, ⟨by (with_reducible repeat (first | refine blk_drewN ?_ _ | refine blk_drew ?_ | refine blk_alloc ?_ _)); exact BK537.out⟩, ⟨by repeat (first | (with_reducible first | exact HB.out | apply below_alloc | apply pw_below_drewN | apply below_drew1 | refine below_set ?_ GE537.out) | exact HB.out)⟩⟩
               ·replace c47 := Bool.eq_false_iff.mpr c47
                subst c47
                have H1 : (squelchlaw18_FloorLeaves.j3 k3 t522 x10_3 (rd x538008_16 x44_3) l0 (l0.length : Int) x27_1 x538008_16 (x538008_16.length : Int) x44_3 x538000_16 x538001_16 x538002_16 x538003_16 x538004_16 x538005_16 x538006_16 x538007_16 x538008_16) = some r := by rw [if_neg (show ¬ (false = true) by decide)] at H; exact H
                clear H
                have H := H1
                clear H1
                have H' := Aside0.mk H
                clear H
                go_wp2
                go_meet
                case rel => exact ⟨_, (x10_3), (by first | rfl | (simp; done) | (simp [*]; done)), H', ⟨by have := HK1.out; have := HJ16.out; have := HK3.out; first | omega | exact Nat.le_refl _⟩, ⟨by (with_reducible repeat (first | apply Kd.R_alloc | apply Kd.R_drewN | apply Kd.R_drew)); exact HO_42.out⟩, ⟨by (with_reducible repeat (first | apply Kd.V_alloc | apply Kd.V_drewN | apply Kd.V_drew)); exact HO_538007.out⟩, ⟨by (with_reducible repeat (first | apply Kd.R_alloc | apply Kd.R_drewN | apply Kd.R_drew)); exact HO_538008.out⟩, ⟨by (with_reducible repeat (first | refine blk_drewN ?_ _ | refine blk_drew ?_ | refine blk_alloc ?_ _)); exact BK537.out⟩, ⟨by repeat (first | (with_reducible first | exact HB.out | apply below_alloc | apply pw_below_drewN | apply below_drew1 | refine below_set ?_ GE537.out) | exact HB.out)⟩⟩
              case rest =>
               clear HC43
               try clear c1
               try clear c2
               try clear p2
               try clear c3
               try clear c4
               try clear p5
               try clear q5
               try clear hx5
               try clear p6
               try clear c9
               try clear c11
               try clear c12
               try clear c13
               try clear c13b0
               try clear c14
               try clear c14b0
               try clear c15
               try clear c15b0
               try clear c16
               try clear c19
               try clear c26
               try clear c27
               try clear c31
               try clear c31b0
               try clear c31b1
               try clear c32
               try clear c33
               try clear c35
               try clear c39
               try clear c39b0
               try clear c40
               try clear c40b0
               try clear c41
               try clear c41b0
               try clear c47
               try clear hcz10_0
               try clear hcz10_1
               try clear hcz10_2
               try clear hcz10_3
               try clear hcz10_4
               try clear hcz10_5
               try clear hcz10_6
               try clear hcz10_7
               try clear hcz10_8
               try clear hcz20_0
               try clear hcz20_1
               try clear hcz20_2
               try clear hcz20_3
               try clear hcz20_4
               try clear hcz21_0
               try clear hcz21_1
               try clear hcz21_2
               try clear hcz21_3
               try clear hcz21_4
               try clear hcz21_5
               try clear hcz21_6
               try clear hcz21_7
               try clear hcz21_8
               try clear hcz28_0
               try clear hcz28_1
               try clear hcz28_2
               try clear hcz28_3
               try clear hcz28_4
               try clear hcz28_5
               try clear hcz28_6
               try clear hcz28_7
               try clear hcz28_8
               try clear hcz34_0
               try clear hcz34_1
               try clear hcz34_2
               try clear hcz34_3
               try clear hcz34_4
               try clear hcz34_5
               try clear hcz34_6
               try clear hcz34_7
               try clear hcz34_8
               try clear hcz36_0
               try clear hcz36_1
               try clear hcz36_2
               try clear hcz36_3
               try clear hcz36_4
               try clear hcz36_5
               try clear hcz36_6
               try clear hcz36_7
               try clear hcz36_8
               try clear hcz37_0
               try clear hcz37_1
               try clear hcz37_2
               try clear hcz37_3
               try clear hcz37_4
               try clear hcz37_5
               try clear hcz37_6
               try clear hcz37_7
               try clear hcz37_8
               try clear hcz44_0
               try clear hcz44_1
               try clear hcz44_2
               try clear hcz44_3
               try clear hcz44_4
               try clear hcz44_5
               try clear hcz44_6
               try clear hcz44_7
               try clear hcz44_8
               try clear hfz10_0
               try clear hfz10_1
               try clear hfz10_2
               try clear hfz10_3
               try clear hfz10_4
               try clear hfz10_5
               try clear hfz10_6
               try clear hfz10_7
               try clear hfz10_8
               try clear hfz20_0
               try clear hfz20_1
               try clear hfz20_2
               try clear hfz20_3
               try clear hfz20_4
               try clear hfz21_0
               try clear hfz21_1
               try clear hfz21_2
               try clear hfz21_3
               try clear hfz21_4
               try clear hfz21_5
               try clear hfz21_6
               try clear hfz21_7
               try clear hfz21_8
               try clear hfz28_0
               try clear hfz28_1
               try clear hfz28_2
               try clear hfz28_3
               try clear hfz28_4
               try clear hfz28_5
               try clear hfz28_6
               try clear hfz28_7
               try clear hfz28_8
               try clear hfz34_0
               try clear hfz34_1
               try clear hfz34_2
               try clear hfz34_3
               try clear hfz34_4
               try clear hfz34_5
               try clear hfz34_6
               try clear hfz34_7
               try clear hfz34_8
               try clear hfz36_0
               try clear hfz36_1
               try clear hfz36_2
               try clear hfz36_3
               try clear hfz36_4
               try clear hfz36_5
               try clear hfz36_6
               try clear hfz36_7
               try clear hfz36_8
               try clear hfz37_0
               try clear hfz37_1
               try clear hfz37_2
               try clear hfz37_3
               try clear hfz37_4
               try clear hfz37_5
               try clear hfz37_6
               try clear hfz37_7
               try clear hfz37_8
               try clear hfz44_0
               try clear hfz44_1
               try clear hfz44_2
               try clear hfz44_3
               try clear hfz44_4
               try clear hfz44_5
               try clear hfz44_6
               try clear hfz44_7
               try clear hfz44_8
               try clear hx538_0
               try clear hx538_1
               try clear hx538_2
               try clear hx538_3
               try clear hx538_4
               try clear hx558_0
               try clear p2
               try clear p5
               try clear p538
               try clear p558
               try clear q5
               try clear q538
               try clear q558
               obtain ⟨kq, x10_42, rfl, HA, HJ42, HO_42, HO_538007, HO_538008, BK537, HB⟩ := hcut
               cases kq with
               | zero => exact absurd HA.out (by simp [squelchlaw18_FloorLeaves.j3])
               | succ kj42 =>
                have H := HA.out
                clear HA
                simp only [squelchlaw18_FloorLeaves.j3] at H
                replace H := Option.bind_eq_some_iff.mp H
                obtain ⟨t560, A480, H⟩ := H
                replace H : (if t560 = true then (some false) else ((floor_Forward.f kj42 x538000_16 x538001_16 x538002_16 x538003_16 x538004_16 x538005_16 x538006_16 x538007_16 x538008_16 (rd x538008_16 x44_3) (wrap64 (x538001_16 - 1))).bind fun t561 => (if t561 = true then (some false) else (squelchlaw18_FloorLeaves.l1 kj42 t522 x10_42 l0 (l0.length : Int) x27_1 x538008_16 (x538008_16.length : Int) (wrap64 (x44_3 + 1)) x538000_16 x538001_16 x538002_16 x538003_16 x538004_16 x538005_16 x538006_16 x538007_16 x538008_16)))) = some r := H
                have A48 := Aside0.mk A480
                clear A480
                by_cases c49 : t560 = true
                ·subst c49
                 have H1 : (some false) = some r := by rw [if_pos rfl] at H; exact H
                 clear H
                 have H := H1
                 clear H1
                 obtain rfl := Option.some.inj H
                 exact absurd HR_.out (by simp)
                ·replace c49 := Bool.eq_false_iff.mpr c49
                 subst c49
                 have H1 : ((floor_Forward.f kj42 x538000_16 x538001_16 x538002_16 x538003_16 x538004_16 x538005_16 x538006_16 x538007_16 x538008_16 (rd x538008_16 x44_3) (wrap64 (x538001_16 - 1))).bind fun t561 => (if t561 = true then (some false) else (squelchlaw18_FloorLeaves.l1 kj42 t522 x10_42 l0 (l0.length : Int) x27_1 x538008_16 (x538008_16.length : Int) (wrap64 (x44_3 + 1)) x538000_16 x538001_16 x538002_16 x538003_16 x538004_16 x538005_16 x538006_16 x538007_16 x538008_16))) = some r := by rw [if_neg (show ¬ (false = true) by decide)] at H; exact H
                 clear H
                 have H := H1
                 clear H1
                 replace H := Option.bind_eq_some_iff.mp H
                 obtain ⟨t561, A500, H⟩ := H
                 replace H : (if t561 = true then (some false) else (squelchlaw18_FloorLeaves.l1 kj42 t522 x10_42 l0 (l0.length : Int) x27_1 x538008_16 (x538008_16.length : Int) (wrap64 (x44_3 + 1)) x538000_16 x538001_16 x538002_16 x538003_16 x538004_16 x538005_16 x538006_16 x538007_16 x538008_16)) = some r := H
                 have A50 := Aside0.mk A500
                 clear A500
                 by_cases c51 : t561 = true
                 ·subst c51
                  have H1 : (some false) = some r := by rw [if_pos rfl] at H; exact H
                  clear H
                  have H := H1
                  clear H1
                  obtain rfl := Option.some.inj H
                  exact absurd HR_.out (by simp)
                 ·replace c51 := Bool.eq_false_iff.mpr c51
                  subst c51
                  have H1 : (squelchlaw18_FloorLeaves.l1 kj42 t522 x10_42 l0 (l0.length : Int) x27_1 x538008_16 (x538008_16.length : Int) (wrap64 (x44_3 + 1)) x538000_16 x538001_16 x538002_16 x538003_16 x538004_16 x538005_16 x538006_16 x538007_16 x538008_16) = some r := by rw [if_neg (show ¬ (false = true) by decide)] at H; exact H
                  clear H
                  have H := H1
                  clear H1
                  have H' := Aside0.mk H
                  clear H
                  have hcz52_0 : wc.cell? ⟨gb537, 0, none⟩ = some (.int .i64 x538000_16) := (blk_cell BK537.out 0).trans rfl
                  have hcz52_1 : wc.cell? ⟨gb537, 1, none⟩ = some (.int .i64 x538001_16) := (blk_cell BK537.out 1).trans rfl
                  have hcz52_2 : wc.cell? ⟨gb537, 2, none⟩ = some (.int .i64 x538002_16) := (blk_cell BK537.out 2).trans rfl
                  have hcz52_3 : wc.cell? ⟨gb537, 3, none⟩ = some (.int .i64 x538003_16) := (blk_cell BK537.out 3).trans rfl
                  have hcz52_4 : wc.cell? ⟨gb537, 4, none⟩ = some (.int .i64 x538004_16) := (blk_cell BK537.out 4).trans rfl
                  have hcz52_5 : wc.cell? ⟨gb537, 5, none⟩ = some (.int .i64 x538005_16) := (blk_cell BK537.out 5).trans rfl
                  have hcz52_6 : wc.cell? ⟨gb537, 6, none⟩ = some (.int .i64 x538006_16) := (blk_cell BK537.out 6).trans rfl
                  have hcz52_7 : wc.cell? ⟨gb537, 7, none⟩ = some (.slice Ao45 x538007_16.length co45) := (blk_cell BK537.out 7).trans rfl
                  have hcz52_8 : wc.cell? ⟨gb537, 8, none⟩ = some (.slice (some ad558) x538008_16.length co38) := (blk_cell BK537.out 8).trans rfl
                  have hfz52_0 := blk_frozen BK537.out 0
                  have hfz52_1 := blk_frozen BK537.out 1
                  have hfz52_2 := blk_frozen BK537.out 2
                  have hfz52_3 := blk_frozen BK537.out 3
                  have hfz52_4 := blk_frozen BK537.out 4
                  have hfz52_5 := blk_frozen BK537.out 5
                  have hfz52_6 := blk_frozen BK537.out 6
                  have hfz52_7 := blk_frozen BK537.out 7
                  have hfz52_8 := blk_frozen BK537.out 8
                  go_wp2_with (first | ((with_reducible refine gate_callee (f := 16) rfl ?_); refine goesL_ (some 60) rfl rfl Try.func16 (by kernel_rfl) rfl #[.agg #[.int .i64 x538000_16, .int .i64 x538001_16, .int .i64 x538002_16, .int .i64 x538003_16, .int .i64 x538004_16, .int .i64 x538005_16, .int .i64 x538006_16, .slice Ao45 x538007_16.length co45, .slice (some ad558) x538008_16.length co38], .int .i64 (rd x538008_16 x44_3), .int .i64 (wrap64 (x538001_16 + 1))] rfl (by (try simp only [List.map_toArray, List.map_cons, List.map_nil]); first | done | rfl | (simp only [List.length_drop, List.length_take]; rfl)) ?_; (with_reducible refine (floor_Forward.calls kj42 x538000_16 x538001_16 x538002_16 x538003_16 x538004_16 x538005_16 x538006_16 _ _ x538007_16 _ _ x538008_16 (rd x538008_16 x44_3) (wrap64 (x538001_16 + 1)) false _ ?side1 ?side2 ?side3 ?side4 A48.out).mono ?_); (case side1 => repeat (first | exact (Kd.V_reads' HO_538007.out).2.2 | (with_reducible refine Kd.C_alloc ?_ _) | (with_reducible refine Kd.C_drewN ?_ _) | (with_reducible refine Kd.C_drew ?_))); (case side2 => exact (Kd.V_reads' HO_538007.out).2.1); (case side3 => repeat (first | exact (Kd.R_reads' HO_538008.out).2.2 | (with_reducible refine Kd.C_alloc ?_ _) | (with_reducible refine Kd.C_drewN ?_ _) | (with_reducible refine Kd.C_drew ?_))); (case side4 => exact (Kd.R_reads' HO_538008.out).2.1); rintro e w53 ⟨rfl, hb⟩; refine ⟨_, rfl, ?_⟩; have n0_ := Aside0.mk (Kd.R_below (by (with_reducible repeat (first | apply Kd.R_alloc | apply Kd.R_drewN | apply Kd.R_drew)); exact HO_42.out) hb); have n1_ := Aside0.mk (Kd.V_below (by (with_reducible repeat (first | apply Kd.V_alloc | apply Kd.V_drewN | apply Kd.V_drew)); exact HO_538007.out) hb); have n2_ := Aside0.mk (Kd.R_below (by (with_reducible repeat (first | apply Kd.R_alloc | apply Kd.R_drewN | apply Kd.R_drew)); exact HO_538008.out) hb); have n3_ := Aside0.mk (blk_below (g := gb537) (o := .cells #[.int .i64 x538000_16, .int .i64 x538001_16, .int .i64 x538002_16, .int .i64 x538003_16, .int .i64 x538004_16, .int .i64 x538005_16, .int .i64 x538006_16, .slice Ao45 x538007_16.length co45, .slice (some ad558) x538008_16.length co38] 28 (0, 0)) (by (with_reducible repeat (first | refine blk_drewN ?_ _ | refine blk_drew ?_ | refine blk_alloc ?_ _)); exact BK537.out) hb); have n4_ := Aside0.mk (below_step (by repeat (first | (with_reducible first | exact HB.out | apply below_alloc | apply pw_below_drewN | apply below_drew1 | refine below_set ?_ GE537.out) | exact HB.out)) hb); clear HO_42; clear HO_538007; clear HO_538008; clear BK537; clear HB; have HO_42 := n0_; have HO_538007 := n1_; have HO_538008 := n2_; have BK537 := n3_; have HB := n4_; clear n0_ n1_ n2_ n3_ n4_; (try clear hb); (try clear hb2); (try clear hk); (try clear hi); have hcz54_0 : w53.cell? ⟨gb537, 0, none⟩ = some (.int .i64 x538000_16) := (blk_cell BK537.out 0).trans rfl; have hcz54_1 : w53.cell? ⟨gb537, 1, none⟩ = some (.int .i64 x538001_16) := (blk_cell BK537.out 1).trans rfl; have hcz54_2 : w53.cell? ⟨gb537, 2, none⟩ = some (.int .i64 x538002_16) := (blk_cell BK537.out 2).trans rfl; have hcz54_3 : w53.cell? ⟨gb537, 3, none⟩ = some (.int .i64 x538003_16) := (blk_cell BK537.out 3).trans rfl; have hcz54_4 : w53.cell? ⟨gb537, 4, none⟩ = some (.int .i64 x538004_16) := (blk_cell BK537.out 4).trans rfl; have hcz54_5 : w53.cell? ⟨gb537, 5, none⟩ = some (.int .i64 x538005_16) := (blk_cell BK537.out 5).trans rfl; have hcz54_6 : w53.cell? ⟨gb537, 6, none⟩ = some (.int .i64 x538006_16) := (blk_cell BK537.out 6).trans rfl; have hcz54_7 : w53.cell? ⟨gb537, 7, none⟩ = some (.slice Ao45 x538007_16.length co45) := (blk_cell BK537.out 7).trans rfl; have hcz54_8 : w53.cell? ⟨gb537, 8, none⟩ = some (.slice (some ad558) x538008_16.length co38) := (blk_cell BK537.out 8).trans rfl; have hfz54_0 := blk_frozen BK537.out 0; have hfz54_1 := blk_frozen BK537.out 1; have hfz54_2 := blk_frozen BK537.out 2; have hfz54_3 := blk_frozen BK537.out 3; have hfz54_4 := blk_frozen BK537.out 4; have hfz54_5 := blk_frozen BK537.out 5; have hfz54_6 := blk_frozen BK537.out 6; have hfz54_7 := blk_frozen BK537.out 7; have hfz54_8 := blk_frozen BK537.out 8) | (go_at_call 16; (with_reducible refine (floor_Forward.calls kj42 x538000_16 x538001_16 x538002_16 x538003_16 x538004_16 x538005_16 x538006_16 _ _ x538007_16 _ _ x538008_16 (rd x538008_16 x44_3) (wrap64 (x538001_16 - 1)) false _ ?side1 ?side2 ?side3 ?side4 A50.out).mono ?_); (case side1 => repeat (first | exact (Kd.V_reads' HO_538007.out).2.2 | (with_reducible refine Kd.C_alloc ?_ _) | (with_reducible refine Kd.C_drewN ?_ _) | (with_reducible refine Kd.C_drew ?_))); (case side2 => exact (Kd.V_reads' HO_538007.out).2.1); (case side3 => repeat (first | exact (Kd.R_reads' HO_538008.out).2.2 | (with_reducible refine Kd.C_alloc ?_ _) | (with_reducible refine Kd.C_drewN ?_ _) | (with_reducible refine Kd.C_drew ?_))); (case side4 => exact (Kd.R_reads' HO_538008.out).2.1); rintro e w55 ⟨rfl, hb⟩; have n0_ := Aside0.mk (Kd.R_below (by (with_reducible repeat (first | apply Kd.R_alloc | apply Kd.R_drewN | apply Kd.R_drew)); exact HO_42.out) hb); have n1_ := Aside0.mk (Kd.V_below (by (with_reducible repeat (first | apply Kd.V_alloc | apply Kd.V_drewN | apply Kd.V_drew)); exact HO_538007.out) hb); have n2_ := Aside0.mk (Kd.R_below (by (with_reducible repeat (first | apply Kd.R_alloc | apply Kd.R_drewN | apply Kd.R_drew)); exact HO_538008.out) hb); have n3_ := Aside0.mk (blk_below (g := gb537) (o := .cells #[.int .i64 x538000_16, .int .i64 x538001_16, .int .i64 x538002_16, .int .i64 x538003_16, .int .i64 x538004_16, .int .i64 x538005_16, .int .i64 x538006_16, .slice Ao45 x538007_16.length co45, .slice (some ad558) x538008_16.length co38] 28 (0, 0)) (by (with_reducible repeat (first | refine blk_drewN ?_ _ | refine blk_drew ?_ | refine blk_alloc ?_ _)); exact BK537.out) hb); have n4_ := Aside0.mk (below_step (by repeat (first | (with_reducible first | exact HB.out | apply below_alloc | apply pw_below_drewN | apply below_drew1 | refine below_set ?_ GE537.out) | exact HB.out)) hb); clear HO_42; clear HO_538007; clear HO_538008; clear BK537; clear HB; have HO_42 := n0_; have HO_538007 := n1_; have HO_538008 := n2_; have BK537 := n3_; have HB := n4_; clear n0_ n1_ n2_ n3_ n4_; (try clear hb); (try clear hb2); (try clear hk); (try clear hi)))
                  go_roundg kj42
                  case measure => have := HK1.out; have := HJ16.out; have := HK3.out; have := HJ42.out; omega
                  case rel => exact ⟨(x10_42), (wrap64 (x44_3 + 1)), (by first | rfl | (simp; done) | (simp [*]; done)), (by first | rfl | (simp; done) | (simp [*]; done)), H', ⟨by have := HK1.out; have := HJ16.out; have := HK3.out; have := HJ42.out; omega⟩, ⟨by (with_reducible repeat (first | apply Kd.R_alloc | apply Kd.R_drewN | apply Kd.R_drew)); exact HO_42.out⟩, ⟨by (with_reducible repeat (first | apply Kd.V_alloc | apply Kd.V_drewN | apply Kd.V_drew)); exact HO_538007.out⟩, ⟨by (with_reducible repeat (first | apply Kd.R_alloc | apply Kd.R_drewN | apply Kd.R_drew)); exact HO_538008.out⟩, ⟨by (with_reducible repeat (first | refine blk_drewN ?_ _ | refine blk_drew ?_ | refine blk_alloc ?_ _)); exact BK537.out⟩, ⟨by repeat (first | (with_reducible first | exact HB.out | apply below_alloc | apply pw_below_drewN | apply below_drew1 | refine below_set ?_ GE537.out) | exact HB.out)⟩⟩
             ·rw [if_neg c41] at H
              exact absurd H (by simp)
            ·rw [if_neg c40] at H
             exact absurd H (by simp)
           ·rw [if_neg c39] at H
            have c39b0 : decide (x44_3 < (x538008_16.length : Int)) = false := decide_eq_false c39
            clear c39
            by_cases c56 : ((x10_3 == 1) != (x538000_16 != 0)) = true
            ·rw [if_pos c56] at H
             have c56b0 : ((x10_3 == 1) != (x538000_16 != 0)) = true := c56
             (try (have c56b1 : decide ((x10_3 == 1) = (x538000_16 != 0)) = false := by simpa using c56))
             (try (have c56b2 : ((x10_3 == 1) == (x538000_16 != 0)) = false := by simpa using c56))
             (try (have c56b3 : ¬ ((x10_3 == 1) = (x538000_16 != 0)) := by simpa using c56))
             clear c56
             obtain rfl := Option.some.inj H
             exact absurd HR_.out (by simp)
            ·rw [if_neg c56] at H
             have c56b0 : ((x10_3 == 1) != (x538000_16 != 0)) = false := by simpa using c56
             (try (have c56b1 : decide ((x10_3 == 1) = (x538000_16 != 0)) = true := by simpa using c56))
             (try (have c56b2 : ((x10_3 == 1) == (x538000_16 != 0)) = true := by simpa using c56))
             clear c56
             by_cases c57 : x10_3 > 1
             ·rw [if_pos c57] at H
              have c57b0 : decide (1 < x10_3) = true := decide_eq_true c57
              clear c57
              obtain rfl := Option.some.inj H
              exact absurd HR_.out (by simp)
             ·rw [if_neg c57] at H
              have c57b0 : decide (1 < x10_3) = false := decide_eq_false c57
              clear c57
              have H' := Aside0.mk H
              clear H
              have hcz58_0 : wr.cell? ⟨gb537, 0, none⟩ = some (.int .i64 x538000_16) := (blk_cell BK537.out 0).trans rfl
              have hcz58_1 : wr.cell? ⟨gb537, 1, none⟩ = some (.int .i64 x538001_16) := (blk_cell BK537.out 1).trans rfl
              have hcz58_2 : wr.cell? ⟨gb537, 2, none⟩ = some (.int .i64 x538002_16) := (blk_cell BK537.out 2).trans rfl
              have hcz58_3 : wr.cell? ⟨gb537, 3, none⟩ = some (.int .i64 x538003_16) := (blk_cell BK537.out 3).trans rfl
              have hcz58_4 : wr.cell? ⟨gb537, 4, none⟩ = some (.int .i64 x538004_16) := (blk_cell BK537.out 4).trans rfl
              have hcz58_5 : wr.cell? ⟨gb537, 5, none⟩ = some (.int .i64 x538005_16) := (blk_cell BK537.out 5).trans rfl
              have hcz58_6 : wr.cell? ⟨gb537, 6, none⟩ = some (.int .i64 x538006_16) := (blk_cell BK537.out 6).trans rfl
              have hcz58_7 : wr.cell? ⟨gb537, 7, none⟩ = some (u538007) := (blk_cell BK537.out 7).trans rfl
              have hcz58_8 : wr.cell? ⟨gb537, 8, none⟩ = some (.slice Ao38 x538008_16.length co38) := (blk_cell BK537.out 8).trans rfl
              have hfz58_0 := blk_frozen BK537.out 0
              have hfz58_1 := blk_frozen BK537.out 1
              have hfz58_2 := blk_frozen BK537.out 2
              have hfz58_3 := blk_frozen BK537.out 3
              have hfz58_4 := blk_frozen BK537.out 4
              have hfz58_5 := blk_frozen BK537.out 5
              have hfz58_6 := blk_frozen BK537.out 6
              have hfz58_7 := blk_frozen BK537.out 7
              have hfz58_8 := blk_frozen BK537.out 8
              go_wp2
              go_roundg k3
              case measure => have := HK1.out; have := HJ16.out; have := HK3.out; omega
              case rel => exact ⟨(wrap64 (x27_1 + 1)), (x538000_16), (x538001_16), (x538002_16), (x538003_16), (x538004_16), (x538005_16), (x538006_16), (x538007_16), (x538008_16), (u538007), (.slice Ao38 x538008_16.length co38), (by first | rfl | (simp; done) | (simp [*]; done)), H', ⟨by have := HK1.out; have := HJ16.out; have := HK3.out; omega⟩, ⟨by (with_reducible repeat (first | apply Kd.V_alloc | apply Kd.V_drewN | apply Kd.V_drew)); exact Kd.V_mono HO_538007.out (fun _ hk => ⟨hk.2.1, hk.2.2⟩)⟩, ⟨by (with_reducible repeat (first | apply Kd.R_alloc | apply Kd.R_drewN | apply Kd.R_drew)); exact HO_538008.out⟩, ⟨by (with_reducible repeat (first | refine blk_drewN ?_ _ | refine blk_drew ?_ | refine blk_alloc ?_ _)); exact BK537.out⟩, ⟨by repeat (first | (with_reducible first | exact HB.out | apply below_alloc | apply pw_below_drewN | apply below_drew1 | refine below_set ?_ GE537.out) | exact HB.out)⟩⟩
      ·rw [if_neg c15] at H
       exact absurd H (by simp)
     ·rw [if_neg c14] at H
      exact absurd H (by simp)
    ·rw [if_neg c13] at H
     have c13b0 : decide (x27_1 < (l0.length : Int)) = false := decide_eq_false c13
     clear c13
     by_cases c59 : ([] : List Int).length + x538008_1.length < 17592186044416
     ·rw [if_pos c59] at H
      have LMc59 := Aside0.mk c59
      clear c59
      obtain ⟨y562, hy562⟩ : ∃ y_ : List Int, y_ = (([] : List Int) ++ x538008_1) := ⟨_, rfl⟩
      replace H : (squelchlaw18_FloorLeaves.l2 k1 t522 y562 (y562.length : Int) 0 x538000_1 x538001_1 x538002_1 x538003_1 x538004_1 x538005_1 x538006_1 x538007_1 x538008_1) = some r := by first | (rw [hy562]; with_reducible exact H) | (have H2_ := (Option.bind_some _ _).symm.trans H; rw [hy562]; with_reducible exact H2_) | (have H2_ := (Option.bind_some _ _).symm.trans H; with_reducible exact H2_) | with_reducible exact H | (rw [hy562]; exact H) | exact H
      have Ny562 := Aside0.mk hy562
      clear hy562
      have H' := Aside0.mk H
      clear H
      have hcz60_0 : wr.cell? ⟨gb537, 0, none⟩ = some (.int .i64 x538000_1) := (blk_cell BK537.out 0).trans rfl
      have hcz60_1 : wr.cell? ⟨gb537, 1, none⟩ = some (.int .i64 x538001_1) := (blk_cell BK537.out 1).trans rfl
      have hcz60_2 : wr.cell? ⟨gb537, 2, none⟩ = some (.int .i64 x538002_1) := (blk_cell BK537.out 2).trans rfl
      have hcz60_3 : wr.cell? ⟨gb537, 3, none⟩ = some (.int .i64 x538003_1) := (blk_cell BK537.out 3).trans rfl
      have hcz60_4 : wr.cell? ⟨gb537, 4, none⟩ = some (.int .i64 x538004_1) := (blk_cell BK537.out 4).trans rfl
      have hcz60_5 : wr.cell? ⟨gb537, 5, none⟩ = some (.int .i64 x538005_1) := (blk_cell BK537.out 5).trans rfl
      have hcz60_6 : wr.cell? ⟨gb537, 6, none⟩ = some (.int .i64 x538006_1) := (blk_cell BK537.out 6).trans rfl
      have hcz60_7 : wr.cell? ⟨gb537, 7, none⟩ = some (u538007) := (blk_cell BK537.out 7).trans rfl
      have hcz60_8 : wr.cell? ⟨gb537, 8, none⟩ = some (u538008) := (blk_cell BK537.out 8).trans rfl
      have hfz60_0 := blk_frozen BK537.out 0
      have hfz60_1 := blk_frozen BK537.out 1
      have hfz60_2 := blk_frozen BK537.out 2
      have hfz60_3 := blk_frozen BK537.out 3
      have hfz60_4 := blk_frozen BK537.out 4
      have hfz60_5 := blk_frozen BK537.out 5
      have hfz60_6 := blk_frozen BK537.out 6
      have hfz60_7 := blk_frozen BK537.out 7
      have hfz60_8 := blk_frozen BK537.out 8
      obtain ⟨Ao62, co62, eo62⟩ := Kd.R_slice HO_538008.out
      subst eo62
      go_wp2_with (first | ((with_reducible refine gate_builtin (b := .append) (xs := #[.const (.slice none 0 0), .tmp 82]) rfl ?_); (try (refine gate_guard (by rfl) ?_; dsimp only)); at_builtin; refine Kd.R_append_rows (Kd.int .i64) (w0 := w) w.heap.size rfl (.const (.slice none 0 0)) (.tmp 82) 26 3 (.int .i64 0) 8 rfl Try.underlying26 info3 rfl (by decide) (by omega) (.slice none 0 0) ([] : List Int) x538008_1 _ _ _ (fun k_ => some k_ ≠ (.slice Ao62 x538008_1.length co62 : Value).ownBlock) (fun _ => False) rfl rfl ?aO ?aR (fun _ _ h => h) (fun _ h => h.elim) ?aF ?aB ?aS ?aL ?_; (case aR => repeat (first | exact (Kd.R_reads' HO_538008.out).2.2 | (with_reducible refine Kd.C_alloc ?_ _) | (with_reducible refine Kd.C_drewN ?_ _) | (with_reducible refine Kd.C_drew ?_))); (case aB => exact (by repeat (first | (with_reducible first | exact HB.out | apply below_alloc | apply pw_below_drewN | apply below_drew1 | refine below_set ?_ GE537.out) | exact HB.out))); (case aF => exact (fun k_ hk => Kd.fresh' (Kd.R_lt (by (with_reducible repeat (first | apply Kd.R_alloc | apply Kd.R_drewN | apply Kd.R_drew)); exact HO_538008.out)) k_ hk)); (case aO => exact ((Kd.R_nil _ _ _ _ (fun k_ => some k_ ≠ (.slice Ao62 x538008_1.length co62 : Value).ownBlock)))); (case aS => exact (below_size (by repeat (first | (with_reducible first | exact HB.out | apply below_alloc | apply pw_below_drewN | apply below_drew1 | refine below_set ?_ GE537.out) | exact HB.out)))); (case aL => have := LMc59.out; omega); intro v563 w61 ho hb hg hat; rw [← Ny562.out] at ho; have n0_ := Aside0.mk (Kd.V_afterv (Kd.V_apart_nil (by (with_reducible repeat (first | apply Kd.V_alloc | apply Kd.V_drewN | apply Kd.V_drew)); exact HO_538007.out)) hg hat); have n1_ := Aside0.mk (Kd.R_after (Kd.R_apart_nil (by (with_reducible repeat (first | apply Kd.R_alloc | apply Kd.R_drewN | apply Kd.R_drew)); exact HO_538008.out)) hg hat); have n2_ := Aside0.mk (blk_grown (g := gb537) (o := .cells #[.int .i64 x538000_1, .int .i64 x538001_1, .int .i64 x538002_1, .int .i64 x538003_1, .int .i64 x538004_1, .int .i64 x538005_1, .int .i64 x538006_1, u538007, .slice Ao62 x538008_1.length co62] 28 (0, 0)) (by (with_reducible repeat (first | refine blk_drewN ?_ _ | refine blk_drew ?_ | refine blk_alloc ?_ _)); exact BK537.out) hg (by simp [Value.ownBlock])); have n3_ := Aside0.mk (hb); have n4_ := Aside0.mk (ho); clear HO_538007; clear HO_538008; clear BK537; clear HB; have HO_538007 := n0_; have HO_538008 := n1_; have BK537 := n2_; have HB := n3_; have HO564 := n4_; clear n0_ n1_ n2_ n3_ n4_; clear ho hb hg hat; obtain ⟨Ao63, co63, eo63⟩ := Kd.R_slice HO564.out; subst eo63))
      (try simp only [Act.put, sA, sZ, sS])
      go_loopg [85] k1 (fun kq v85 w' => ∃ (x85_2 : Int) (x538000_2 : Int) (x538001_2 : Int) (x538002_2 : Int) (x538003_2 : Int) (x538004_2 : Int) (x538005_2 : Int) (x538006_2 : Int) (x538007_2 : List (S43)) (x538008_2 : List Int) (u538007 : Value) (u538008 : Value), v85 = .int .i64 x85_2 ∧ Aside0 (squelchlaw18_FloorLeaves.l2 kq t522 y562 (y562.length : Int) x85_2 x538000_2 x538001_2 x538002_2 x538003_2 x538004_2 x538005_2 x538006_2 x538007_2 x538008_2 = some r) ∧ Aside0 (kq ≤ k1) ∧ Aside0 (Kd.R (Kd.int .i64) 3 w' w.heap.size (fun k_ => some k_ ≠ (u538008 : Value).ownBlock) (.slice Ao63 y562.length co63) y562) ∧ Aside0 (Kd.V k43 43 w' w.heap.size (fun k_ => some k_ ≠ ((.slice Ao63 y562.length co63) : Value).ownBlock ∧ some k_ ≠ (u538008 : Value).ownBlock ∧ k_ ≠ gb537) u538007 x538007_2) ∧ Aside0 (Kd.R (Kd.int .i64) 3 w' w.heap.size (fun k_ => some k_ ≠ ((.slice Ao63 y562.length co63) : Value).ownBlock) u538008 x538008_2) ∧ Aside0 (w'.heap[gb537]? = some (.cells #[.int .i64 x538000_2, .int .i64 x538001_2, .int .i64 x538002_2, .int .i64 x538003_2, .int .i64 x538004_2, .int .i64 x538005_2, .int .i64 x538006_2, u538007, u538008] 28 (0, 0))) ∧ Aside0 (Below w.heap.size w w'))
      case atStart => exact ⟨(0), (x538000_1), (x538001_1), (x538002_1), (x538003_1), (x538004_1), (x538005_1), (x538006_1), (x538007_1), (x538008_1), (u538007), (.slice Ao62 x538008_1.length co62), (by first | rfl | (simp; done) | (simp [*]; done)), H', ⟨Nat.le_refl _⟩, ⟨by (with_reducible repeat (first | apply Kd.R_alloc | apply Kd.R_drewN | apply Kd.R_drew)); exact HO564.out⟩, ⟨by (with_reducible repeat (first | apply Kd.V_alloc | apply Kd.V_drewN | apply Kd.V_drew)); exact Kd.V_mono HO_538007.out (fun _ hk => ⟨hk.2, ⟨hk.1.1, hk.1.2⟩⟩)⟩, ⟨by (with_reducible repeat (first | apply Kd.R_alloc | apply Kd.R_drewN | apply Kd.R_drew)); exact Kd.R_mono HO_538008.out (fun _ hk => hk.2)⟩, ⟨by (with_reducible repeat (first | refine blk_drewN ?_ _ | refine blk_drew ?_ | refine blk_alloc ?_ _)); exact BK537.out⟩, ⟨by repeat (first | (with_reducible first | exact HB.out | apply below_alloc | apply pw_below_drewN | apply below_drew1 | refine below_set ?_ GE537.out) | exact HB.out)⟩⟩
      case round =>
       clear H'
       try clear c1
       try clear c2
       try clear p2
       try clear c3
       try clear c4
       try clear c5
       try clear p5
       try clear q5
       try clear hx5
       try clear p6
       try clear c9
       try clear c11
       try clear c12
       try clear c13
       try clear c13b0
       try clear c14
       try clear c14b0
       try clear c15
       try clear c15b0
       try clear c16
       try clear c19
       try clear c26
       try clear c27
       try clear c31
       try clear c31b0
       try clear c31b1
       try clear c32
       try clear c33
       try clear c35
       try clear c39
       try clear c39b0
       try clear c40
       try clear c40b0
       try clear c41
       try clear c41b0
       try clear c47
       try clear c49
       try clear c51
       try clear p53
       try clear q53
       try clear hx53
       try clear p55
       try clear q55
       try clear hx55
       try clear c56
       try clear c56b0
       try clear c56b1
       try clear c56b2
       try clear c57
       try clear c57b0
       try clear c59
       try clear hcz10_0
       try clear hcz10_1
       try clear hcz10_2
       try clear hcz10_3
       try clear hcz10_4
       try clear hcz10_5
       try clear hcz10_6
       try clear hcz10_7
       try clear hcz10_8
       try clear hcz20_0
       try clear hcz20_1
       try clear hcz20_2
       try clear hcz20_3
       try clear hcz20_4
       try clear hcz21_0
       try clear hcz21_1
       try clear hcz21_2
       try clear hcz21_3
       try clear hcz21_4
       try clear hcz21_5
       try clear hcz21_6
       try clear hcz21_7
       try clear hcz21_8
       try clear hcz28_0
       try clear hcz28_1
       try clear hcz28_2
       try clear hcz28_3
       try clear hcz28_4
       try clear hcz28_5
       try clear hcz28_6
       try clear hcz28_7
       try clear hcz28_8
       try clear hcz34_0
       try clear hcz34_1
       try clear hcz34_2
       try clear hcz34_3
       try clear hcz34_4
       try clear hcz34_5
       try clear hcz34_6
       try clear hcz34_7
       try clear hcz34_8
       try clear hcz36_0
       try clear hcz36_1
       try clear hcz36_2
       try clear hcz36_3
       try clear hcz36_4
       try clear hcz36_5
       try clear hcz36_6
       try clear hcz36_7
       try clear hcz36_8
       try clear hcz37_0
       try clear hcz37_1
       try clear hcz37_2
       try clear hcz37_3
       try clear hcz37_4
       try clear hcz37_5
       try clear hcz37_6
       try clear hcz37_7
       try clear hcz37_8
       try clear hcz44_0
       try clear hcz44_1
       try clear hcz44_2
       try clear hcz44_3
       try clear hcz44_4
       try clear hcz44_5
       try clear hcz44_6
       try clear hcz44_7
       try clear hcz44_8
       try clear hcz52_0
       try clear hcz52_1
       try clear hcz52_2
       try clear hcz52_3
       try clear hcz52_4
       try clear hcz52_5
       try clear hcz52_6
       try clear hcz52_7
       try clear hcz52_8
       try clear hcz54_0
       try clear hcz54_1
       try clear hcz54_2
       try clear hcz54_3
       try clear hcz54_4
       try clear hcz54_5
       try clear hcz54_6
       try clear hcz54_7
       try clear hcz54_8
       try clear hcz58_0
       try clear hcz58_1
       try clear hcz58_2
       try clear hcz58_3
       try clear hcz58_4
       try clear hcz58_5
       try clear hcz58_6
       try clear hcz58_7
       try clear hcz58_8
       try clear hcz60_0
       try clear hcz60_1
       try clear hcz60_2
       try clear hcz60_3
       try clear hcz60_4
       try clear hcz60_5
       try clear hcz60_6
       try clear hcz60_7
       try clear hcz60_8
       try clear hfz10_0
       try clear hfz10_1
       try clear hfz10_2
       try clear hfz10_3
       try clear hfz10_4
       try clear hfz10_5
       try clear hfz10_6
       try clear hfz10_7
       try clear hfz10_8
       try clear hfz20_0
       try clear hfz20_1
       try clear hfz20_2
       try clear hfz20_3
       try clear hfz20_4
       try clear hfz21_0
       try clear hfz21_1
       try clear hfz21_2
       try clear hfz21_3
       try clear hfz21_4
       try clear hfz21_5
       try clear hfz21_6
       try clear hfz21_7
       try clear hfz21_8
       try clear hfz28_0
       try clear hfz28_1
       try clear hfz28_2
       try clear hfz28_3
       try clear hfz28_4
       try clear hfz28_5
       try clear hfz28_6
       try clear hfz28_7
       try clear hfz28_8
       try clear hfz34_0
       try clear hfz34_1
       try clear hfz34_2
       try clear hfz34_3
       try clear hfz34_4
       try clear hfz34_5
       try clear hfz34_6
       try clear hfz34_7
       try clear hfz34_8
       try clear hfz36_0
       try clear hfz36_1
       try clear hfz36_2
       try clear hfz36_3
       try clear hfz36_4
       try clear hfz36_5
       try clear hfz36_6
       try clear hfz36_7
       try clear hfz36_8
       try clear hfz37_0
       try clear hfz37_1
       try clear hfz37_2
       try clear hfz37_3
       try clear hfz37_4
       try clear hfz37_5
       try clear hfz37_6
       try clear hfz37_7
       try clear hfz37_8
       try clear hfz44_0
       try clear hfz44_1
       try clear hfz44_2
       try clear hfz44_3
       try clear hfz44_4
       try clear hfz44_5
       try clear hfz44_6
       try clear hfz44_7
       try clear hfz44_8
       try clear hfz52_0
       try clear hfz52_1
       try clear hfz52_2
       try clear hfz52_3
       try clear hfz52_4
       try clear hfz52_5
       try clear hfz52_6
       try clear hfz52_7
       try clear hfz52_8
       try clear hfz54_0
       try clear hfz54_1
       try clear hfz54_2
       try clear hfz54_3
       try clear hfz54_4
       try clear hfz54_5
       try clear hfz54_6
       try clear hfz54_7
       try clear hfz54_8
       try clear hfz58_0
       try clear hfz58_1
       try clear hfz58_2
       try clear hfz58_3
       try clear hfz58_4
       try clear hfz58_5
       try clear hfz58_6
       try clear hfz58_7
       try clear hfz58_8
       try clear hfz60_0
       try clear hfz60_1
       try clear hfz60_2
       try clear hfz60_3
       try clear hfz60_4
       try clear hfz60_5
       try clear hfz60_6
       try clear hfz60_7
       try clear hfz60_8
       try clear hx538_0
       try clear hx538_1
       try clear hx538_2
       try clear hx538_3
       try clear hx538_4
       try clear hx558_0
       try clear p2
       try clear p5
       try clear p538
       try clear p558
       try clear p6
       try clear q5
       try clear q538
       try clear q558
       obtain ⟨x85_2, x538000_2, x538001_2, x538002_2, x538003_2, x538004_2, x538005_2, x538006_2, x538007_2, x538008_2, u538007, u538008, rfl, HA, HK2, HO_83, HO_538007, HO_538008, BK537, HB⟩ := hrel
       cases gk with
       | zero => exact absurd HA.out (by simp [squelchlaw18_FloorLeaves.l2])
       | succ k2 =>
        have H := HA.out
        clear HA
        simp only [squelchlaw18_FloorLeaves.l2] at H
        by_cases c64 : x85_2 < (y562.length : Int)
        ·rw [if_pos c64] at H
         have c64b0 : decide (x85_2 < (y562.length : Int)) = true := decide_eq_true c64
         clear c64
         by_cases c65 : 0 ≤ x85_2
         ·rw [if_pos c65] at H
          have c65b0 : decide (0 ≤ x85_2) = true := decide_eq_true c65
          clear c65
          by_cases c66 : x85_2 < (y562.length : Int)
          ·rw [if_pos c66] at H
           have c66b0 : decide (x85_2 < (y562.length : Int)) = true := decide_eq_true c66
           clear c66
           replace H := Option.bind_eq_some_iff.mp H
           obtain ⟨⟨t566, t567, t568, t569, t570, t571, t572, t573, t576, t579, t582⟩, A670, H⟩ := H
           replace H : (if t582 = 0 then ((floor_Member.f k2 t566 t567 t568 t569 t570 t571 t572 t573 t576 (rd y562 x85_2)).bind fun t584 => (if t584 = true then (some false) else ((floor_Place.f k2 t566 t567 t568 t569 t570 t571 t572 t573 t576 (rd y562 x85_2)).bind fun t585 => (if t585 = 0 then (squelchlaw18_FloorLeaves.l2 k2 t522 y562 (y562.length : Int) (wrap64 (x85_2 + 1)) t566 t567 t568 t569 t570 t571 t572 t573 t576) else (some false))))) else (some false)) = some r := H
           have A67 := Aside0.mk A670
           clear A670
           by_cases c68 : t582 = 0
           ·rw [if_pos c68] at H
            have c68b0 : (t582 == 0) = true := beq_iff_eq.mpr c68
            have c68b1 : (t582 != 0) = false := bne_eq_false_iff_eq.mpr c68
            clear c68
            replace H := Option.bind_eq_some_iff.mp H
            obtain ⟨t584, A690, H⟩ := H
            replace H : (if t584 = true then (some false) else ((floor_Place.f k2 t566 t567 t568 t569 t570 t571 t572 t573 t576 (rd y562 x85_2)).bind fun t585 => (if t585 = 0 then (squelchlaw18_FloorLeaves.l2 k2 t522 y562 (y562.length : Int) (wrap64 (x85_2 + 1)) t566 t567 t568 t569 t570 t571 t572 t573 t576) else (some false)))) = some r := H
            have A69 := Aside0.mk A690
            clear A690
            by_cases c70 : t584 = true
            ·subst c70
             have H1 : (some false) = some r := by rw [if_pos rfl] at H; exact H
             clear H
             have H := H1
             clear H1
             obtain rfl := Option.some.inj H
             exact absurd HR_.out (by simp)
            ·replace c70 := Bool.eq_false_iff.mpr c70
             subst c70
             have H1 : ((floor_Place.f k2 t566 t567 t568 t569 t570 t571 t572 t573 t576 (rd y562 x85_2)).bind fun t585 => (if t585 = 0 then (squelchlaw18_FloorLeaves.l2 k2 t522 y562 (y562.length : Int) (wrap64 (x85_2 + 1)) t566 t567 t568 t569 t570 t571 t572 t573 t576) else (some false))) = some r := by rw [if_neg (show ¬ (false = true) by decide)] at H; exact H
             clear H
             have H := H1
             clear H1
             replace H := Option.bind_eq_some_iff.mp H
             obtain ⟨t585, A710, H⟩ := H
             replace H : (if t585 = 0 then (squelchlaw18_FloorLeaves.l2 k2 t522 y562 (y562.length : Int) (wrap64 (x85_2 + 1)) t566 t567 t568 t569 t570 t571 t572 t573 t576) else (some false)) = some r := H
             have A71 := Aside0.mk A710
             clear A710
             by_cases c72 : t585 = 0
             ·rw [if_pos c72] at H
              have c72b0 : (t585 == 0) = true := beq_iff_eq.mpr c72
              have c72b1 : (t585 != 0) = false := bne_eq_false_iff_eq.mpr c72
              clear c72
              have H' := Aside0.mk H
              clear H
              have p565 : 0 ≤ (x85_2 : Int) := of_decide_eq_true (by first | (with_reducible assumption) | assumption)
              have q565 : x85_2 < (y562.length : Int) := of_decide_eq_true (by first | (with_reducible assumption) | assumption)
              obtain ⟨ad565, e565, hx565_0⟩ := Kd.at_int (Kd.R_reads' HO_83.out).2.2 x85_2 p565 q565
              cases e565
              replace p565 := eq_true p565
              replace q565 := eq_true q565
              have hcz73_0 : wr.cell? ⟨gb537, 0, none⟩ = some (.int .i64 x538000_2) := (blk_cell BK537.out 0).trans rfl
              have hcz73_1 : wr.cell? ⟨gb537, 1, none⟩ = some (.int .i64 x538001_2) := (blk_cell BK537.out 1).trans rfl
              have hcz73_2 : wr.cell? ⟨gb537, 2, none⟩ = some (.int .i64 x538002_2) := (blk_cell BK537.out 2).trans rfl
              have hcz73_3 : wr.cell? ⟨gb537, 3, none⟩ = some (.int .i64 x538003_2) := (blk_cell BK537.out 3).trans rfl
              have hcz73_4 : wr.cell? ⟨gb537, 4, none⟩ = some (.int .i64 x538004_2) := (blk_cell BK537.out 4).trans rfl
              have hcz73_5 : wr.cell? ⟨gb537, 5, none⟩ = some (.int .i64 x538005_2) := (blk_cell BK537.out 5).trans rfl
              have hcz73_6 : wr.cell? ⟨gb537, 6, none⟩ = some (.int .i64 x538006_2) := (blk_cell BK537.out 6).trans rfl
              have hcz73_7 : wr.cell? ⟨gb537, 7, none⟩ = some (u538007) := (blk_cell BK537.out 7).trans rfl
              have hcz73_8 : wr.cell? ⟨gb537, 8, none⟩ = some (u538008) := (blk_cell BK537.out 8).trans rfl
              have hfz73_0 := blk_frozen BK537.out 0
              have hfz73_1 := blk_frozen BK537.out 1
              have hfz73_2 := blk_frozen BK537.out 2
              have hfz73_3 := blk_frozen BK537.out 3
              have hfz73_4 := blk_frozen BK537.out 4
              have hfz73_5 := blk_frozen BK537.out 5
              have hfz73_6 := blk_frozen BK537.out 6
              have hfz73_7 := blk_frozen BK537.out 7
              have hfz73_8 := blk_frozen BK537.out 8
              obtain ⟨Ao74, co74, eo74⟩ := Kd.V_slice HO_538007.out
              subst eo74
              obtain ⟨Ao75, co75, eo75⟩ := Kd.R_slice HO_538008.out
              subst eo75
              go_wp2_with (first | ((with_reducible refine gate_callee (f := 14) rfl ?_); refine goesL_ (some 93) rfl rfl Try.func14 (by kernel_rfl) rfl #[.agg #[.int .i64 x538000_2, .int .i64 x538001_2, .int .i64 x538002_2, .int .i64 x538003_2, .int .i64 x538004_2, .int .i64 x538005_2, .int .i64 x538006_2, .slice Ao74 x538007_2.length co74, .slice Ao75 x538008_2.length co75], .agg #[.int .i64 2, .int .i64 (rd y562 x85_2), .int .i64 0, .int .i64 0, .int .i64 0]] rfl (by (try simp only [List.map_toArray, List.map_cons, List.map_nil]); first | done | rfl | (simp only [List.length_drop, List.length_take]; rfl)) ?_; (with_reducible refine (floor_Do.calls k2 x538000_2 x538001_2 x538002_2 x538003_2 x538004_2 x538005_2 x538006_2 _ _ x538007_2 _ _ x538008_2 2 (rd y562 x85_2) 0 0 0 t566 t567 t568 t569 t570 t571 t572 t573 t576 t579 t582 _ ?side1 ?side2 ?side3 ?side4 A67.out).mono ?_); (case side1 => repeat (first | exact (Kd.V_reads' HO_538007.out).2.2 | (with_reducible refine Kd.C_alloc ?_ _) | (with_reducible refine Kd.C_drewN ?_ _) | (with_reducible refine Kd.C_drew ?_))); (case side2 => exact (Kd.V_reads' HO_538007.out).2.1); (case side3 => repeat (first | exact (Kd.R_reads' HO_538008.out).2.2 | (with_reducible refine Kd.C_alloc ?_ _) | (with_reducible refine Kd.C_drewN ?_ _) | (with_reducible refine Kd.C_drew ?_))); (case side4 => exact (Kd.R_reads' HO_538008.out).2.1); rintro e w76 ⟨v574, v577, v580, rfl, ho0, ho1, ho2, hb⟩; refine ⟨_, rfl, ?_⟩; have n0_ := Aside0.mk (Kd.R_elder' (by (with_reducible repeat (first | apply Kd.R_alloc | apply Kd.R_drewN | apply Kd.R_drew)); exact HO_83.out) (Kd.R_base ho1) hb); have n1_ := Aside0.mk (Kd.V_mono (Kd.V_told (Kd.V_told (Kd.V_old (by (with_reducible repeat (first | apply Kd.V_alloc | apply Kd.V_drewN | apply Kd.V_drew)); exact HO_538007.out) hb) (Kd.R_base ho1)) (Kd.R_base ho2)) (fun _ h_ => h_.1)); have n2_ := Aside0.mk (Kd.R_elder' (by (with_reducible repeat (first | apply Kd.R_alloc | apply Kd.R_drewN | apply Kd.R_drew)); exact HO_538008.out) (Kd.R_base ho1) hb); have n3_ := Aside0.mk (Kd.V_lower (Kd.V_mono (ok' := fun k_ => some k_ ≠ (v577 : Value).ownBlock ∧ some k_ ≠ (v580 : Value).ownBlock ∧ some k_ ≠ (.slice (some ad565) y562.length co63 : Value).ownBlock ∧ some k_ ≠ (.slice Ao75 x538008_2.length co75 : Value).ownBlock ∧ k_ ≠ gb537) ho0 (fun k_ hk_ => ⟨hk_.2.1, hk_.2.2, (Kd.fresh' (Kd.R_lt (by (with_reducible repeat (first | apply Kd.R_alloc | apply Kd.R_drewN | apply Kd.R_drew)); exact HO_83.out)) k_ hk_.1), (Kd.fresh' (Kd.R_lt (by (with_reducible repeat (first | apply Kd.R_alloc | apply Kd.R_drewN | apply Kd.R_drew)); exact HO_538008.out)) k_ hk_.1), (Kd.freshB (g := gb537) (o := .cells #[.int .i64 x538000_2, .int .i64 x538001_2, .int .i64 x538002_2, .int .i64 x538003_2, .int .i64 x538004_2, .int .i64 x538005_2, .int .i64 x538006_2, .slice Ao74 x538007_2.length co74, .slice Ao75 x538008_2.length co75] 28 (0, 0)) (by (with_reducible repeat (first | refine blk_drewN ?_ _ | refine blk_drew ?_ | refine blk_alloc ?_ _)); exact BK537.out) k_ hk_.1)⟩)) (below_size (by repeat (first | (with_reducible first | exact HB.out | apply below_alloc | apply pw_below_drewN | apply below_drew1 | refine below_set ?_ GE537.out) | exact HB.out)))); have n4_ := Aside0.mk (Kd.R_lower (Kd.R_new' (Kd.R_new' (Kd.R_mono (ok' := fun k_ => True) ho1 (fun _ hk_ => trivial)) (Kd.R_lt (by (with_reducible repeat (first | apply Kd.R_alloc | apply Kd.R_drewN | apply Kd.R_drew)); exact HO_83.out))) (Kd.R_lt (by (with_reducible repeat (first | apply Kd.R_alloc | apply Kd.R_drewN | apply Kd.R_drew)); exact HO_538008.out))) (below_size (by repeat (first | (with_reducible first | exact HB.out | apply below_alloc | apply pw_below_drewN | apply below_drew1 | refine below_set ?_ GE537.out) | exact HB.out)))); have n5_ := Aside0.mk (Kd.R_lower (Kd.R_mono (ok' := fun k_ => True) ho2 (fun _ hk_ => trivial)) (below_size (by repeat (first | (with_reducible first | exact HB.out | apply below_alloc | apply pw_below_drewN | apply below_drew1 | refine below_set ?_ GE537.out) | exact HB.out)))); have n6_ := Aside0.mk (blk_below (g := gb537) (o := .cells #[.int .i64 x538000_2, .int .i64 x538001_2, .int .i64 x538002_2, .int .i64 x538003_2, .int .i64 x538004_2, .int .i64 x538005_2, .int .i64 x538006_2, .slice Ao74 x538007_2.length co74, .slice Ao75 x538008_2.length co75] 28 (0, 0)) (by (with_reducible repeat (first | refine blk_drewN ?_ _ | refine blk_drew ?_ | refine blk_alloc ?_ _)); exact BK537.out) hb); have n7_ := Aside0.mk (below_step (by repeat (first | (with_reducible first | exact HB.out | apply below_alloc | apply pw_below_drewN | apply below_drew1 | refine below_set ?_ GE537.out) | exact HB.out)) hb); clear HO_83; clear HO_538007; clear HO_538008; clear BK537; clear HB; have HO_83 := n0_; have HO_538007 := n1_; have HO_538008 := n2_; have HO575 := n3_; have HO578 := n4_; have HO581 := n5_; have BK537 := n6_; have HB := n7_; clear n0_ n1_ n2_ n3_ n4_ n5_ n6_ n7_; (try clear hb); (try clear hb2); (try clear hk); (try clear hi); (try clear ho0); (try clear ho1); (try clear ho2)) | ((with_reducible refine gate_dst (N := 15) rfl ?_); (try (refine gate_guard (by rfl) ?_; dsimp only)); refine box_event ?hg (N := 15) ?hd (cs := #[.int .i64 0, .int .i64 0, .int .i64 0, .int .i64 0, .int .i64 0, .int .i64 0, .int .i64 0, .slice none 0 0, .slice none 0 0]) (t := 28) ?hr ?_; (case hd => rfl); (case hg => rfl); (case hr => first | (go_simp; done) | (go_simp; rfl)); intro gb583 hg w77 hbox hb; have n0_ := Aside0.mk (Kd.R_below (by (with_reducible repeat (first | apply Kd.R_alloc | apply Kd.R_drewN | apply Kd.R_drew)); exact HO_83.out) hb); have n1_ := Aside0.mk (Kd.V_below (Kd.V_elderB (by (with_reducible repeat (first | apply Kd.V_alloc | apply Kd.V_drewN | apply Kd.V_drew)); exact HO_538007.out) gb583 (Nat.le_of_eq hg.symm)) hb); have n2_ := Aside0.mk (Kd.R_below (by (with_reducible repeat (first | apply Kd.R_alloc | apply Kd.R_drewN | apply Kd.R_drew)); exact HO_538008.out) hb); have n3_ := Aside0.mk (Kd.V_below (Kd.V_elderB (by (with_reducible repeat (first | apply Kd.V_alloc | apply Kd.V_drewN | apply Kd.V_drew)); exact HO575.out) gb583 (Nat.le_of_eq hg.symm)) hb); have n4_ := Aside0.mk (Kd.R_below (by (with_reducible repeat (first | apply Kd.R_alloc | apply Kd.R_drewN | apply Kd.R_drew)); exact HO578.out) hb); have n5_ := Aside0.mk (Kd.R_below (by (with_reducible repeat (first | apply Kd.R_alloc | apply Kd.R_drewN | apply Kd.R_drew)); exact HO581.out) hb); have n6_ := Aside0.mk (blk_below (g := gb537) (o := .cells #[.int .i64 x538000_2, .int .i64 x538001_2, .int .i64 x538002_2, .int .i64 x538003_2, .int .i64 x538004_2, .int .i64 x538005_2, .int .i64 x538006_2, .slice Ao74 x538007_2.length co74, .slice Ao75 x538008_2.length co75] 28 (0, 0)) (by (with_reducible repeat (first | refine blk_drewN ?_ _ | refine blk_drew ?_ | refine blk_alloc ?_ _)); exact BK537.out) hb); have n7_ := Aside0.mk (below_step (by repeat (first | (with_reducible first | exact HB.out | apply below_alloc | apply pw_below_drewN | apply below_drew1 | refine below_set ?_ GE537.out) | exact HB.out)) hb); have n8_ := Aside0.mk (hbox); have n9_ := Aside0.mk ((by rw [hg]; exact (below_size (by repeat (first | (with_reducible first | exact HB.out | apply below_alloc | apply pw_below_drewN | apply below_drew1 | refine below_set ?_ GE537.out) | exact HB.out))) : w.heap.size ≤ gb583)); have n10_ := Aside0.mk ((by rw [hg]; exact (below_size (by repeat (first | (with_reducible first | exact HB.out | apply below_alloc | apply pw_below_drewN | apply below_drew1 | refine below_set ?_ GE537.out) | exact HB.out))) : w.heap.size ≤ gb583)); have n11_ := Aside0.mk ((by rw [hg]; exact Nat.ne_of_lt (blk_lt (g := gb537) (o := .cells #[.int .i64 x538000_2, .int .i64 x538001_2, .int .i64 x538002_2, .int .i64 x538003_2, .int .i64 x538004_2, .int .i64 x538005_2, .int .i64 x538006_2, .slice Ao74 x538007_2.length co74, .slice Ao75 x538008_2.length co75] 28 (0, 0)) (by (with_reducible repeat (first | refine blk_drewN ?_ _ | refine blk_drew ?_ | refine blk_alloc ?_ _)); exact BK537.out)) : gb537 ≠ gb583)); have n12_ := Aside0.mk ((by rw [hg]; exact Nat.ne_of_gt (blk_lt (g := gb537) (o := .cells #[.int .i64 x538000_2, .int .i64 x538001_2, .int .i64 x538002_2, .int .i64 x538003_2, .int .i64 x538004_2, .int .i64 x538005_2, .int .i64 x538006_2, .slice Ao74 x538007_2.length co74, .slice Ao75 x538008_2.length co75] 28 (0, 0)) (by (with_reducible repeat (first | refine blk_drewN ?_ _ | refine blk_drew ?_ | refine blk_alloc ?_ _)); exact BK537.out)) : gb583 ≠ gb537)); clear HO_83; clear HO_538007; clear HO_538008; clear HO575; clear HO578; clear HO581; clear BK537; clear HB; have HO_83 := n0_; have HO_538007 := n1_; have HO_538008 := n2_; have HO575 := n3_; have HO578 := n4_; have HO581 := n5_; have BK537 := n6_; have HB := n7_; have BK583 := n8_; have GW583 := n9_; have GE583 := n10_; have NB537_583 := n11_; have NB583_537 := n12_; clear n0_ n1_ n2_ n3_ n4_ n5_ n6_ n7_ n8_ n9_ n10_ n11_ n12_; clear hb hbox hg; have hnb78 := NB583_537.out; have hnc78 := NB537_583.out; have hcz79_0 : w77.cell? ⟨gb583, 0, none⟩ = some (.int .i64 0) := (blk_cell BK583.out 0).trans rfl; have hcz79_1 : w77.cell? ⟨gb583, 1, none⟩ = some (.int .i64 0) := (blk_cell BK583.out 1).trans rfl; have hcz79_2 : w77.cell? ⟨gb583, 2, none⟩ = some (.int .i64 0) := (blk_cell BK583.out 2).trans rfl; have hcz79_3 : w77.cell? ⟨gb583, 3, none⟩ = some (.int .i64 0) := (blk_cell BK583.out 3).trans rfl; have hcz79_4 : w77.cell? ⟨gb583, 4, none⟩ = some (.int .i64 0) := (blk_cell BK583.out 4).trans rfl; have hcz79_5 : w77.cell? ⟨gb583, 5, none⟩ = some (.int .i64 0) := (blk_cell BK583.out 5).trans rfl; have hcz79_6 : w77.cell? ⟨gb583, 6, none⟩ = some (.int .i64 0) := (blk_cell BK583.out 6).trans rfl; have hcz79_7 : w77.cell? ⟨gb583, 7, none⟩ = some (.slice none 0 0) := (blk_cell BK583.out 7).trans rfl; have hcz79_8 : w77.cell? ⟨gb583, 8, none⟩ = some (.slice none 0 0) := (blk_cell BK583.out 8).trans rfl; have hfz79_0 := blk_frozen BK583.out 0; have hfz79_1 := blk_frozen BK583.out 1; have hfz79_2 := blk_frozen BK583.out 2; have hfz79_3 := blk_frozen BK583.out 3; have hfz79_4 := blk_frozen BK583.out 4; have hfz79_5 := blk_frozen BK583.out 5; have hfz79_6 := blk_frozen BK583.out 6; have hfz79_7 := blk_frozen BK583.out 7; have hfz79_8 := blk_frozen BK583.out 8; obtain ⟨Ao80, co80, eo80⟩ := Kd.V_slice HO575.out; subst eo80; obtain ⟨Ao81, co81, eo81⟩ := Kd.R_slice HO578.out; subst eo81) | (go_at_call 19; (with_reducible refine (floor_Member.calls k2 t566 t567 t568 t569 t570 t571 t572 _ _ t573 _ _ t576 (rd y562 x85_2) false _ ?side1 ?side2 ?side3 ?side4 A69.out).mono ?_); (case side1 => refine (Kd.V_reads' (e := 43) (base := w.heap.size) (ok := fun k_ => ((some k_ ≠ (.slice Ao81 t576.length co81 : Value).ownBlock ∧ (some k_ ≠ (v580 : Value).ownBlock ∧ (some k_ ≠ (.slice (some ad565) y562.length co63 : Value).ownBlock ∧ (some k_ ≠ (.slice Ao75 x538008_2.length co75 : Value).ownBlock ∧ k_ ≠ gb537)))) ∧ k_ ≠ gb583)) (n := t573.length) (c := co80) ?_).2.2; exact (by (with_reducible repeat (first | apply Kd.V_alloc | apply Kd.V_drewN | apply Kd.V_drew)); exact (Kd.V_mono (Kd.V_far (p := ⟨gb583, 8, none⟩) (Kd.V_far (p := ⟨gb583, 7, none⟩) (Kd.V_far (p := ⟨gb583, 6, none⟩) (Kd.V_far (p := ⟨gb583, 5, none⟩) (Kd.V_far (p := ⟨gb583, 4, none⟩) (Kd.V_far (p := ⟨gb583, 3, none⟩) (Kd.V_far (p := ⟨gb583, 2, none⟩) (Kd.V_far (p := ⟨gb583, 1, none⟩) (Kd.V_far (p := ⟨gb583, 0, none⟩) (Kd.V_mono HO575.out (fun k_ hk => (⟨hk, hk.2⟩ : _ ∧ k_ ≠ gb583))) (fun _ hk => hk.2) (.int .i64 t566)) (fun _ hk => hk.2) (.int .i64 t567)) (fun _ hk => hk.2) (.int .i64 t568)) (fun _ hk => hk.2) (.int .i64 t569)) (fun _ hk => hk.2) (.int .i64 t570)) (fun _ hk => hk.2) (.int .i64 t571)) (fun _ hk => hk.2) (.int .i64 t572)) (fun _ hk => hk.2) (.slice Ao80 t573.length co80)) (fun _ hk => hk.2) (.slice Ao81 t576.length co81)) (fun _ h_ => h_.1)))); (case side2 => exact (Kd.V_reads' HO575.out).2.1); (case side3 => refine (Kd.R_reads' (e := 3) (base := w.heap.size) (ok := fun k_ => ((True ∧ some k_ ≠ (.slice (some ad565) y562.length co63 : Value).ownBlock) ∧ some k_ ≠ (.slice Ao75 x538008_2.length co75 : Value).ownBlock)) (n := t576.length) (c := co81) ?_).2.2; exact (by (with_reducible repeat (first | apply Kd.R_alloc | apply Kd.R_drewN | apply Kd.R_drew)); exact (Kd.R_mono (Kd.R_far (p := ⟨gb583, 8, none⟩) (Kd.R_far (p := ⟨gb583, 7, none⟩) (Kd.R_far (p := ⟨gb583, 6, none⟩) (Kd.R_far (p := ⟨gb583, 5, none⟩) (Kd.R_far (p := ⟨gb583, 4, none⟩) (Kd.R_far (p := ⟨gb583, 3, none⟩) (Kd.R_far (p := ⟨gb583, 2, none⟩) (Kd.R_far (p := ⟨gb583, 1, none⟩) (Kd.R_far (p := ⟨gb583, 0, none⟩) (Kd.R_types HO578.out BK583.out (by decide)) (fun _ hk => hk.2) (.int .i64 t566)) (fun _ hk => hk.2) (.int .i64 t567)) (fun _ hk => hk.2) (.int .i64 t568)) (fun _ hk => hk.2) (.int .i64 t569)) (fun _ hk => hk.2) (.int .i64 t570)) (fun _ hk => hk.2) (.int .i64 t571)) (fun _ hk => hk.2) (.int .i64 t572)) (fun _ hk => hk.2) (.slice Ao80 t573.length co80)) (fun _ hk => hk.2) (.slice Ao81 t576.length co81)) (fun _ h_ => h_.1)))); (case side4 => exact (Kd.R_reads' HO578.out).2.1); rintro e w82 ⟨rfl, hb⟩; have n0_ := Aside0.mk (Kd.R_below (by (with_reducible repeat (first | apply Kd.R_alloc | apply Kd.R_drewN | apply Kd.R_drew)); exact (Kd.R_mono (Kd.R_far (p := ⟨gb583, 8, none⟩) (Kd.R_far (p := ⟨gb583, 7, none⟩) (Kd.R_far (p := ⟨gb583, 6, none⟩) (Kd.R_far (p := ⟨gb583, 5, none⟩) (Kd.R_far (p := ⟨gb583, 4, none⟩) (Kd.R_far (p := ⟨gb583, 3, none⟩) (Kd.R_far (p := ⟨gb583, 2, none⟩) (Kd.R_far (p := ⟨gb583, 1, none⟩) (Kd.R_far (p := ⟨gb583, 0, none⟩) (Kd.R_types HO_83.out BK583.out (by decide)) (fun _ hk => hk.2) (.int .i64 t566)) (fun _ hk => hk.2) (.int .i64 t567)) (fun _ hk => hk.2) (.int .i64 t568)) (fun _ hk => hk.2) (.int .i64 t569)) (fun _ hk => hk.2) (.int .i64 t570)) (fun _ hk => hk.2) (.int .i64 t571)) (fun _ hk => hk.2) (.int .i64 t572)) (fun _ hk => hk.2) (.slice Ao80 t573.length co80)) (fun _ hk => hk.2) (.slice Ao81 t576.length co81)) (fun _ h_ => h_.1))) hb); have n1_ := Aside0.mk (Kd.V_below (by (with_reducible repeat (first | apply Kd.V_alloc | apply Kd.V_drewN | apply Kd.V_drew)); exact (Kd.V_mono (Kd.V_far (p := ⟨gb583, 8, none⟩) (Kd.V_far (p := ⟨gb583, 7, none⟩) (Kd.V_far (p := ⟨gb583, 6, none⟩) (Kd.V_far (p := ⟨gb583, 5, none⟩) (Kd.V_far (p := ⟨gb583, 4, none⟩) (Kd.V_far (p := ⟨gb583, 3, none⟩) (Kd.V_far (p := ⟨gb583, 2, none⟩) (Kd.V_far (p := ⟨gb583, 1, none⟩) (Kd.V_far (p := ⟨gb583, 0, none⟩) (Kd.V_mono HO_538007.out (fun k_ hk => (⟨hk, hk.2⟩ : _ ∧ k_ ≠ gb583))) (fun _ hk => hk.2) (.int .i64 t566)) (fun _ hk => hk.2) (.int .i64 t567)) (fun _ hk => hk.2) (.int .i64 t568)) (fun _ hk => hk.2) (.int .i64 t569)) (fun _ hk => hk.2) (.int .i64 t570)) (fun _ hk => hk.2) (.int .i64 t571)) (fun _ hk => hk.2) (.int .i64 t572)) (fun _ hk => hk.2) (.slice Ao80 t573.length co80)) (fun _ hk => hk.2) (.slice Ao81 t576.length co81)) (fun _ h_ => h_.1))) hb); have n2_ := Aside0.mk (Kd.R_below (by (with_reducible repeat (first | apply Kd.R_alloc | apply Kd.R_drewN | apply Kd.R_drew)); exact (Kd.R_mono (Kd.R_far (p := ⟨gb583, 8, none⟩) (Kd.R_far (p := ⟨gb583, 7, none⟩) (Kd.R_far (p := ⟨gb583, 6, none⟩) (Kd.R_far (p := ⟨gb583, 5, none⟩) (Kd.R_far (p := ⟨gb583, 4, none⟩) (Kd.R_far (p := ⟨gb583, 3, none⟩) (Kd.R_far (p := ⟨gb583, 2, none⟩) (Kd.R_far (p := ⟨gb583, 1, none⟩) (Kd.R_far (p := ⟨gb583, 0, none⟩) (Kd.R_types HO_538008.out BK583.out (by decide)) (fun _ hk => hk.2) (.int .i64 t566)) (fun _ hk => hk.2) (.int .i64 t567)) (fun _ hk => hk.2) (.int .i64 t568)) (fun _ hk => hk.2) (.int .i64 t569)) (fun _ hk => hk.2) (.int .i64 t570)) (fun _ hk => hk.2) (.int .i64 t571)) (fun _ hk => hk.2) (.int .i64 t572)) (fun _ hk => hk.2) (.slice Ao80 t573.length co80)) (fun _ hk => hk.2) (.slice Ao81 t576.length co81)) (fun _ h_ => h_.1))) hb); have n3_ := Aside0.mk (Kd.V_below (by (with_reducible repeat (first | apply Kd.V_alloc | apply Kd.V_drewN | apply Kd.V_drew)); exact (Kd.V_mono (Kd.V_far (p := ⟨gb583, 8, none⟩) (Kd.V_far (p := ⟨gb583, 7, none⟩) (Kd.V_far (p := ⟨gb583, 6, none⟩) (Kd.V_far (p := ⟨gb583, 5, none⟩) (Kd.V_far (p := ⟨gb583, 4, none⟩) (Kd.V_far (p := ⟨gb583, 3, none⟩) (Kd.V_far (p := ⟨gb583, 2, none⟩) (Kd.V_far (p := ⟨gb583, 1, none⟩) (Kd.V_far (p := ⟨gb583, 0, none⟩) (Kd.V_mono HO575.out (fun k_ hk => (⟨hk, hk.2⟩ : _ ∧ k_ ≠ gb583))) (fun _ hk => hk.2) (.int .i64 t566)) (fun _ hk => hk.2) (.int .i64 t567)) (fun _ hk => hk.2) (.int .i64 t568)) (fun _ hk => hk.2) (.int .i64 t569)) (fun _ hk => hk.2) (.int .i64 t570)) (fun _ hk => hk.2) (.int .i64 t571)) (fun _ hk => hk.2) (.int .i64 t572)) (fun _ hk => hk.2) (.slice Ao80 t573.length co80)) (fun _ hk => hk.2) (.slice Ao81 t576.length co81)) (fun _ h_ => h_.1))) hb); have n4_ := Aside0.mk (Kd.R_below (by (with_reducible repeat (first | apply Kd.R_alloc | apply Kd.R_drewN | apply Kd.R_drew)); exact (Kd.R_mono (Kd.R_far (p := ⟨gb583, 8, none⟩) (Kd.R_far (p := ⟨gb583, 7, none⟩) (Kd.R_far (p := ⟨gb583, 6, none⟩) (Kd.R_far (p := ⟨gb583, 5, none⟩) (Kd.R_far (p := ⟨gb583, 4, none⟩) (Kd.R_far (p := ⟨gb583, 3, none⟩) (Kd.R_far (p := ⟨gb583, 2, none⟩) (Kd.R_far (p := ⟨gb583, 1, none⟩) (Kd.R_far (p := ⟨gb583, 0, none⟩) (Kd.R_types HO578.out BK583.out (by decide)) (fun _ hk => hk.2) (.int .i64 t566)) (fun _ hk => hk.2) (.int .i64 t567)) (fun _ hk => hk.2) (.int .i64 t568)) (fun _ hk => hk.2) (.int .i64 t569)) (fun _ hk => hk.2) (.int .i64 t570)) (fun _ hk => hk.2) (.int .i64 t571)) (fun _ hk => hk.2) (.int .i64 t572)) (fun _ hk => hk.2) (.slice Ao80 t573.length co80)) (fun _ hk => hk.2) (.slice Ao81 t576.length co81)) (fun _ h_ => h_.1))) hb); have n5_ := Aside0.mk (Kd.R_below (by (with_reducible repeat (first | apply Kd.R_alloc | apply Kd.R_drewN | apply Kd.R_drew)); exact (Kd.R_mono (Kd.R_far (p := ⟨gb583, 8, none⟩) (Kd.R_far (p := ⟨gb583, 7, none⟩) (Kd.R_far (p := ⟨gb583, 6, none⟩) (Kd.R_far (p := ⟨gb583, 5, none⟩) (Kd.R_far (p := ⟨gb583, 4, none⟩) (Kd.R_far (p := ⟨gb583, 3, none⟩) (Kd.R_far (p := ⟨gb583, 2, none⟩) (Kd.R_far (p := ⟨gb583, 1, none⟩) (Kd.R_far (p := ⟨gb583, 0, none⟩) (Kd.R_types HO581.out BK583.out (by decide)) (fun _ hk => hk.2) (.int .i64 t566)) (fun _ hk => hk.2) (.int .i64 t567)) (fun _ hk => hk.2) (.int .i64 t568)) (fun _ hk => hk.2) (.int .i64 t569)) (fun _ hk => hk.2) (.int .i64 t570)) (fun _ hk => hk.2) (.int .i64 t571)) (fun _ hk => hk.2) (.int .i64 t572)) (fun _ hk => hk.2) (.slice Ao80 t573.length co80)) (fun _ hk => hk.2) (.slice Ao81 t576.length co81)) (fun _ h_ => h_.1))) hb); have n6_ := Aside0.mk (blk_below (g := gb537) (o := .cells #[.int .i64 x538000_2, .int .i64 x538001_2, .int .i64 x538002_2, .int .i64 x538003_2, .int .i64 x538004_2, .int .i64 x538005_2, .int .i64 x538006_2, .slice Ao74 x538007_2.length co74, .slice Ao75 x538008_2.length co75] 28 (0, 0)) (by (with_reducible repeat (first | refine blk_drewN ?_ _ | refine blk_drew ?_ | refine blk_alloc ?_ _)); refine blk_far ?_ NB537_583.out _; (with_reducible repeat (first | refine blk_drewN ?_ _ | refine blk_drew ?_ | refine blk_alloc ?_ _)); refine blk_far ?_ NB537_583.out _; (with_reducible repeat (first | refine blk_drewN ?_ _ | refine blk_drew ?_ | refine blk_alloc ?_ _)); refine blk_far ?_ NB537_583.out _; (with_reducible repeat (first | refine blk_drewN ?_ _ | refine blk_drew ?_ | refine blk_alloc ?_ _)); refine blk_far ?_ NB537_583.out _; (with_reducible repeat (first | refine blk_drewN ?_ _ | refine blk_drew ?_ | refine blk_alloc ?_ _)); refine blk_far ?_ NB537_583.out _; (with_reducible repeat (first | refine blk_drewN ?_ _ | refine blk_drew ?_ | refine blk_alloc ?_ _)); refine blk_far ?_ NB537_583.out _; (with_reducible repeat (first | refine blk_drewN ?_ _ | refine blk_drew ?_ | refine blk_alloc ?_ _)); refine blk_far ?_ NB537_583.out _; (with_reducible repeat (first | refine blk_drewN ?_ _ | refine blk_drew ?_ | refine blk_alloc ?_ _)); refine blk_far ?_ NB537_583.out _; (with_reducible repeat (first | refine blk_drewN ?_ _ | refine blk_drew ?_ | refine blk_alloc ?_ _)); refine blk_far ?_ NB537_583.out _; (with_reducible repeat (first | refine blk_drewN ?_ _ | refine blk_drew ?_ | refine blk_alloc ?_ _)); exact BK537.out) hb); have n7_ := Aside0.mk (blk_below (g := gb583) (o := .cells #[.int .i64 t566, .int .i64 t567, .int .i64 t568, .int .i64 t569, .int .i64 t570, .int .i64 t571, .int .i64 t572, .slice Ao80 t573.length co80, .slice Ao81 t576.length co81] 28 (0, 0)) (by (with_reducible repeat (first | refine blk_drewN ?_ _ | refine blk_drew ?_ | refine blk_alloc ?_ _)); refine blk_put (cs := #[.int .i64 t566, .int .i64 t567, .int .i64 t568, .int .i64 t569, .int .i64 t570, .int .i64 t571, .int .i64 t572, .slice Ao80 t573.length co80, .slice none 0 0]) ?_ 8 _ rfl; (with_reducible repeat (first | refine blk_drewN ?_ _ | refine blk_drew ?_ | refine blk_alloc ?_ _)); refine blk_put (cs := #[.int .i64 t566, .int .i64 t567, .int .i64 t568, .int .i64 t569, .int .i64 t570, .int .i64 t571, .int .i64 t572, .slice none 0 0, .slice none 0 0]) ?_ 7 _ rfl; (with_reducible repeat (first | refine blk_drewN ?_ _ | refine blk_drew ?_ | refine blk_alloc ?_ _)); refine blk_put (cs := #[.int .i64 t566, .int .i64 t567, .int .i64 t568, .int .i64 t569, .int .i64 t570, .int .i64 t571, .int .i64 0, .slice none 0 0, .slice none 0 0]) ?_ 6 _ rfl; (with_reducible repeat (first | refine blk_drewN ?_ _ | refine blk_drew ?_ | refine blk_alloc ?_ _)); refine blk_put (cs := #[.int .i64 t566, .int .i64 t567, .int .i64 t568, .int .i64 t569, .int .i64 t570, .int .i64 0, .int .i64 0, .slice none 0 0, .slice none 0 0]) ?_ 5 _ rfl; (with_reducible repeat (first | refine blk_drewN ?_ _ | refine blk_drew ?_ | refine blk_alloc ?_ _)); refine blk_put (cs := #[.int .i64 t566, .int .i64 t567, .int .i64 t568, .int .i64 t569, .int .i64 0, .int .i64 0, .int .i64 0, .slice none 0 0, .slice none 0 0]) ?_ 4 _ rfl; (with_reducible repeat (first | refine blk_drewN ?_ _ | refine blk_drew ?_ | refine blk_alloc ?_ _)); refine blk_put (cs := #[.int .i64 t566, .int .i64 t567, .int .i64 t568, .int .i64 0, .int .i64 0, .int .i64 0, .int .i64 0, .slice none 0 0, .slice none 0 0]) ?_ 3 _ rfl; (with_reducible repeat (first | refine blk_drewN ?_ _ | refine blk_drew ?_ | refine blk_alloc ?_ _)); refine blk_put (cs := #[.int .i64 t566, .int .i64 t567, .int .i64 0, .int .i64 0, .int .i64 0, .int .i64 0, .int .i64 0, .slice none 0 0, .slice none 0 0]) ?_ 2 _ rfl; (with_reducible repeat (first | refine blk_drewN ?_ _ | refine blk_drew ?_ | refine blk_alloc ?_ _)); refine blk_put (cs := #[.int .i64 t566, .int .i64 0, .int .i64 0, .int .i64 0, .int .i64 0, .int .i64 0, .int .i64 0, .slice none 0 0, .slice none 0 0]) ?_ 1 _ rfl; (with_reducible repeat (first | refine blk_drewN ?_ _ | refine blk_drew ?_ | refine blk_alloc ?_ _)); refine blk_put (cs := #[.int .i64 0, .int .i64 0, .int .i64 0, .int .i64 0, .int .i64 0, .int .i64 0, .int .i64 0, .slice none 0 0, .slice none 0 0]) ?_ 0 _ rfl; (with_reducible repeat (first | refine blk_drewN ?_ _ | refine blk_drew ?_ | refine blk_alloc ?_ _)); exact BK583.out) hb); have n8_ := Aside0.mk (below_step (by repeat (first | (with_reducible first | exact HB.out | apply below_alloc | apply pw_below_drewN | apply below_drew1 | refine below_set ?_ GE537.out | refine below_set ?_ GE583.out) | exact HB.out)) hb); clear HO_83; clear HO_538007; clear HO_538008; clear HO575; clear HO578; clear HO581; clear BK537; clear BK583; clear HB; have HO_83 := n0_; have HO_538007 := n1_; have HO_538008 := n2_; have HO575 := n3_; have HO578 := n4_; have HO581 := n5_; have BK537 := n6_; have BK583 := n7_; have HB := n8_; clear n0_ n1_ n2_ n3_ n4_ n5_ n6_ n7_ n8_; (try clear hb); (try clear hb2); (try clear hk); (try clear hi); have hcz83_0 : w82.cell? ⟨gb583, 0, none⟩ = some (.int .i64 t566) := (blk_cell BK583.out 0).trans rfl; have hcz83_1 : w82.cell? ⟨gb583, 1, none⟩ = some (.int .i64 t567) := (blk_cell BK583.out 1).trans rfl; have hcz83_2 : w82.cell? ⟨gb583, 2, none⟩ = some (.int .i64 t568) := (blk_cell BK583.out 2).trans rfl; have hcz83_3 : w82.cell? ⟨gb583, 3, none⟩ = some (.int .i64 t569) := (blk_cell BK583.out 3).trans rfl; have hcz83_4 : w82.cell? ⟨gb583, 4, none⟩ = some (.int .i64 t570) := (blk_cell BK583.out 4).trans rfl; have hcz83_5 : w82.cell? ⟨gb583, 5, none⟩ = some (.int .i64 t571) := (blk_cell BK583.out 5).trans rfl; have hcz83_6 : w82.cell? ⟨gb583, 6, none⟩ = some (.int .i64 t572) := (blk_cell BK583.out 6).trans rfl; have hcz83_7 : w82.cell? ⟨gb583, 7, none⟩ = some (.slice Ao80 t573.length co80) := (blk_cell BK583.out 7).trans rfl; have hcz83_8 : w82.cell? ⟨gb583, 8, none⟩ = some (.slice Ao81 t576.length co81) := (blk_cell BK583.out 8).trans rfl; have hfz83_0 := blk_frozen BK583.out 0; have hfz83_1 := blk_frozen BK583.out 1; have hfz83_2 := blk_frozen BK583.out 2; have hfz83_3 := blk_frozen BK583.out 3; have hfz83_4 := blk_frozen BK583.out 4; have hfz83_5 := blk_frozen BK583.out 5; have hfz83_6 := blk_frozen BK583.out 6; have hfz83_7 := blk_frozen BK583.out 7; have hfz83_8 := blk_frozen BK583.out 8) | (go_at_call 18; (with_reducible refine (floor_Place.calls k2 t566 t567 t568 t569 t570 t571 t572 _ _ t573 _ _ t576 (rd y562 x85_2) t585 _ ?side1 ?side2 ?side3 ?side4 A71.out).mono ?_); (case side1 => repeat (first | exact (Kd.V_reads' HO575.out).2.2 | (with_reducible refine Kd.C_alloc ?_ _) | (with_reducible refine Kd.C_drewN ?_ _) | (with_reducible refine Kd.C_drew ?_))); (case side2 => exact (Kd.V_reads' HO575.out).2.1); (case side3 => repeat (first | exact (Kd.R_reads' HO578.out).2.2 | (with_reducible refine Kd.C_alloc ?_ _) | (with_reducible refine Kd.C_drewN ?_ _) | (with_reducible refine Kd.C_drew ?_))); (case side4 => exact (Kd.R_reads' HO578.out).2.1); rintro e w84 ⟨rfl, hb⟩; have n0_ := Aside0.mk (Kd.R_below (by (with_reducible repeat (first | apply Kd.R_alloc | apply Kd.R_drewN | apply Kd.R_drew)); exact HO_83.out) hb); have n1_ := Aside0.mk (Kd.V_below (by (with_reducible repeat (first | apply Kd.V_alloc | apply Kd.V_drewN | apply Kd.V_drew)); exact HO_538007.out) hb); have n2_ := Aside0.mk (Kd.R_below (by (with_reducible repeat (first | apply Kd.R_alloc | apply Kd.R_drewN | apply Kd.R_drew)); exact HO_538008.out) hb); have n3_ := Aside0.mk (Kd.V_below (by (with_reducible repeat (first | apply Kd.V_alloc | apply Kd.V_drewN | apply Kd.V_drew)); exact HO575.out) hb); have n4_ := Aside0.mk (Kd.R_below (by (with_reducible repeat (first | apply Kd.R_alloc | apply Kd.R_drewN | apply Kd.R_drew)); exact HO578.out) hb); have n5_ := Aside0.mk (Kd.R_below (by (with_reducible repeat (first | apply Kd.R_alloc | apply Kd.R_drewN | apply Kd.R_drew)); exact HO581.out) hb); have n6_ := Aside0.mk (blk_below (g := gb537) (o := .cells #[.int .i64 x538000_2, .int .i64 x538001_2, .int .i64 x538002_2, .int .i64 x538003_2, .int .i64 x538004_2, .int .i64 x538005_2, .int .i64 x538006_2, .slice Ao74 x538007_2.length co74, .slice Ao75 x538008_2.length co75] 28 (0, 0)) (by (with_reducible repeat (first | refine blk_drewN ?_ _ | refine blk_drew ?_ | refine blk_alloc ?_ _)); exact BK537.out) hb); have n7_ := Aside0.mk (blk_below (g := gb583) (o := .cells #[.int .i64 t566, .int .i64 t567, .int .i64 t568, .int .i64 t569, .int .i64 t570, .int .i64 t571, .int .i64 t572, .slice Ao80 t573.length co80, .slice Ao81 t576.length co81] 28 (0, 0)) (by (with_reducible repeat (first | refine blk_drewN ?_ _ | refine blk_drew ?_ | refine blk_alloc ?_ _)); exact BK583.out) hb); have n8_ := Aside0.mk (below_step (by repeat (first | (with_reducible first | exact HB.out | apply below_alloc | apply pw_below_drewN | apply below_drew1 | refine below_set ?_ GE537.out | refine below_set ?_ GE583.out) | exact HB.out)) hb); clear HO_83; clear HO_538007; clear HO_538008; clear HO575; clear HO578; clear HO581; clear BK537; clear BK583; clear HB; have HO_83 := n0_; have HO_538007 := n1_; have HO_538008 := n2_; have HO575 := n3_; have HO578 := n4_; have HO581 := n5_; have BK537 := n6_; have BK583 := n7_; have HB := n8_; clear n0_ n1_ n2_ n3_ n4_ n5_ n6_ n7_ n8_; (try clear hb); (try clear hb2); (try clear hk); (try clear hi); have hcz85_0 : w84.cell? ⟨gb583, 0, none⟩ = some (.int .i64 t566) := (blk_cell BK583.out 0).trans rfl; have hcz85_1 : w84.cell? ⟨gb583, 1, none⟩ = some (.int .i64 t567) := (blk_cell BK583.out 1).trans rfl; have hcz85_2 : w84.cell? ⟨gb583, 2, none⟩ = some (.int .i64 t568) := (blk_cell BK583.out 2).trans rfl; have hcz85_3 : w84.cell? ⟨gb583, 3, none⟩ = some (.int .i64 t569) := (blk_cell BK583.out 3).trans rfl; have hcz85_4 : w84.cell? ⟨gb583, 4, none⟩ = some (.int .i64 t570) := (blk_cell BK583.out 4).trans rfl; have hcz85_5 : w84.cell? ⟨gb583, 5, none⟩ = some (.int .i64 t571) := (blk_cell BK583.out 5).trans rfl; have hcz85_6 : w84.cell? ⟨gb583, 6, none⟩ = some (.int .i64 t572) := (blk_cell BK583.out 6).trans rfl; have hcz85_7 : w84.cell? ⟨gb583, 7, none⟩ = some (.slice Ao80 t573.length co80) := (blk_cell BK583.out 7).trans rfl; have hcz85_8 : w84.cell? ⟨gb583, 8, none⟩ = some (.slice Ao81 t576.length co81) := (blk_cell BK583.out 8).trans rfl; have hfz85_0 := blk_frozen BK583.out 0; have hfz85_1 := blk_frozen BK583.out 1; have hfz85_2 := blk_frozen BK583.out 2; have hfz85_3 := blk_frozen BK583.out 3; have hfz85_4 := blk_frozen BK583.out 4; have hfz85_5 := blk_frozen BK583.out 5; have hfz85_6 := blk_frozen BK583.out 6; have hfz85_7 := blk_frozen BK583.out 7; have hfz85_8 := blk_frozen BK583.out 8; have hcz86_0 : w84.cell? ⟨gb537, 0, none⟩ = some (.int .i64 x538000_2) := (blk_cell BK537.out 0).trans rfl; have hcz86_1 : w84.cell? ⟨gb537, 1, none⟩ = some (.int .i64 x538001_2) := (blk_cell BK537.out 1).trans rfl; have hcz86_2 : w84.cell? ⟨gb537, 2, none⟩ = some (.int .i64 x538002_2) := (blk_cell BK537.out 2).trans rfl; have hcz86_3 : w84.cell? ⟨gb537, 3, none⟩ = some (.int .i64 x538003_2) := (blk_cell BK537.out 3).trans rfl; have hcz86_4 : w84.cell? ⟨gb537, 4, none⟩ = some (.int .i64 x538004_2) := (blk_cell BK537.out 4).trans rfl; have hcz86_5 : w84.cell? ⟨gb537, 5, none⟩ = some (.int .i64 x538005_2) := (blk_cell BK537.out 5).trans rfl; have hcz86_6 : w84.cell? ⟨gb537, 6, none⟩ = some (.int .i64 x538006_2) := (blk_cell BK537.out 6).trans rfl; have hcz86_7 : w84.cell? ⟨gb537, 7, none⟩ = some (.slice Ao74 x538007_2.length co74) := (blk_cell BK537.out 7).trans rfl; have hcz86_8 : w84.cell? ⟨gb537, 8, none⟩ = some (.slice Ao75 x538008_2.length co75) := (blk_cell BK537.out 8).trans rfl; have hfz86_0 := blk_frozen BK537.out 0; have hfz86_1 := blk_frozen BK537.out 1; have hfz86_2 := blk_frozen BK537.out 2; have hfz86_3 := blk_frozen BK537.out 3; have hfz86_4 := blk_frozen BK537.out 4; have hfz86_5 := blk_frozen BK537.out 5; have hfz86_6 := blk_frozen BK537.out 6; have hfz86_7 := blk_frozen BK537.out 7; have hfz86_8 := blk_frozen BK537.out 8))
              go_roundg k2
              case measure => have := HK1.out; have := HK2.out; omega
              case rel => exact ⟨(wrap64 (x85_2 + 1)), (t566), (t567), (t568), (t569), (t570), (t571), (t572), (t573), (t576), (.slice Ao80 t573.length co80), (.slice Ao81 t576.length co81), (by first | rfl | (simp; done) | (simp [*]; done)), H', ⟨by have := HK1.out; have := HK2.out; omega⟩, ⟨by (with_reducible repeat (first | apply Kd.R_alloc | apply Kd.R_drewN | apply Kd.R_drew)); exact Kd.R_mono (Kd.R_far (p := ⟨gb537, 8, none⟩) (Kd.R_far (p := ⟨gb537, 7, none⟩) (Kd.R_far (p := ⟨gb537, 6, none⟩) (Kd.R_far (p := ⟨gb537, 5, none⟩) (Kd.R_far (p := ⟨gb537, 4, none⟩) (Kd.R_far (p := ⟨gb537, 3, none⟩) (Kd.R_far (p := ⟨gb537, 2, none⟩) (Kd.R_far (p := ⟨gb537, 1, none⟩) (Kd.R_far (p := ⟨gb537, 0, none⟩) (Kd.R_types HO_83.out BK537.out (by decide)) (fun _ hk => hk.2) (.int .i64 t566)) (fun _ hk => hk.2) (.int .i64 t567)) (fun _ hk => hk.2) (.int .i64 t568)) (fun _ hk => hk.2) (.int .i64 t569)) (fun _ hk => hk.2) (.int .i64 t570)) (fun _ hk => hk.2) (.int .i64 t571)) (fun _ hk => hk.2) (.int .i64 t572)) (fun _ hk => hk.2) (.slice Ao80 t573.length co80)) (fun _ hk => hk.2) (.slice Ao81 t576.length co81)) (fun _ hk => hk.1.2)⟩, ⟨by (with_reducible repeat (first | apply Kd.V_alloc | apply Kd.V_drewN | apply Kd.V_drew)); exact Kd.V_mono (Kd.V_far (p := ⟨gb537, 8, none⟩) (Kd.V_far (p := ⟨gb537, 7, none⟩) (Kd.V_far (p := ⟨gb537, 6, none⟩) (Kd.V_far (p := ⟨gb537, 5, none⟩) (Kd.V_far (p := ⟨gb537, 4, none⟩) (Kd.V_far (p := ⟨gb537, 3, none⟩) (Kd.V_far (p := ⟨gb537, 2, none⟩) (Kd.V_far (p := ⟨gb537, 1, none⟩) (Kd.V_far (p := ⟨gb537, 0, none⟩) (Kd.V_mono HO575.out (fun k_ hk => (⟨hk, hk.1.2.2.2.2⟩ : _ ∧ k_ ≠ gb537))) (fun _ hk => hk.2) (.int .i64 t566)) (fun _ hk => hk.2) (.int .i64 t567)) (fun _ hk => hk.2) (.int .i64 t568)) (fun _ hk => hk.2) (.int .i64 t569)) (fun _ hk => hk.2) (.int .i64 t570)) (fun _ hk => hk.2) (.int .i64 t571)) (fun _ hk => hk.2) (.int .i64 t572)) (fun _ hk => hk.2) (.slice Ao80 t573.length co80)) (fun _ hk => hk.2) (.slice Ao81 t576.length co81)) (fun _ hk => ⟨hk.1.1.2.2.1, ⟨hk.1.1.1, hk.1.1.2.2.2.2⟩⟩)⟩, ⟨by (with_reducible repeat (first | apply Kd.R_alloc | apply Kd.R_drewN | apply Kd.R_drew)); exact Kd.R_mono (Kd.R_far (p := ⟨gb537, 8, none⟩) (Kd.R_far (p := ⟨gb537, 7, none⟩) (Kd.R_far (p := ⟨gb537, 6, none⟩) (Kd.R_far (p := ⟨gb537, 5, none⟩) (Kd.R_far (p := ⟨gb537, 4, none⟩) (Kd.R_far (p := ⟨gb537, 3, none⟩) (Kd.R_far (p := ⟨gb537, 2, none⟩) (Kd.R_far (p := ⟨gb537, 1, none⟩) (Kd.R_far (p := ⟨gb537, 0, none⟩) (Kd.R_types HO578.out BK537.out (by decide)) (fun _ hk => hk.2) (.int .i64 t566)) (fun _ hk => hk.2) (.int .i64 t567)) (fun _ hk => hk.2) (.int .i64 t568)) (fun _ hk => hk.2) (.int .i64 t569)) (fun _ hk => hk.2) (.int .i64 t570)) (fun _ hk => hk.2) (.int .i64 t571)) (fun _ hk => hk.2) (.int .i64 t572)) (fun _ hk => hk.2) (.slice Ao80 t573.length co80)) (fun _ hk => hk.2) (.slice Ao81 t576.length co81)) (fun _ hk => hk.1.1.2)⟩, ⟨by (with_reducible repeat (first | refine blk_drewN ?_ _ | refine blk_drew ?_ | refine blk_alloc ?_ _)); refine blk_put (cs := #[.int .i64 t566, .int .i64 t567, .int .i64 t568, .int .i64 t569, .int .i64 t570, .int .i64 t571, .int .i64 t572, .slice Ao80 t573.length co80, .slice Ao75 x538008_2.length co75]) ?_ 8 _ rfl; (with_reducible repeat (first | refine blk_drewN ?_ _ | refine blk_drew ?_ | refine blk_alloc ?_ _)); refine blk_put (cs := #[.int .i64 t566, .int .i64 t567, .int .i64 t568, .int .i64 t569, .int .i64 t570, .int .i64 t571, .int .i64 t572, .slice Ao74 x538007_2.length co74, .slice Ao75 x538008_2.length co75]) ?_ 7 _ rfl; (with_reducible repeat (first | refine blk_drewN ?_ _ | refine blk_drew ?_ | refine blk_alloc ?_ _)); refine blk_put (cs := #[.int .i64 t566, .int .i64 t567, .int .i64 t568, .int .i64 t569, .int .i64 t570, .int .i64 t571, .int .i64 x538006_2, .slice Ao74 x538007_2.length co74, .slice Ao75 x538008_2.length co75]) ?_ 6 _ rfl; (with_reducible repeat (first | refine blk_drewN ?_ _ | refine blk_drew ?_ | refine blk_alloc ?_ _)); refine blk_put (cs := #[.int .i64 t566, .int .i64 t567, .int .i64 t568, .int .i64 t569, .int .i64 t570, .int .i64 x538005_2, .int .i64 x538006_2, .slice Ao74 x538007_2.length co74, .slice Ao75 x538008_2.length co75]) ?_ 5 _ rfl; (with_reducible repeat (first | refine blk_drewN ?_ _ | refine blk_drew ?_ | refine blk_alloc ?_ _)); refine blk_put (cs := #[.int .i64 t566, .int .i64 t567, .int .i64 t568, .int .i64 t569, .int .i64 x538004_2, .int .i64 x538005_2, .int .i64 x538006_2, .slice Ao74 x538007_2.length co74, .slice Ao75 x538008_2.length co75]) ?_ 4 _ rfl; (with_reducible repeat (first | refine blk_drewN ?_ _ | refine blk_drew ?_ | refine blk_alloc ?_ _)); refine blk_put (cs := #[.int .i64 t566, .int .i64 t567, .int .i64 t568, .int .i64 x538003_2, .int .i64 x538004_2, .int .i64 x538005_2, .int .i64 x538006_2, .slice Ao74 x538007_2.length co74, .slice Ao75 x538008_2.length co75]) ?_ 3 _ rfl; (with_reducible repeat (first | refine blk_drewN ?_ _ | refine blk_drew ?_ | refine blk_alloc ?_ _)); refine blk_put (cs := #[.int .i64 t566, .int .i64 t567, .int .i64 x538002_2, .int .i64 x538003_2, .int .i64 x538004_2, .int .i64 x538005_2, .int .i64 x538006_2, .slice Ao74 x538007_2.length co74, .slice Ao75 x538008_2.length co75]) ?_ 2 _ rfl; (with_reducible repeat (first | refine blk_drewN ?_ _ | refine blk_drew ?_ | refine blk_alloc ?_ _)); refine blk_put (cs := #[.int .i64 t566, .int .i64 x538001_2, .int .i64 x538002_2, .int .i64 x538003_2, .int .i64 x538004_2, .int .i64 x538005_2, .int .i64 x538006_2, .slice Ao74 x538007_2.length co74, .slice Ao75 x538008_2.length co75]) ?_ 1 _ rfl; (with_reducible repeat (first | refine blk_drewN ?_ _ | refine blk_drew ?_ | refine blk_alloc ?_ _)); refine blk_put (cs := #[.int .i64 x538000_2, .int .i64 x538001_2, .int .i64 x538002_2, .int .i64 x538003_2, .int .i64 x538004_2, .int .i64 x538005_2, .int .i64 x538006_2, .slice Ao74 x538007_2.length co74, .slice Ao75 x538008_2.length co75]) ?_ 0 _ rfl; (with_reducible repeat (first | refine blk_drewN ?_ _ | refine blk_drew ?_ | refine blk_alloc ?_ _)); exact BK537.out⟩, ⟨by repeat (first | (with_reducible first | exact HB.out | apply below_alloc | apply pw_below_drewN | apply below_drew1 | refine below_set ?_ GE537.out | refine below_set ?_ GE583.out) | exact HB.out)⟩⟩
             ·rw [if_neg c72] at H
              have c72b0 : (t585 == 0) = false := beq_eq_false_iff_ne.mpr c72
              have c72b1 : (t585 != 0) = true := bne_iff_ne.mpr c72
              obtain rfl := Option.some.inj H
              exact absurd HR_.out (by simp)
           ·rw [if_neg c68] at H
            have c68b0 : (t582 == 0) = false := beq_eq_false_iff_ne.mpr c68
            have c68b1 : (t582 != 0) = true := bne_iff_ne.mpr c68
            obtain rfl := Option.some.inj H
            exact absurd HR_.out (by simp)
          ·rw [if_neg c66] at H
           exact absurd H (by simp)
         ·rw [if_neg c65] at H
          exact absurd H (by simp)
        ·rw [if_neg c64] at H
         have c64b0 : decide (x85_2 < (y562.length : Int)) = false := decide_eq_false c64
         clear c64
         by_cases c87 : t522 = true
         ·subst c87
          have H1 : (if x538000_2 = 0 then (some ((wrap64 ((x538008_2.length : Int) + (x538007_2.length : Int))) == 0)) else (some false)) = some r := by rw [if_pos rfl] at H; exact H
          clear H
          have H := H1
          clear H1
          by_cases c88 : x538000_2 = 0
          ·rw [if_pos c88] at H
           have c88b0 : (x538000_2 == 0) = true := beq_iff_eq.mpr c88
           have c88b1 : (x538000_2 != 0) = false := bne_eq_false_iff_eq.mpr c88
           clear c88
           obtain rfl := Option.some.inj H
           have hcz89_0 : wr.cell? ⟨gb537, 0, none⟩ = some (.int .i64 x538000_2) := (blk_cell BK537.out 0).trans rfl
           have hcz89_1 : wr.cell? ⟨gb537, 1, none⟩ = some (.int .i64 x538001_2) := (blk_cell BK537.out 1).trans rfl
           have hcz89_2 : wr.cell? ⟨gb537, 2, none⟩ = some (.int .i64 x538002_2) := (blk_cell BK537.out 2).trans rfl
           have hcz89_3 : wr.cell? ⟨gb537, 3, none⟩ = some (.int .i64 x538003_2) := (blk_cell BK537.out 3).trans rfl
           have hcz89_4 : wr.cell? ⟨gb537, 4, none⟩ = some (.int .i64 x538004_2) := (blk_cell BK537.out 4).trans rfl
           have hcz89_5 : wr.cell? ⟨gb537, 5, none⟩ = some (.int .i64 x538005_2) := (blk_cell BK537.out 5).trans rfl
           have hcz89_6 : wr.cell? ⟨gb537, 6, none⟩ = some (.int .i64 x538006_2) := (blk_cell BK537.out 6).trans rfl
           have hcz89_7 : wr.cell? ⟨gb537, 7, none⟩ = some (u538007) := (blk_cell BK537.out 7).trans rfl
           have hcz89_8 : wr.cell? ⟨gb537, 8, none⟩ = some (u538008) := (blk_cell BK537.out 8).trans rfl
           have hfz89_0 := blk_frozen BK537.out 0
           have hfz89_1 := blk_frozen BK537.out 1
           have hfz89_2 := blk_frozen BK537.out 2
           have hfz89_3 := blk_frozen BK537.out 3
           have hfz89_4 := blk_frozen BK537.out 4
           have hfz89_5 := blk_frozen BK537.out 5
           have hfz89_6 := blk_frozen BK537.out 6
           have hfz89_7 := blk_frozen BK537.out 7
           have hfz89_8 := blk_frozen BK537.out 8
           obtain ⟨Ao90, co90, eo90⟩ := Kd.R_slice HO_538008.out
           subst eo90
           obtain ⟨Ao91, co91, eo91⟩ := Kd.V_slice HO_538007.out
           subst eo91
           go_wp2
           go_ret
           exact ⟨by first | rfl | (simp [errW_none, errW_some] <;> rfl) | (simp [*, errW_none, errW_some] <;> rfl) | (simp [wrap64]; done), by repeat (first | (with_reducible first | exact HB.out | apply below_alloc | apply pw_below_drewN | apply below_drew1 | refine below_set ?_ GE537.out) | exact HB.out)⟩
          ·rw [if_neg c88] at H
           have c88b0 : (x538000_2 == 0) = false := beq_eq_false_iff_ne.mpr c88
           have c88b1 : (x538000_2 != 0) = true := bne_iff_ne.mpr c88
           obtain rfl := Option.some.inj H
           exact absurd HR_.out (by simp)
         ·replace c87 := Bool.eq_false_iff.mpr c87
          subst c87
          have H1 : (some false) = some r := by rw [if_neg (show ¬ (false = true) by decide)] at H; exact H
          clear H
          have H := H1
          clear H1
          obtain rfl := Option.some.inj H
          exact absurd HR_.out (by simp)
     ·rw [if_neg c59] at H
      exact absurd H (by simp)
 ·replace c4 := Bool.eq_false_iff.mpr c4
  subst c4
  have H1 : (some t522) = some r := by rw [if_neg (show ¬ (false = true) by decide)] at H; exact H
  clear H
  have H := H1
  clear H1
  obtain rfl := Option.some.inj H
  go_enter Try.func9, Try.ntmps9
  go_wp2_with (first | ((with_reducible refine gate_callee (f := 11) rfl ?_); refine goesL_ (some 18) rfl rfl Try.func11 (by kernel_rfl) rfl #[] rfl (by (try simp only [List.map_toArray, List.map_cons, List.map_nil]); first | done | rfl | (simp only [List.length_drop, List.length_take]; rfl)) ?_; (with_reducible refine (squelchlaw18_live.calls k  t522 _ A2.out).mono ?_); rintro e w92 ⟨rfl, hb⟩; refine ⟨_, rfl, ?_⟩; have n0_ := Aside0.mk (below_step (by repeat (first | (with_reducible first | exact HB.out | apply below_alloc | apply pw_below_drewN | apply below_drew1) | exact HB.out)) hb); clear HB; have HB := n0_; clear n0_; (try clear hb); (try clear hb2); (try clear hk); (try clear hi)) | ((with_reducible refine gate_callee (f := 12) rfl ?_); refine goesL_ (some 21) rfl rfl Try.func12 (by kernel_rfl) rfl #[.agg #[.int .i64 0, .int .i64 0, .int .i64 0, .int .i64 0, .int .i64 0, .int .i64 0, .int .i64 0, .slice none 0 0, .slice none 0 0], .slice A0 l0.length c0] rfl (by (try simp only [List.map_toArray, List.map_cons, List.map_nil]); first | done | rfl | (simp only [List.length_drop, List.length_take]; rfl)) ?_; (refine (squelchlaw18_few.calls 0 0 0 0 0 0 0 _ _ ([] : List (S43)) _ _ ([] : List Int) _ _ l0 false _ ?side1 ?side2 ?side3 ?side4 ?side5 ?side6 A3.out).mono ?_); (case side1 => exact Kd.C_nil _ _); (case side2 => exact Nat.le_refl _); (case side3 => exact Kd.C_nil _ _); (case side4 => exact Nat.le_refl _); (case side5 => repeat (first | exact (Kd.C_below HR0.out HB.out) | (with_reducible refine Kd.C_alloc ?_ _) | (with_reducible refine Kd.C_drewN ?_ _) | (with_reducible refine Kd.C_drew ?_))); (case side6 => exact HC0.out); rintro e w93 ⟨rfl, hb⟩; refine ⟨_, rfl, ?_⟩; have n0_ := Aside0.mk (below_step (by repeat (first | (with_reducible first | exact HB.out | apply below_alloc | apply pw_below_drewN | apply below_drew1) | exact HB.out)) hb); clear HB; have HB := n0_; clear n0_; (try clear hb); (try clear hb2); (try clear hk); (try clear hi)))
  go_ret
  exact ⟨by first | rfl | (simp [errW_none, errW_some] <;> rfl) | (simp [*, errW_none, errW_some] <;> rfl) | (simp [wrap64]; done), by repeat (first | (with_reducible first | exact HB.out | apply below_alloc | apply pw_below_drewN | apply below_drew1) | exact HB.out)⟩

def squelchlaw18_FloorLeaves.Pure : Prop := ∀ (l0 : List (S32)), (l0.length * 40 ≤ 140737488351232 ∧ l0.length ≤ 9223372036854775807 ∧ ∀ y0_ ∈ l0, ((Lit.int .i64 y0_.f0).wf = true ∧ (Lit.int .i64 y0_.f1).wf = true ∧ (Lit.int .i64 y0_.f2).wf = true ∧ (Lit.int .i64 y0_.f3).wf = true ∧ (Lit.int .i64 y0_.f4).wf = true)) → ∃ k, squelchlaw18_FloorLeaves.f k l0 = some true

end Go.Proofs.Ytflfmpfmnhpbmaa.PA
-- slim
