-- Written for this claim by this session's own printer (wip/patch_print.py over the kit's print).
import Derived.Test.YtflfmpfmnhpbmaaPAx0
import Derived.Test.YtflfmpfmnhpbmaaPAx3
import Derived.Test.YtflfmpfmnhpbmaaPAx6
import Derived.Test.YtflfmpfmnhpbmaaHDo
namespace Go.Proofs.Ytflfmpfmnhpbmaa.PA
open Go.RowKit Go.Proofs.YtflfmpfmnhpbmaaW.PrintWords Go.Proofs.YtflfmpfmnhpbmaaW.PrintLast Go.Proofs.YtflfmpfmnhpbmaaW.PrintMore
attribute [local go_sem] max2_int min2_int max_two min_two max_three min_three max_four min_four   -- for this text's walks alone
set_option linter.unusedVariables false
set_option linter.unusedSimpArgs false

/-- floor.Do's contract with both rows told as shared ones. -/
theorem floor_Do.calls8 (k : Nat) (s e h p u l n : Int) (A7 : Option Addr) (c7 : Nat) (wait : List S43) (A8 : Option Addr) (c8 : Nat) (mem : List Int) (b0 b1 b2 b3 b4 : Int) (r1 r2 r3 r4 r5 r6 r7 : Int) (r8 : List S43) (r9 : List Int) (r10 : List S38) (r11 : Int) (w : World)
 (hr7 : Kd.C k43 w A7 wait.length wait) (hc7 : wait.length ≤ c7) (hr8 : Kd.C (Kd.int .i64) w A8 mem.length mem) (hc8 : mem.length ≤ c8)
 (hf : floor_Do.f k s e h p u l n wait mem b0 b1 b2 b3 b4 = some (r1, r2, r3, r4, r5, r6, r7, r8, r9, r10, r11)) :
 Calls Try.prog 14 #[.agg #[.int .i64 s, .int .i64 e, .int .i64 h, .int .i64 p, .int .i64 u, .int .i64 l, .int .i64 n, .slice A7 wait.length c7, .slice A8 mem.length c8], .agg #[.int .i64 b0, .int .i64 b1, .int .i64 b2, .int .i64 b3, .int .i64 b4]] w fun e' w' =>
 ∃ v7_ v8_ v9_ : Value, e' = .returned (.tuple #[.agg #[.int .i64 r1, .int .i64 r2, .int .i64 r3, .int .i64 r4, .int .i64 r5, .int .i64 r6, .int .i64 r7, v7_, v8_], v9_, .int .i64 r11]) ∧ Kd.V k43 43 w' w.heap.size (fun k_ => (w.heap.size ≤ k_) ∧ some k_ ≠ (v9_ : Value).ownBlock) v7_ r8 ∧ Kd.V (Kd.int .i64) 3 w' w.heap.size (fun k_ => (w.heap.size ≤ k_) ∧ some k_ ≠ (v9_ : Value).ownBlock) v8_ r9 ∧ Kd.R k38 38 w' w.heap.size (fun k_ => (w.heap.size ≤ k_)) v9_ r10 ∧ Below w.heap.size w w' := by
 refine (floor_Do.calls k s e h p u l n A7 c7 wait A8 c8 mem b0 b1 b2 b3 b4 r1 r2 r3 r4 r5 r6 r7 r8 r9 r10 r11 w hr7 hc7 hr8 hc8 hf).mono ?_
 rintro e' w' ⟨v7, v8, v9, he, h1, h2, h3, hb⟩
 exact ⟨v7, v8, v9, he, Kd.V_mono h1 (fun k hk => ⟨hk.1, hk.2.2⟩), Kd.R_V (base := w.heap.size) (Kd.R_apartR h2 h3 (by decide)), h3, hb⟩
/-! ### squelchlaw18_FloorServes: function 5 -/
mutual
def squelchlaw18_FloorServes.l0 : Nat → Bool → List (S32) → Int → Int → Int → Int → Int → Int → Int → Int → Int → List (S43) → List Int → Option (Bool)
 | 0, _, _, _, _, _, _, _, _, _, _, _, _, _ => none
 | k + 1, x3, x28, x29, x30, x256000, x256001, x256002, x256003, x256004, x256005, x256006, x256007, x256008 => if x30 < x29 then (if 0 ≤ x30 then (if x30 < (x28.length : Int) then (if ((rd_T32 x28 x30).f4) > 1073741824 then (some x3) else ((floor_Do.f k x256000 x256001 x256002 x256003 x256004 x256005 x256006 x256007 x256008 ((rd_T32 x28 x30).f0) ((rd_T32 x28 x30).f1) ((rd_T32 x28 x30).f2) ((rd_T32 x28 x30).f3) ((rd_T32 x28 x30).f4)).bind fun bt258 => (if bt258.2.2.2.2.2.2.2.2.2.2 = 0 then (squelchlaw18_FloorServes.l0 k x3 x28 x29 (wrap64 (x30 + 1)) bt258.1 bt258.2.1 bt258.2.2.1 bt258.2.2.2.1 bt258.2.2.2.2.1 bt258.2.2.2.2.2.1 bt258.2.2.2.2.2.2.1 bt258.2.2.2.2.2.2.2.1 bt258.2.2.2.2.2.2.2.2.1) else (squelchlaw18_FloorServes.l0 k x3 x28 x29 (wrap64 (x30 + 1)) x256000 x256001 x256002 x256003 x256004 x256005 x256006 x256007 x256008)))) else (none)) else (none)) else (squelchlaw18_FloorServes.l1 k x3 x256007 (x256007.length : Int) 0 x256000 x256001 x256002 x256003 x256004 x256005 x256006 x256007 x256008)
def squelchlaw18_FloorServes.l1 : Nat → Bool → List (S43) → Int → Int → Int → Int → Int → Int → Int → Int → Int → List (S43) → List Int → Option (Bool)
 | 0, _, _, _, _, _, _, _, _, _, _, _, _, _ => none
 | k + 1, x3, x50, x51, x52, x256000, x256001, x256002, x256003, x256004, x256005, x256006, x256007, x256008 => if x52 < x51 then (if 0 ≤ x52 then (if x52 < (x50.length : Int) then (squelchlaw18_FloorServes.l2 k x3 (wrap64 (x256006 + (wrap64 ((wrap64 (x52 + 1)) * 75)))) false x256006 x50 x51 x52 x256000 x256001 x256002 x256003 x256004 x256005 x256006 x256007 x256008 ((rd_T43 x50 x52).f0) ((rd_T43 x50 x52).f1) x256000 x256001 x256002 x256003 x256004 x256005 x256006 x256007 x256008) else (none)) else (none)) else (some x3)
def squelchlaw18_FloorServes.l2 : Nat → Bool → Int → Bool → Int → List (S43) → Int → Int → Int → Int → Int → Int → Int → Int → Int → List (S43) → List Int → Int → Int → Int → Int → Int → Int → Int → Int → Int → List (S43) → List Int → Option (Bool)
 | 0, _, _, _, _, _, _, _, _, _, _, _, _, _, _, _, _, _, _, _, _, _, _, _, _, _, _, _ => none
 | k + 1, x3, x13, x14, x15, x50, x51, x52, x256000, x256001, x256002, x256003, x256004, x256005, x256006, x256007, x256008, x278000, x278001, x279000, x279001, x279002, x279003, x279004, x279005, x279006, x279007, x279008 => if x15 ≤ x13 then (squelchlaw18_FloorServes.j3 k x3 x13 x14 x15 x50 x51 x52 (!x14) x256000 x256001 x256002 x256003 x256004 x256005 x256006 x256007 x256008 x278000 x278001 x279000 x279001 x279002 x279003 x279004 x279005 x279006 x279007 x279008) else (squelchlaw18_FloorServes.j3 k x3 x13 x14 x15 x50 x51 x52 false x256000 x256001 x256002 x256003 x256004 x256005 x256006 x256007 x256008 x278000 x278001 x279000 x279001 x279002 x279003 x279004 x279005 x279006 x279007 x279008)
def squelchlaw18_FloorServes.j3 : Nat → Bool → Int → Bool → Int → List (S43) → Int → Int → Bool → Int → Int → Int → Int → Int → Int → Int → List (S43) → List Int → Int → Int → Int → Int → Int → Int → Int → Int → Int → List (S43) → List Int → Option (Bool)
 | 0, _, _, _, _, _, _, _, _, _, _, _, _, _, _, _, _, _, _, _, _, _, _, _, _, _, _, _, _ => none
 | k + 1, x3, x13, x14, x15, x50, x51, x52, x72, x256000, x256001, x256002, x256003, x256004, x256005, x256006, x256007, x256008, x278000, x278001, x279000, x279001, x279002, x279003, x279004, x279005, x279006, x279007, x279008 => if x72 = true then ((floor_Do.f k x279000 x279001 x279002 x279003 x279004 x279005 x279006 x279007 x279008 6 0 0 0 x15).bind fun bt279 => (if bt279.2.2.2.2.2.2.2.2.2.2 = 0 then (squelchlaw18_FloorServes.l3 k x3 x13 x14 x15 x50 x51 x52 bt279.2.2.2.2.2.2.2.2.2.1 (bt279.2.2.2.2.2.2.2.2.2.1.length : Int) 0 x256000 x256001 x256002 x256003 x256004 x256005 x256006 x256007 x256008 x278000 x278001 bt279.1 bt279.2.1 bt279.2.2.1 bt279.2.2.2.1 bt279.2.2.2.2.1 bt279.2.2.2.2.2.1 bt279.2.2.2.2.2.2.1 bt279.2.2.2.2.2.2.2.1 bt279.2.2.2.2.2.2.2.2.1) else (some false))) else (if x14 = true then (squelchlaw18_FloorServes.l1 k x3 x50 x51 (wrap64 (x52 + 1)) x256000 x256001 x256002 x256003 x256004 x256005 x256006 x256007 x256008) else (some false))
def squelchlaw18_FloorServes.l3 : Nat → Bool → Int → Bool → Int → List (S43) → Int → Int → List (S38) → Int → Int → Int → Int → Int → Int → Int → Int → Int → List (S43) → List Int → Int → Int → Int → Int → Int → Int → Int → Int → Int → List (S43) → List Int → Option (Bool)
 | 0, _, _, _, _, _, _, _, _, _, _, _, _, _, _, _, _, _, _, _, _, _, _, _, _, _, _, _, _, _, _ => none
 | k + 1, x3, x13, x14, x15, x50, x51, x52, x85, x86, x87, x256000, x256001, x256002, x256003, x256004, x256005, x256006, x256007, x256008, x278000, x278001, x297000, x297001, x297002, x297003, x297004, x297005, x297006, x297007, x297008 => if x87 < x86 then (if 0 ≤ x87 then (if x87 < (x85.length : Int) then (if x14 = true then (squelchlaw18_FloorServes.l3 k x3 x13 true x15 x50 x51 x52 x85 x86 (wrap64 (x87 + 1)) x256000 x256001 x256002 x256003 x256004 x256005 x256006 x256007 x256008 x278000 x278001 x297000 x297001 x297002 x297003 x297004 x297005 x297006 x297007 x297008) else (if ((rd_T38 x85 x87).f0) = 5 then (squelchlaw18_FloorServes.l3 k x3 x13 (((rd_T38 x85 x87).f1) == x278000) x15 x50 x51 x52 x85 x86 (wrap64 (x87 + 1)) x256000 x256001 x256002 x256003 x256004 x256005 x256006 x256007 x256008 x278000 x278001 x297000 x297001 x297002 x297003 x297004 x297005 x297006 x297007 x297008) else (squelchlaw18_FloorServes.l3 k x3 x13 false x15 x50 x51 x52 x85 x86 (wrap64 (x87 + 1)) x256000 x256001 x256002 x256003 x256004 x256005 x256006 x256007 x256008 x278000 x278001 x297000 x297001 x297002 x297003 x297004 x297005 x297006 x297007 x297008))) else (none)) else (none)) else (squelchlaw18_FloorServes.l2 k x3 x13 x14 (wrap64 (x15 + 1)) x50 x51 x52 x256000 x256001 x256002 x256003 x256004 x256005 x256006 x256007 x256008 x278000 x278001 x297000 x297001 x297002 x297003 x297004 x297005 x297006 x297007 x297008)
end
def squelchlaw18_FloorServes.f (k : Nat) (l0 : List (S32)) : Option (Bool) := (squelchlaw18_live.f k).bind fun t240 => ((squelchlaw18_few.f 0 0 0 0 0 0 0 ([] : List (S43)) ([] : List Int) l0).bind fun t241 => (if t241 = true then ((floor_New.f).bind fun bt242 => (squelchlaw18_FloorServes.l0 k t240 l0 (l0.length : Int) 0 bt242.1 bt242.2.1 bt242.2.2.1 bt242.2.2.2.1 bt242.2.2.2.2.1 bt242.2.2.2.2.2.1 bt242.2.2.2.2.2.2.1 bt242.2.2.2.2.2.2.2.1 bt242.2.2.2.2.2.2.2.2)) else (some t240)))
theorem squelchlaw18_FloorServes.mono_l : ∀ k, (∀ y0 y1 y2 y3 y4 y5 y6 y7 y8 y9 y10 y11 y12, LeO (squelchlaw18_FloorServes.l0 k y0 y1 y2 y3 y4 y5 y6 y7 y8 y9 y10 y11 y12) (squelchlaw18_FloorServes.l0 (k + 1) y0 y1 y2 y3 y4 y5 y6 y7 y8 y9 y10 y11 y12)) ∧ (∀ y0 y1 y2 y3 y4 y5 y6 y7 y8 y9 y10 y11 y12, LeO (squelchlaw18_FloorServes.l1 k y0 y1 y2 y3 y4 y5 y6 y7 y8 y9 y10 y11 y12) (squelchlaw18_FloorServes.l1 (k + 1) y0 y1 y2 y3 y4 y5 y6 y7 y8 y9 y10 y11 y12)) ∧ (∀ y0 y1 y2 y3 y4 y5 y6 y7 y8 y9 y10 y11 y12 y13 y14 y15 y16 y17 y18 y19 y20 y21 y22 y23 y24 y25 y26, LeO (squelchlaw18_FloorServes.l2 k y0 y1 y2 y3 y4 y5 y6 y7 y8 y9 y10 y11 y12 y13 y14 y15 y16 y17 y18 y19 y20 y21 y22 y23 y24 y25 y26) (squelchlaw18_FloorServes.l2 (k + 1) y0 y1 y2 y3 y4 y5 y6 y7 y8 y9 y10 y11 y12 y13 y14 y15 y16 y17 y18 y19 y20 y21 y22 y23 y24 y25 y26)) ∧ (∀ y0 y1 y2 y3 y4 y5 y6 y7 y8 y9 y10 y11 y12 y13 y14 y15 y16 y17 y18 y19 y20 y21 y22 y23 y24 y25 y26 y27, LeO (squelchlaw18_FloorServes.j3 k y0 y1 y2 y3 y4 y5 y6 y7 y8 y9 y10 y11 y12 y13 y14 y15 y16 y17 y18 y19 y20 y21 y22 y23 y24 y25 y26 y27) (squelchlaw18_FloorServes.j3 (k + 1) y0 y1 y2 y3 y4 y5 y6 y7 y8 y9 y10 y11 y12 y13 y14 y15 y16 y17 y18 y19 y20 y21 y22 y23 y24 y25 y26 y27)) ∧ (∀ y0 y1 y2 y3 y4 y5 y6 y7 y8 y9 y10 y11 y12 y13 y14 y15 y16 y17 y18 y19 y20 y21 y22 y23 y24 y25 y26 y27 y28 y29, LeO (squelchlaw18_FloorServes.l3 k y0 y1 y2 y3 y4 y5 y6 y7 y8 y9 y10 y11 y12 y13 y14 y15 y16 y17 y18 y19 y20 y21 y22 y23 y24 y25 y26 y27 y28 y29) (squelchlaw18_FloorServes.l3 (k + 1) y0 y1 y2 y3 y4 y5 y6 y7 y8 y9 y10 y11 y12 y13 y14 y15 y16 y17 y18 y19 y20 y21 y22 y23 y24 y25 y26 y27 y28 y29))
 | 0 => ⟨fun _ _ _ _ _ _ _ _ _ _ _ _ _ r h => by simp [squelchlaw18_FloorServes.l0] at h, fun _ _ _ _ _ _ _ _ _ _ _ _ _ r h => by simp [squelchlaw18_FloorServes.l1] at h, fun _ _ _ _ _ _ _ _ _ _ _ _ _ _ _ _ _ _ _ _ _ _ _ _ _ _ _ r h => by simp [squelchlaw18_FloorServes.l2] at h, fun _ _ _ _ _ _ _ _ _ _ _ _ _ _ _ _ _ _ _ _ _ _ _ _ _ _ _ _ r h => by simp [squelchlaw18_FloorServes.j3] at h, fun _ _ _ _ _ _ _ _ _ _ _ _ _ _ _ _ _ _ _ _ _ _ _ _ _ _ _ _ _ _ r h => by simp [squelchlaw18_FloorServes.l3] at h⟩
 | k + 1 => by
  obtain ⟨ih0, ih1, ih2, ih3, ih4⟩ := squelchlaw18_FloorServes.mono_l k
  refine ⟨?_, ?_, ?_, ?_, ?_⟩
  ·intro y0 y1 y2 y3 y4 y5 y6 y7 y8 y9 y10 y11 y12
   unfold squelchlaw18_FloorServes.l0
   repeat' first
   | (with_reducible exact ih0 _ _ _ _ _ _ _ _ _ _ _ _ _)
   | (with_reducible exact ih1 _ _ _ _ _ _ _ _ _ _ _ _ _)
   | (with_reducible exact ih2 _ _ _ _ _ _ _ _ _ _ _ _ _ _ _ _ _ _ _ _ _ _ _ _ _ _ _)
   | (with_reducible exact ih3 _ _ _ _ _ _ _ _ _ _ _ _ _ _ _ _ _ _ _ _ _ _ _ _ _ _ _ _)
   | (with_reducible exact ih4 _ _ _ _ _ _ _ _ _ _ _ _ _ _ _ _ _ _ _ _ _ _ _ _ _ _ _ _ _ _)
   | (with_reducible exact floor_Do.mono _ _ _ _ _ _ _ _ _ _ _ _ _ _ _)
   | (with_reducible exact squelchlaw18_live.mono _)
   | (with_reducible exact LeO.refl _)
   | (with_reducible exact LeO.none _)
   | (with_reducible refine LeO.ite ?_ ?_)
   | (with_reducible refine LeO.bind ?_ (fun _ => ?_))
   | exact ih0 _ _ _ _ _ _ _ _ _ _ _ _ _
   | exact ih1 _ _ _ _ _ _ _ _ _ _ _ _ _
   | exact ih2 _ _ _ _ _ _ _ _ _ _ _ _ _ _ _ _ _ _ _ _ _ _ _ _ _ _ _
   | exact ih3 _ _ _ _ _ _ _ _ _ _ _ _ _ _ _ _ _ _ _ _ _ _ _ _ _ _ _ _
   | exact ih4 _ _ _ _ _ _ _ _ _ _ _ _ _ _ _ _ _ _ _ _ _ _ _ _ _ _ _ _ _ _
   | exact floor_Do.mono _ _ _ _ _ _ _ _ _ _ _ _ _ _ _
   | exact squelchlaw18_live.mono _
   | exact LeO.none _
   | refine LeO.ite ?_ ?_
   | refine LeO.bind ?_ (fun _ => ?_)
  ·intro y0 y1 y2 y3 y4 y5 y6 y7 y8 y9 y10 y11 y12
   unfold squelchlaw18_FloorServes.l1
   repeat' first
   | (with_reducible exact ih0 _ _ _ _ _ _ _ _ _ _ _ _ _)
   | (with_reducible exact ih1 _ _ _ _ _ _ _ _ _ _ _ _ _)
   | (with_reducible exact ih2 _ _ _ _ _ _ _ _ _ _ _ _ _ _ _ _ _ _ _ _ _ _ _ _ _ _ _)
   | (with_reducible exact ih3 _ _ _ _ _ _ _ _ _ _ _ _ _ _ _ _ _ _ _ _ _ _ _ _ _ _ _ _)
   | (with_reducible exact ih4 _ _ _ _ _ _ _ _ _ _ _ _ _ _ _ _ _ _ _ _ _ _ _ _ _ _ _ _ _ _)
   | (with_reducible exact floor_Do.mono _ _ _ _ _ _ _ _ _ _ _ _ _ _ _)
   | (with_reducible exact squelchlaw18_live.mono _)
   | (with_reducible exact LeO.refl _)
   | (with_reducible exact LeO.none _)
   | (with_reducible refine LeO.ite ?_ ?_)
   | (with_reducible refine LeO.bind ?_ (fun _ => ?_))
   | exact ih0 _ _ _ _ _ _ _ _ _ _ _ _ _
   | exact ih1 _ _ _ _ _ _ _ _ _ _ _ _ _
   | exact ih2 _ _ _ _ _ _ _ _ _ _ _ _ _ _ _ _ _ _ _ _ _ _ _ _ _ _ _
   | exact ih3 _ _ _ _ _ _ _ _ _ _ _ _ _ _ _ _ _ _ _ _ _ _ _ _ _ _ _ _
   | exact ih4 _ _ _ _ _ _ _ _ _ _ _ _ _ _ _ _ _ _ _ _ _ _ _ _ _ _ _ _ _ _
   | exact floor_Do.mono _ _ _ _ _ _ _ _ _ _ _ _ _ _ _
   | exact squelchlaw18_live.mono _
   | exact LeO.none _
   | refine LeO.ite ?_ ?_
   | refine LeO.bind ?_ (fun _ => ?_)
  ·intro y0 y1 y2 y3 y4 y5 y6 y7 y8 y9 y10 y11 y12 y13 y14 y15 y16 y17 y18 y19 y20 y21 y22 y23 y24 y25 y26
   unfold squelchlaw18_FloorServes.l2
   repeat' first
   | (with_reducible exact ih0 _ _ _ _ _ _ _ _ _ _ _ _ _)
   | (with_reducible exact ih1 _ _ _ _ _ _ _ _ _ _ _ _ _)
   | (with_reducible exact ih2 _ _ _ _ _ _ _ _ _ _ _ _ _ _ _ _ _ _ _ _ _ _ _ _ _ _ _)
   | (with_reducible exact ih3 _ _ _ _ _ _ _ _ _ _ _ _ _ _ _ _ _ _ _ _ _ _ _ _ _ _ _ _)
   | (with_reducible exact ih4 _ _ _ _ _ _ _ _ _ _ _ _ _ _ _ _ _ _ _ _ _ _ _ _ _ _ _ _ _ _)
   | (with_reducible exact floor_Do.mono _ _ _ _ _ _ _ _ _ _ _ _ _ _ _)
   | (with_reducible exact squelchlaw18_live.mono _)
   | (with_reducible exact LeO.refl _)
   | (with_reducible exact LeO.none _)
   | (with_reducible refine LeO.ite ?_ ?_)
   | (with_reducible refine LeO.bind ?_ (fun _ => ?_))
   | exact ih0 _ _ _ _ _ _ _ _ _ _ _ _ _
   | exact ih1 _ _ _ _ _ _ _ _ _ _ _ _ _
   | exact ih2 _ _ _ _ _ _ _ _ _ _ _ _ _ _ _ _ _ _ _ _ _ _ _ _ _ _ _
   | exact ih3 _ _ _ _ _ _ _ _ _ _ _ _ _ _ _ _ _ _ _ _ _ _ _ _ _ _ _ _
   | exact ih4 _ _ _ _ _ _ _ _ _ _ _ _ _ _ _ _ _ _ _ _ _ _ _ _ _ _ _ _ _ _
   | exact floor_Do.mono _ _ _ _ _ _ _ _ _ _ _ _ _ _ _
   | exact squelchlaw18_live.mono _
   | exact LeO.none _
   | refine LeO.ite ?_ ?_
   | refine LeO.bind ?_ (fun _ => ?_)
  ·intro y0 y1 y2 y3 y4 y5 y6 y7 y8 y9 y10 y11 y12 y13 y14 y15 y16 y17 y18 y19 y20 y21 y22 y23 y24 y25 y26 y27
   unfold squelchlaw18_FloorServes.j3
   repeat' first
   | (with_reducible exact ih0 _ _ _ _ _ _ _ _ _ _ _ _ _)
   | (with_reducible exact ih1 _ _ _ _ _ _ _ _ _ _ _ _ _)
   | (with_reducible exact ih2 _ _ _ _ _ _ _ _ _ _ _ _ _ _ _ _ _ _ _ _ _ _ _ _ _ _ _)
   | (with_reducible exact ih3 _ _ _ _ _ _ _ _ _ _ _ _ _ _ _ _ _ _ _ _ _ _ _ _ _ _ _ _)
   | (with_reducible exact ih4 _ _ _ _ _ _ _ _ _ _ _ _ _ _ _ _ _ _ _ _ _ _ _ _ _ _ _ _ _ _)
   | (with_reducible exact floor_Do.mono _ _ _ _ _ _ _ _ _ _ _ _ _ _ _)
   | (with_reducible exact squelchlaw18_live.mono _)
   | (with_reducible exact LeO.refl _)
   | (with_reducible exact LeO.none _)
   | (with_reducible refine LeO.ite ?_ ?_)
   | (with_reducible refine LeO.bind ?_ (fun _ => ?_))
   | exact ih0 _ _ _ _ _ _ _ _ _ _ _ _ _
   | exact ih1 _ _ _ _ _ _ _ _ _ _ _ _ _
   | exact ih2 _ _ _ _ _ _ _ _ _ _ _ _ _ _ _ _ _ _ _ _ _ _ _ _ _ _ _
   | exact ih3 _ _ _ _ _ _ _ _ _ _ _ _ _ _ _ _ _ _ _ _ _ _ _ _ _ _ _ _
   | exact ih4 _ _ _ _ _ _ _ _ _ _ _ _ _ _ _ _ _ _ _ _ _ _ _ _ _ _ _ _ _ _
   | exact floor_Do.mono _ _ _ _ _ _ _ _ _ _ _ _ _ _ _
   | exact squelchlaw18_live.mono _
   | exact LeO.none _
   | refine LeO.ite ?_ ?_
   | refine LeO.bind ?_ (fun _ => ?_)
  ·intro y0 y1 y2 y3 y4 y5 y6 y7 y8 y9 y10 y11 y12 y13 y14 y15 y16 y17 y18 y19 y20 y21 y22 y23 y24 y25 y26 y27 y28 y29
   unfold squelchlaw18_FloorServes.l3
   repeat' first
   | (with_reducible exact ih0 _ _ _ _ _ _ _ _ _ _ _ _ _)
   | (with_reducible exact ih1 _ _ _ _ _ _ _ _ _ _ _ _ _)
   | (with_reducible exact ih2 _ _ _ _ _ _ _ _ _ _ _ _ _ _ _ _ _ _ _ _ _ _ _ _ _ _ _)
   | (with_reducible exact ih3 _ _ _ _ _ _ _ _ _ _ _ _ _ _ _ _ _ _ _ _ _ _ _ _ _ _ _ _)
   | (with_reducible exact ih4 _ _ _ _ _ _ _ _ _ _ _ _ _ _ _ _ _ _ _ _ _ _ _ _ _ _ _ _ _ _)
   | (with_reducible exact floor_Do.mono _ _ _ _ _ _ _ _ _ _ _ _ _ _ _)
   | (with_reducible exact squelchlaw18_live.mono _)
   | (with_reducible exact LeO.refl _)
   | (with_reducible exact LeO.none _)
   | (with_reducible refine LeO.ite ?_ ?_)
   | (with_reducible refine LeO.bind ?_ (fun _ => ?_))
   | exact ih0 _ _ _ _ _ _ _ _ _ _ _ _ _
   | exact ih1 _ _ _ _ _ _ _ _ _ _ _ _ _
   | exact ih2 _ _ _ _ _ _ _ _ _ _ _ _ _ _ _ _ _ _ _ _ _ _ _ _ _ _ _
   | exact ih3 _ _ _ _ _ _ _ _ _ _ _ _ _ _ _ _ _ _ _ _ _ _ _ _ _ _ _ _
   | exact ih4 _ _ _ _ _ _ _ _ _ _ _ _ _ _ _ _ _ _ _ _ _ _ _ _ _ _ _ _ _ _
   | exact floor_Do.mono _ _ _ _ _ _ _ _ _ _ _ _ _ _ _
   | exact squelchlaw18_live.mono _
   | exact LeO.none _
   | refine LeO.ite ?_ ?_
   | refine LeO.bind ?_ (fun _ => ?_)
theorem squelchlaw18_FloorServes.mono : ∀ a0 k, LeO (squelchlaw18_FloorServes.f k a0) (squelchlaw18_FloorServes.f (k + 1) a0) := by
 intro a0 k
 obtain ⟨ih0, ih1, ih2, ih3, ih4⟩ := squelchlaw18_FloorServes.mono_l k
 unfold squelchlaw18_FloorServes.f
 repeat' first
   | (with_reducible exact ih0 _ _ _ _ _ _ _ _ _ _ _ _ _)
   | (with_reducible exact ih1 _ _ _ _ _ _ _ _ _ _ _ _ _)
   | (with_reducible exact ih2 _ _ _ _ _ _ _ _ _ _ _ _ _ _ _ _ _ _ _ _ _ _ _ _ _ _ _)
   | (with_reducible exact ih3 _ _ _ _ _ _ _ _ _ _ _ _ _ _ _ _ _ _ _ _ _ _ _ _ _ _ _ _)
   | (with_reducible exact ih4 _ _ _ _ _ _ _ _ _ _ _ _ _ _ _ _ _ _ _ _ _ _ _ _ _ _ _ _ _ _)
   | (with_reducible exact floor_Do.mono _ _ _ _ _ _ _ _ _ _ _ _ _ _ _)
   | (with_reducible exact squelchlaw18_live.mono _)
   | (with_reducible exact LeO.refl _)
   | (with_reducible exact LeO.none _)
   | (with_reducible refine LeO.ite ?_ ?_)
   | (with_reducible refine LeO.bind ?_ (fun _ => ?_))
   | exact ih0 _ _ _ _ _ _ _ _ _ _ _ _ _
   | exact ih1 _ _ _ _ _ _ _ _ _ _ _ _ _
   | exact ih2 _ _ _ _ _ _ _ _ _ _ _ _ _ _ _ _ _ _ _ _ _ _ _ _ _ _ _
   | exact ih3 _ _ _ _ _ _ _ _ _ _ _ _ _ _ _ _ _ _ _ _ _ _ _ _ _ _ _ _
   | exact ih4 _ _ _ _ _ _ _ _ _ _ _ _ _ _ _ _ _ _ _ _ _ _ _ _ _ _ _ _ _ _
   | exact floor_Do.mono _ _ _ _ _ _ _ _ _ _ _ _ _ _ _
   | exact squelchlaw18_live.mono _
   | exact LeO.none _
   | refine LeO.ite ?_ ?_
   | refine LeO.bind ?_ (fun _ => ?_)
set_option maxHeartbeats 8000000 in
set_option maxRecDepth 100000 in
theorem squelchlaw18_FloorServes.calls (k : Nat) (A0 : Option Addr) (c0 : Nat) (l0 : List (S32)) (r : Bool) (w : World) (hr0 : Kd.C k32 w A0 l0.length l0) (hc0 : l0.length ≤ c0) (h : squelchlaw18_FloorServes.f k l0 = some r) (hr_ : r = true) :
  Calls Try.prog 5 #[.slice A0 l0.length c0] w fun e w' => e = .returned (.bool r) ∧ Below w.heap.size w w' := by
 have HR_ := aM hr_
 clear hr_
 have hu28 := Try.underlying28
 have hu32 := Try.underlying32
 have hu43 := Try.underlying43
 have hu38 := Try.underlying38
 have HR0 := aM hr0
 have HC0 := aM hc0
 clear hr0 hc0
 have HB := aM (Below.refl w.heap.size w)
 have H : ((squelchlaw18_live.f k).bind fun t240 => ((squelchlaw18_few.f 0 0 0 0 0 0 0 ([] : List (S43)) ([] : List Int) l0).bind fun t241 => (if t241 = true then ((floor_New.f).bind fun bt242 => (squelchlaw18_FloorServes.l0 k t240 l0 (l0.length : Int) 0 bt242.1 bt242.2.1 bt242.2.2.1 bt242.2.2.2.1 bt242.2.2.2.2.1 bt242.2.2.2.2.2.1 bt242.2.2.2.2.2.2.1 bt242.2.2.2.2.2.2.2.1 bt242.2.2.2.2.2.2.2.2)) else (some t240)))) = some r := h
 clear h
 replace H := Option.bind_eq_some_iff.mp H
 obtain ⟨t240, A20, H⟩ := H
 replace H : ((squelchlaw18_few.f 0 0 0 0 0 0 0 ([] : List (S43)) ([] : List Int) l0).bind fun t241 => (if t241 = true then ((floor_New.f).bind fun bt242 => (squelchlaw18_FloorServes.l0 k t240 l0 (l0.length : Int) 0 bt242.1 bt242.2.1 bt242.2.2.1 bt242.2.2.2.1 bt242.2.2.2.2.1 bt242.2.2.2.2.2.1 bt242.2.2.2.2.2.2.1 bt242.2.2.2.2.2.2.2.1 bt242.2.2.2.2.2.2.2.2)) else (some t240))) = some r := H
 have A2 := aM A20
 clear A20
 replace H := Option.bind_eq_some_iff.mp H
 obtain ⟨t241, A30, H⟩ := H
 replace H : (if t241 = true then ((floor_New.f).bind fun bt242 => (squelchlaw18_FloorServes.l0 k t240 l0 (l0.length : Int) 0 bt242.1 bt242.2.1 bt242.2.2.1 bt242.2.2.2.1 bt242.2.2.2.2.1 bt242.2.2.2.2.2.1 bt242.2.2.2.2.2.2.1 bt242.2.2.2.2.2.2.2.1 bt242.2.2.2.2.2.2.2.2)) else (some t240)) = some r := H
 have A3 := aM A30
 clear A30
 by_cases c4 : t241 = true
 ·subst c4
  have H1 : ((floor_New.f).bind fun bt242 => (squelchlaw18_FloorServes.l0 k t240 l0 (l0.length : Int) 0 bt242.1 bt242.2.1 bt242.2.2.1 bt242.2.2.2.1 bt242.2.2.2.2.1 bt242.2.2.2.2.2.1 bt242.2.2.2.2.2.2.1 bt242.2.2.2.2.2.2.2.1 bt242.2.2.2.2.2.2.2.2)) = some r := by rw [if_pos rfl] at H; exact H
  clear H
  have H := H1
  clear H1
  replace H := Option.bind_eq_some_iff.mp H
  obtain ⟨⟨t242, t243, t244, t245, t246, t247, t248, t249, t252⟩, A50, H⟩ := H
  replace H : (squelchlaw18_FloorServes.l0 k t240 l0 (l0.length : Int) 0 t242 t243 t244 t245 t246 t247 t248 t249 t252) = some r := H
  have A5 := aM A50
  clear A50
  have H' := aM H
  clear H
  go_enter Try.func5, Try.ntmps5
  go_wp2_with (first | ((with_reducible refine gate_callee (f := 11) rfl ?_); refine goesL_ (some 21) rfl rfl Try.func11 (by kernel_rfl) rfl #[] rfl (by (try simp only [List.map_toArray, List.map_cons, List.map_nil]); first | done | rfl | (simp only [List.length_drop, List.length_take]; rfl)) ?_; (with_reducible refine (squelchlaw18_live.calls k  t240 _ A2.out).mono ?_); rintro e w6 ⟨rfl, hb⟩; refine ⟨_, rfl, ?_⟩; have n0_ := aM (below_step (by repeat (first | (with_reducible first | exact HB.out | apply bA | apply bN | apply bD) | exact HB.out)) hb); clear HB; have HB := n0_; clear n0_; (try clear hb); ) | ((with_reducible refine gate_callee (f := 12) rfl ?_); refine goesL_ (some 24) rfl rfl Try.func12 (by kernel_rfl) rfl #[.agg #[.int .i64 0, .int .i64 0, .int .i64 0, .int .i64 0, .int .i64 0, .int .i64 0, .int .i64 0, .slice none 0 0, .slice none 0 0], .slice A0 l0.length c0] rfl (by (try simp only [List.map_toArray, List.map_cons, List.map_nil]); first | done | rfl | (simp only [List.length_drop, List.length_take]; rfl)) ?_; (refine (squelchlaw18_few.calls 0 0 0 0 0 0 0 _ _ ([] : List (S43)) _ _ ([] : List Int) _ _ l0 true _ ?side1 ?side2 ?side3 ?side4 ?side5 ?side6 A3.out).mono ?_); (case side1 => exact Kd.C_nil _ _); (case side2 => exact Nat.le_refl _); (case side3 => exact Kd.C_nil _ _); (case side4 => exact Nat.le_refl _); (case side5 => repeat (first | exact (Kd.C_below HR0.out HB.out) | (with_reducible refine Kd.C_alloc ?_ _) | (with_reducible refine Kd.C_drewN ?_ _) | (with_reducible refine Kd.C_drew ?_))); (case side6 => exact HC0.out); rintro e w7 ⟨rfl, hb⟩; refine ⟨_, rfl, ?_⟩; have n0_ := aM (below_step (by repeat (first | (with_reducible first | exact HB.out | apply bA | apply bN | apply bD) | exact HB.out)) hb); clear HB; have HB := n0_; clear n0_; (try clear hb); ) | ((with_reducible refine gate_callee (f := 13) rfl ?_); refine goesL_ (some 27) rfl rfl Try.func13 (by kernel_rfl) rfl #[] rfl (by (try simp only [List.map_toArray, List.map_cons, List.map_nil]); first | done | rfl | (simp only [List.length_drop, List.length_take]; rfl)) ?_; (with_reducible refine (floor_New.calls  t242 t243 t244 t245 t246 t247 t248 t249 t252 _ A5.out).mono ?_); rintro e w8 ⟨v250, v253, rfl, ho0, ho1, hb⟩; refine ⟨_, rfl, ?_⟩; have n0_ := aM (Kd.R_lower ho0 (below_size (by repeat (first | (with_reducible first | exact HB.out | apply bA | apply bN | apply bD) | exact HB.out)))); have n1_ := aM (Kd.R_lower ho1 (below_size (by repeat (first | (with_reducible first | exact HB.out | apply bA | apply bN | apply bD) | exact HB.out)))); have n2_ := aM (below_step (by repeat (first | (with_reducible first | exact HB.out | apply bA | apply bN | apply bD) | exact HB.out)) hb); clear HB; have HO251 := n0_; have HO254 := n1_; have HB := n2_; clear n0_ n1_ n2_; (try clear hb); (try clear ho0); (try clear ho1)) | ((with_reducible refine gate_dst (N := 4) rfl ?_); refine box_event ?hg (N := 4) ?hd (cs := #[.int .i64 0, .int .i64 0, .int .i64 0, .int .i64 0, .int .i64 0, .int .i64 0, .int .i64 0, .slice none 0 0, .slice none 0 0]) (t := 28) ?hr ?_; (case hd => rfl); (case hg => rfl); (case hr => first | (go_simp; done) | (go_simp; rfl)); intro gb255 hg w9 hbox hb; have n0_ := aM (Kd.R_below (by (with_reducible repeat (first | apply Kd.R_alloc | apply Kd.R_drewN | apply Kd.R_drew)); exact HO251.out) hb); have n1_ := aM (Kd.R_below (by (with_reducible repeat (first | apply Kd.R_alloc | apply Kd.R_drewN | apply Kd.R_drew)); exact HO254.out) hb); have n2_ := aM (below_step (by repeat (first | (with_reducible first | exact HB.out | apply bA | apply bN | apply bD) | exact HB.out)) hb); have n3_ := aM (hbox); have n4_ := aM ((by rw [hg]; exact (below_size (by repeat (first | (with_reducible first | exact HB.out | apply bA | apply bN | apply bD) | exact HB.out))) : w.heap.size ≤ gb255)); have n5_ := aM ((by rw [hg]; exact (below_size (by repeat (first | (with_reducible first | exact HB.out | apply bA | apply bN | apply bD) | exact HB.out))) : w.heap.size ≤ gb255)); clear HO251; clear HO254; clear HB; have HO251 := n0_; have HO254 := n1_; have HB := n2_; have BK255 := n3_; have GW255 := n4_; have GE255 := n5_; clear n0_ n1_ n2_ n3_ n4_ n5_; clear hb hbox hg; obtain ⟨hcz10_0, hcz10_1, hcz10_2, hcz10_3, hcz10_4, hcz10_5, hcz10_6, hcz10_7, hcz10_8⟩ := cells9 BK255.out; obtain ⟨hfz10_0, hfz10_1, hfz10_2, hfz10_3, hfz10_4, hfz10_5, hfz10_6, hfz10_7, hfz10_8⟩ := froz9 BK255.out; obtain ⟨Ao11, co11, eo11⟩ := Kd.R_slice HO251.out; subst eo11; obtain ⟨Ao12, co12, eo12⟩ := Kd.R_slice HO254.out; subst eo12))
  (try simp only [Act.put, List.setIfInBounds_toArray, List.set_cons_zero, List.set_cons_succ])
  go_loopg [30] k (fun kq v30 w' => ∃ (x30_1 : Int) (x256000_1 : Int) (x256001_1 : Int) (x256002_1 : Int) (x256003_1 : Int) (x256004_1 : Int) (x256005_1 : Int) (x256006_1 : Int) (x256007_1 : List (S43)) (x256008_1 : List Int) (u256007 : Value) (u256008 : Value), v30 = .int .i64 x30_1 ∧ Aside0 (squelchlaw18_FloorServes.l0 kq t240 l0 (l0.length : Int) x30_1 x256000_1 x256001_1 x256002_1 x256003_1 x256004_1 x256005_1 x256006_1 x256007_1 x256008_1 = some r) ∧ Aside0 (kq ≤ k) ∧ Aside0 (Kd.V k43 43 w' w.heap.size (fun k_ => k_ ≠ gb255) u256007 x256007_1) ∧ Aside0 (Kd.V (Kd.int .i64) 3 w' w.heap.size (fun k_ => k_ ≠ gb255) u256008 x256008_1) ∧ Aside0 (w'.heap[gb255]? = some (.cells #[.int .i64 x256000_1, .int .i64 x256001_1, .int .i64 x256002_1, .int .i64 x256003_1, .int .i64 x256004_1, .int .i64 x256005_1, .int .i64 x256006_1, u256007, u256008] 28 (0, 0))) ∧ Aside0 (Below w.heap.size w w'))
  case atStart => exact ⟨(0), (t242), (t243), (t244), (t245), (t246), (t247), (t248), (t249), (t252), (.slice Ao11 t249.length co11), (.slice Ao12 t252.length co12), (by first | rfl | (simp; done) | (simp [*]; done)), H', ⟨Nat.le_refl _⟩, ⟨Kd.R_V (by (with_reducible repeat (first | apply Kd.R_alloc | apply Kd.R_drewN | apply Kd.R_drew)); exact Kd.R_mono (Kd.R_far9 (g := gb255) (Kd.R_types (Kd.R_types HO251.out BK255.out (by decide)) BK255.out (by decide)) (fun _ hk => hk.2) (.int .i64 t242) (.int .i64 t243) (.int .i64 t244) (.int .i64 t245) (.int .i64 t246) (.int .i64 t247) (.int .i64 t248) (.slice Ao11 t249.length co11) (.slice Ao12 t252.length co12)) (fun _ hk => hk.1.2))⟩, ⟨Kd.R_V (by (with_reducible repeat (first | apply Kd.R_alloc | apply Kd.R_drewN | apply Kd.R_drew)); exact Kd.R_mono (Kd.R_far9 (g := gb255) (Kd.R_types (Kd.R_types HO254.out BK255.out (by decide)) BK255.out (by decide)) (fun _ hk => hk.2) (.int .i64 t242) (.int .i64 t243) (.int .i64 t244) (.int .i64 t245) (.int .i64 t246) (.int .i64 t247) (.int .i64 t248) (.slice Ao11 t249.length co11) (.slice Ao12 t252.length co12)) (fun _ hk => hk.1.2))⟩, ⟨by (with_reducible repeat (first | refine kN ?_ _ | refine kD ?_ | refine kA ?_ _)); refine blk_put (cs := #[.int .i64 t242, .int .i64 t243, .int .i64 t244, .int .i64 t245, .int .i64 t246, .int .i64 t247, .int .i64 t248, .slice Ao11 t249.length co11, .slice none 0 0]) ?_ 8 _ rfl; (with_reducible repeat (first | refine kN ?_ _ | refine kD ?_ | refine kA ?_ _)); refine blk_put (cs := #[.int .i64 t242, .int .i64 t243, .int .i64 t244, .int .i64 t245, .int .i64 t246, .int .i64 t247, .int .i64 t248, .slice none 0 0, .slice none 0 0]) ?_ 7 _ rfl; (with_reducible repeat (first | refine kN ?_ _ | refine kD ?_ | refine kA ?_ _)); refine blk_put (cs := #[.int .i64 t242, .int .i64 t243, .int .i64 t244, .int .i64 t245, .int .i64 t246, .int .i64 t247, .int .i64 0, .slice none 0 0, .slice none 0 0]) ?_ 6 _ rfl; (with_reducible repeat (first | refine kN ?_ _ | refine kD ?_ | refine kA ?_ _)); refine blk_put (cs := #[.int .i64 t242, .int .i64 t243, .int .i64 t244, .int .i64 t245, .int .i64 t246, .int .i64 0, .int .i64 0, .slice none 0 0, .slice none 0 0]) ?_ 5 _ rfl; (with_reducible repeat (first | refine kN ?_ _ | refine kD ?_ | refine kA ?_ _)); refine blk_put (cs := #[.int .i64 t242, .int .i64 t243, .int .i64 t244, .int .i64 t245, .int .i64 0, .int .i64 0, .int .i64 0, .slice none 0 0, .slice none 0 0]) ?_ 4 _ rfl; (with_reducible repeat (first | refine kN ?_ _ | refine kD ?_ | refine kA ?_ _)); refine blk_put (cs := #[.int .i64 t242, .int .i64 t243, .int .i64 t244, .int .i64 0, .int .i64 0, .int .i64 0, .int .i64 0, .slice none 0 0, .slice none 0 0]) ?_ 3 _ rfl; (with_reducible repeat (first | refine kN ?_ _ | refine kD ?_ | refine kA ?_ _)); refine blk_put (cs := #[.int .i64 t242, .int .i64 t243, .int .i64 0, .int .i64 0, .int .i64 0, .int .i64 0, .int .i64 0, .slice none 0 0, .slice none 0 0]) ?_ 2 _ rfl; (with_reducible repeat (first | refine kN ?_ _ | refine kD ?_ | refine kA ?_ _)); refine blk_put (cs := #[.int .i64 t242, .int .i64 0, .int .i64 0, .int .i64 0, .int .i64 0, .int .i64 0, .int .i64 0, .slice none 0 0, .slice none 0 0]) ?_ 1 _ rfl; (with_reducible repeat (first | refine kN ?_ _ | refine kD ?_ | refine kA ?_ _)); refine blk_put (cs := #[.int .i64 0, .int .i64 0, .int .i64 0, .int .i64 0, .int .i64 0, .int .i64 0, .int .i64 0, .slice none 0 0, .slice none 0 0]) ?_ 0 _ rfl; (with_reducible repeat (first | refine kN ?_ _ | refine kD ?_ | refine kA ?_ _)); exact BK255.out⟩, ⟨by repeat (first | (with_reducible first | exact HB.out | apply bA | apply bN | apply bD | refine bS ?_ GE255.out) | exact HB.out)⟩⟩
  case round =>
   clear H'
   try clear c1
   try clear p2
   try clear c4
   try clear c5
   try clear c11
   try clear c12
   try clear hcz10_0
   try clear hcz10_1
   try clear hcz10_2
   try clear hcz10_3
   try clear hcz10_4
   try clear hcz10_5
   try clear hcz10_6
   try clear hcz10_7
   try clear hcz10_8
   try clear hfz10_0
   try clear hfz10_1
   try clear hfz10_2
   try clear hfz10_3
   try clear hfz10_4
   try clear hfz10_5
   try clear hfz10_6
   try clear hfz10_7
   try clear hfz10_8
   obtain ⟨x30_1, x256000_1, x256001_1, x256002_1, x256003_1, x256004_1, x256005_1, x256006_1, x256007_1, x256008_1, u256007, u256008, rfl, HA, HK1, HO_256007, HO_256008, BK255, HB⟩ := hrel
   cases gk with
   | zero => exact absurd HA.out (by simp [squelchlaw18_FloorServes.l0])
   | succ k1 =>
    have H := HA.out
    clear HA
    simp only [squelchlaw18_FloorServes.l0] at H
    by_cases c13 : x30_1 < (l0.length : Int)
    ·rw [if_pos c13] at H
     have c13b0 : decide (x30_1 < (l0.length : Int)) = true := decide_eq_true c13
     clear c13
     by_cases c14 : 0 ≤ x30_1
     ·rw [if_pos c14] at H
      have c14b0 : decide (0 ≤ x30_1) = true := decide_eq_true c14
      clear c14
      by_cases c15 : x30_1 < (l0.length : Int)
      ·rw [if_pos c15] at H
       have c15b0 : decide (x30_1 < (l0.length : Int)) = true := decide_eq_true c15
       clear c15
       by_cases c16 : ((rd_T32 l0 x30_1).f4) > 1073741824
       ·rw [if_pos c16] at H
        have c16b0 : decide (1073741824 < ((rd_T32 l0 x30_1).f4)) = true := decide_eq_true c16
        clear c16
        obtain rfl := Option.some.inj H
        have p256 : 0 ≤ (x30_1 : Int) := of_decide_eq_true (by first | (with_reducible assumption) | assumption)
        have q256 : x30_1 < (l0.length : Int) := of_decide_eq_true (by first | (with_reducible assumption) | assumption)
        obtain ⟨ad256, e256, hx256_0, hx256_1, hx256_2, hx256_3, hx256_4⟩ := at_T32 HR0.out x30_1 p256 q256
        cases e256
        replace hx256_0 := (HB.out.cell (World.block_lt_of_cell? w _ hx256_0)).trans hx256_0
        replace hx256_1 := (HB.out.cell (World.block_lt_of_cell? w _ hx256_1)).trans hx256_1
        replace hx256_2 := (HB.out.cell (World.block_lt_of_cell? w _ hx256_2)).trans hx256_2
        replace hx256_3 := (HB.out.cell (World.block_lt_of_cell? w _ hx256_3)).trans hx256_3
        replace hx256_4 := (HB.out.cell (World.block_lt_of_cell? w _ hx256_4)).trans hx256_4
        replace p256 := eq_true p256
        replace q256 := eq_true q256
        go_wp2_with (first | ((with_reducible refine gate_dst (N := 6) rfl ?_); refine box_event ?hg (N := 6) ?hd (cs := #[.int .i64 0, .int .i64 0, .int .i64 0, .int .i64 0, .int .i64 0]) (t := 32) ?hr ?_; (case hd => rfl); (case hg => rfl); (case hr => first | (go_simp; done) | (go_simp; rfl)); intro gb257 hg w17 hbox hb; have n0_ := aM (Kd.V_below (Kd.V_elderB (by (with_reducible repeat (first | apply Kd.V_alloc | apply Kd.V_drewN | apply Kd.V_drew)); exact HO_256007.out) gb257 (Nat.le_of_eq hg.symm)) hb); have n1_ := aM (Kd.V_below (Kd.V_elderB (by (with_reducible repeat (first | apply Kd.V_alloc | apply Kd.V_drewN | apply Kd.V_drew)); exact HO_256008.out) gb257 (Nat.le_of_eq hg.symm)) hb); have n2_ := aM (blk_below (g := gb255) (o := .cells #[.int .i64 x256000_1, .int .i64 x256001_1, .int .i64 x256002_1, .int .i64 x256003_1, .int .i64 x256004_1, .int .i64 x256005_1, .int .i64 x256006_1, u256007, u256008] 28 (0, 0)) (by (with_reducible repeat (first | refine kN ?_ _ | refine kD ?_ | refine kA ?_ _)); exact BK255.out) hb); have n3_ := aM (below_step (by repeat (first | (with_reducible first | exact HB.out | apply bA | apply bN | apply bD | refine bS ?_ GE255.out) | exact HB.out)) hb); have n4_ := aM (hbox); have n5_ := aM ((by rw [hg]; exact (below_size (by repeat (first | (with_reducible first | exact HB.out | apply bA | apply bN | apply bD | refine bS ?_ GE255.out) | exact HB.out))) : w.heap.size ≤ gb257)); have n6_ := aM ((by rw [hg]; exact (below_size (by repeat (first | (with_reducible first | exact HB.out | apply bA | apply bN | apply bD | refine bS ?_ GE255.out) | exact HB.out))) : w.heap.size ≤ gb257)); have n7_ := aM ((by rw [hg]; exact Nat.ne_of_lt (blk_lt (g := gb255) (o := .cells #[.int .i64 x256000_1, .int .i64 x256001_1, .int .i64 x256002_1, .int .i64 x256003_1, .int .i64 x256004_1, .int .i64 x256005_1, .int .i64 x256006_1, u256007, u256008] 28 (0, 0)) (by (with_reducible repeat (first | refine kN ?_ _ | refine kD ?_ | refine kA ?_ _)); exact BK255.out)) : gb255 ≠ gb257)); have n8_ := aM ((by rw [hg]; exact Nat.ne_of_gt (blk_lt (g := gb255) (o := .cells #[.int .i64 x256000_1, .int .i64 x256001_1, .int .i64 x256002_1, .int .i64 x256003_1, .int .i64 x256004_1, .int .i64 x256005_1, .int .i64 x256006_1, u256007, u256008] 28 (0, 0)) (by (with_reducible repeat (first | refine kN ?_ _ | refine kD ?_ | refine kA ?_ _)); exact BK255.out)) : gb257 ≠ gb255)); clear HO_256007; clear HO_256008; clear BK255; clear HB; have HO_256007 := n0_; have HO_256008 := n1_; have BK255 := n2_; have HB := n3_; have BK257 := n4_; have GW257 := n5_; have GE257 := n6_; have NB255_257 := n7_; have NB257_255 := n8_; clear n0_ n1_ n2_ n3_ n4_ n5_ n6_ n7_ n8_; clear hb hbox hg; have hnb18 := NB257_255.out; have hnc18 := NB255_257.out; obtain ⟨hcz19_0, hcz19_1, hcz19_2, hcz19_3, hcz19_4⟩ := cells5 BK257.out; obtain ⟨hfz19_0, hfz19_1, hfz19_2, hfz19_3, hfz19_4⟩ := froz5 BK257.out))
        go_ret
        exact ⟨by first | rfl | (simp [errW_none, errW_some] <;> rfl) | (simp [*, errW_none, errW_some] <;> rfl), by repeat (first | (with_reducible first | exact HB.out | apply bA | apply bN | apply bD | refine bS ?_ GE255.out | refine bS ?_ GE257.out) | exact HB.out)⟩
       ·rw [if_neg c16] at H
        have c16b0 : decide (1073741824 < ((rd_T32 l0 x30_1).f4)) = false := decide_eq_false c16
        clear c16
        replace H := Option.bind_eq_some_iff.mp H
        obtain ⟨⟨t258, t259, t260, t261, t262, t263, t264, t265, t268, t271, t274⟩, A200, H⟩ := H
        replace H : (if t274 = 0 then (squelchlaw18_FloorServes.l0 k1 t240 l0 (l0.length : Int) (wrap64 (x30_1 + 1)) t258 t259 t260 t261 t262 t263 t264 t265 t268) else (squelchlaw18_FloorServes.l0 k1 t240 l0 (l0.length : Int) (wrap64 (x30_1 + 1)) x256000_1 x256001_1 x256002_1 x256003_1 x256004_1 x256005_1 x256006_1 x256007_1 x256008_1)) = some r := H
        have A20 := aM A200
        clear A200
        by_cases c21 : t274 = 0
        ·rw [if_pos c21] at H
         have c21b0 : (t274 == 0) = true := beq_iff_eq.mpr c21
         have c21b1 : (t274 != 0) = false := bne_eq_false_iff_eq.mpr c21
         clear c21
         have H' := aM H
         clear H
         have p256 : 0 ≤ (x30_1 : Int) := of_decide_eq_true (by first | (with_reducible assumption) | assumption)
         have q256 : x30_1 < (l0.length : Int) := of_decide_eq_true (by first | (with_reducible assumption) | assumption)
         obtain ⟨ad256, e256, hx256_0, hx256_1, hx256_2, hx256_3, hx256_4⟩ := at_T32 HR0.out x30_1 p256 q256
         cases e256
         replace hx256_0 := (HB.out.cell (World.block_lt_of_cell? w _ hx256_0)).trans hx256_0
         replace hx256_1 := (HB.out.cell (World.block_lt_of_cell? w _ hx256_1)).trans hx256_1
         replace hx256_2 := (HB.out.cell (World.block_lt_of_cell? w _ hx256_2)).trans hx256_2
         replace hx256_3 := (HB.out.cell (World.block_lt_of_cell? w _ hx256_3)).trans hx256_3
         replace hx256_4 := (HB.out.cell (World.block_lt_of_cell? w _ hx256_4)).trans hx256_4
         replace p256 := eq_true p256
         replace q256 := eq_true q256
         go_wp2_with (first | ((with_reducible refine gate_dst (N := 6) rfl ?_); refine box_event ?hg (N := 6) ?hd (cs := #[.int .i64 0, .int .i64 0, .int .i64 0, .int .i64 0, .int .i64 0]) (t := 32) ?hr ?_; (case hd => rfl); (case hg => rfl); (case hr => first | (go_simp; done) | (go_simp; rfl)); intro gb257 hg w22 hbox hb; have n0_ := aM (Kd.V_below (Kd.V_elderB (by (with_reducible repeat (first | apply Kd.V_alloc | apply Kd.V_drewN | apply Kd.V_drew)); exact HO_256007.out) gb257 (Nat.le_of_eq hg.symm)) hb); have n1_ := aM (Kd.V_below (Kd.V_elderB (by (with_reducible repeat (first | apply Kd.V_alloc | apply Kd.V_drewN | apply Kd.V_drew)); exact HO_256008.out) gb257 (Nat.le_of_eq hg.symm)) hb); have n2_ := aM (blk_below (g := gb255) (o := .cells #[.int .i64 x256000_1, .int .i64 x256001_1, .int .i64 x256002_1, .int .i64 x256003_1, .int .i64 x256004_1, .int .i64 x256005_1, .int .i64 x256006_1, u256007, u256008] 28 (0, 0)) (by (with_reducible repeat (first | refine kN ?_ _ | refine kD ?_ | refine kA ?_ _)); exact BK255.out) hb); have n3_ := aM (below_step (by repeat (first | (with_reducible first | exact HB.out | apply bA | apply bN | apply bD | refine bS ?_ GE255.out) | exact HB.out)) hb); have n4_ := aM (hbox); have n5_ := aM ((by rw [hg]; exact (below_size (by repeat (first | (with_reducible first | exact HB.out | apply bA | apply bN | apply bD | refine bS ?_ GE255.out) | exact HB.out))) : w.heap.size ≤ gb257)); have n6_ := aM ((by rw [hg]; exact (below_size (by repeat (first | (with_reducible first | exact HB.out | apply bA | apply bN | apply bD | refine bS ?_ GE255.out) | exact HB.out))) : w.heap.size ≤ gb257)); have n7_ := aM ((by rw [hg]; exact Nat.ne_of_lt (blk_lt (g := gb255) (o := .cells #[.int .i64 x256000_1, .int .i64 x256001_1, .int .i64 x256002_1, .int .i64 x256003_1, .int .i64 x256004_1, .int .i64 x256005_1, .int .i64 x256006_1, u256007, u256008] 28 (0, 0)) (by (with_reducible repeat (first | refine kN ?_ _ | refine kD ?_ | refine kA ?_ _)); exact BK255.out)) : gb255 ≠ gb257)); have n8_ := aM ((by rw [hg]; exact Nat.ne_of_gt (blk_lt (g := gb255) (o := .cells #[.int .i64 x256000_1, .int .i64 x256001_1, .int .i64 x256002_1, .int .i64 x256003_1, .int .i64 x256004_1, .int .i64 x256005_1, .int .i64 x256006_1, u256007, u256008] 28 (0, 0)) (by (with_reducible repeat (first | refine kN ?_ _ | refine kD ?_ | refine kA ?_ _)); exact BK255.out)) : gb257 ≠ gb255)); clear HO_256007; clear HO_256008; clear BK255; clear HB; have HO_256007 := n0_; have HO_256008 := n1_; have BK255 := n2_; have HB := n3_; have BK257 := n4_; have GW257 := n5_; have GE257 := n6_; have NB255_257 := n7_; have NB257_255 := n8_; clear n0_ n1_ n2_ n3_ n4_ n5_ n6_ n7_ n8_; clear hb hbox hg; have hnb23 := NB257_255.out; have hnc23 := NB255_257.out; obtain ⟨hcz24_0, hcz24_1, hcz24_2, hcz24_3, hcz24_4⟩ := cells5 BK257.out; obtain ⟨hfz24_0, hfz24_1, hfz24_2, hfz24_3, hfz24_4⟩ := froz5 BK257.out; obtain ⟨hcz25_0, hcz25_1, hcz25_2, hcz25_3, hcz25_4, hcz25_5, hcz25_6, hcz25_7, hcz25_8⟩ := cells9 BK255.out; obtain ⟨hfz25_0, hfz25_1, hfz25_2, hfz25_3, hfz25_4, hfz25_5, hfz25_6, hfz25_7, hfz25_8⟩ := froz9 BK255.out; obtain ⟨Ao26, co26, eo26⟩ := Kd.V_slice HO_256007.out; subst eo26; obtain ⟨Ao27, co27, eo27⟩ := Kd.V_slice HO_256008.out; subst eo27) | ((with_reducible refine gate_callee (f := 14) rfl ?_); refine goesL_ (some 41) rfl rfl Try.func14 (by kernel_rfl) rfl #[.agg #[.int .i64 x256000_1, .int .i64 x256001_1, .int .i64 x256002_1, .int .i64 x256003_1, .int .i64 x256004_1, .int .i64 x256005_1, .int .i64 x256006_1, .slice Ao26 x256007_1.length co26, .slice Ao27 x256008_1.length co27], .agg #[.int .i64 ((rd_T32 l0 x30_1).f0), .int .i64 ((rd_T32 l0 x30_1).f1), .int .i64 ((rd_T32 l0 x30_1).f2), .int .i64 ((rd_T32 l0 x30_1).f3), .int .i64 ((rd_T32 l0 x30_1).f4)]] rfl (by (try simp only [List.map_toArray, List.map_cons, List.map_nil]); first | done | rfl | (simp only [List.length_drop, List.length_take]; rfl)) ?_; (with_reducible refine (floor_Do.calls8 k1 x256000_1 x256001_1 x256002_1 x256003_1 x256004_1 x256005_1 x256006_1 _ _ x256007_1 _ _ x256008_1 ((rd_T32 l0 x30_1).f0) ((rd_T32 l0 x30_1).f1) ((rd_T32 l0 x30_1).f2) ((rd_T32 l0 x30_1).f3) ((rd_T32 l0 x30_1).f4) t258 t259 t260 t261 t262 t263 t264 t265 t268 t271 t274 _ ?side1 ?side2 ?side3 ?side4 A20.out).mono ?_); (case side1 => refine (Kd.V_reads' (e := 43) (base := w.heap.size) (ok := fun k_ => (k_ ≠ gb255 ∧ k_ ≠ gb257)) (n := x256007_1.length) (c := co26) ?_).2.2; exact (by (with_reducible repeat (first | apply Kd.V_alloc | apply Kd.V_drewN | apply Kd.V_drew)); exact (Kd.V_mono (Kd.V_far5 (g := gb257) (Kd.V_mono HO_256007.out (fun k_ hk => (⟨hk, hk.2⟩ : _ ∧ k_ ≠ gb257))) (fun _ hk => hk.2) (.int .i64 ((rd_T32 l0 x30_1).f0)) (.int .i64 ((rd_T32 l0 x30_1).f1)) (.int .i64 ((rd_T32 l0 x30_1).f2)) (.int .i64 ((rd_T32 l0 x30_1).f3)) (.int .i64 ((rd_T32 l0 x30_1).f4))) (fun _ h_ => h_.1)))); (case side2 => exact (Kd.V_reads' HO_256007.out).2.1); (case side3 => refine (Kd.V_reads' (e := 3) (base := w.heap.size) (ok := fun k_ => (k_ ≠ gb255 ∧ k_ ≠ gb257)) (n := x256008_1.length) (c := co27) ?_).2.2; exact (by (with_reducible repeat (first | apply Kd.V_alloc | apply Kd.V_drewN | apply Kd.V_drew)); exact (Kd.V_mono (Kd.V_far5 (g := gb257) (Kd.V_mono HO_256008.out (fun k_ hk => (⟨hk, hk.2⟩ : _ ∧ k_ ≠ gb257))) (fun _ hk => hk.2) (.int .i64 ((rd_T32 l0 x30_1).f0)) (.int .i64 ((rd_T32 l0 x30_1).f1)) (.int .i64 ((rd_T32 l0 x30_1).f2)) (.int .i64 ((rd_T32 l0 x30_1).f3)) (.int .i64 ((rd_T32 l0 x30_1).f4))) (fun _ h_ => h_.1)))); (case side4 => exact (Kd.V_reads' HO_256008.out).2.1); rintro e w28 ⟨v266, v269, v272, rfl, ho0, ho1, ho2, hb⟩; refine ⟨_, rfl, ?_⟩; have n0_ := aM (Kd.V_elder' (by (with_reducible repeat (first | apply Kd.V_alloc | apply Kd.V_drewN | apply Kd.V_drew)); exact (Kd.V_mono (Kd.V_far5 (g := gb257) (Kd.V_mono HO_256007.out (fun k_ hk => (⟨hk, hk.2⟩ : _ ∧ k_ ≠ gb257))) (fun _ hk => hk.2) (.int .i64 ((rd_T32 l0 x30_1).f0)) (.int .i64 ((rd_T32 l0 x30_1).f1)) (.int .i64 ((rd_T32 l0 x30_1).f2)) (.int .i64 ((rd_T32 l0 x30_1).f3)) (.int .i64 ((rd_T32 l0 x30_1).f4))) (fun _ h_ => h_.1))) (Kd.R_base ho2) hb); have n1_ := aM (Kd.V_elder' (by (with_reducible repeat (first | apply Kd.V_alloc | apply Kd.V_drewN | apply Kd.V_drew)); exact (Kd.V_mono (Kd.V_far5 (g := gb257) (Kd.V_mono HO_256008.out (fun k_ hk => (⟨hk, hk.2⟩ : _ ∧ k_ ≠ gb257))) (fun _ hk => hk.2) (.int .i64 ((rd_T32 l0 x30_1).f0)) (.int .i64 ((rd_T32 l0 x30_1).f1)) (.int .i64 ((rd_T32 l0 x30_1).f2)) (.int .i64 ((rd_T32 l0 x30_1).f3)) (.int .i64 ((rd_T32 l0 x30_1).f4))) (fun _ h_ => h_.1))) (Kd.R_base ho2) hb); have n2_ := aM (Kd.V_lower (Kd.V_mono (ok' := fun k_ => some k_ ≠ (v272 : Value).ownBlock ∧ k_ ≠ gb255 ∧ k_ ≠ gb257) ho0 (fun k_ hk_ => ⟨hk_.2, (Kd.freshB (g := gb255) (o := .cells #[.int .i64 x256000_1, .int .i64 x256001_1, .int .i64 x256002_1, .int .i64 x256003_1, .int .i64 x256004_1, .int .i64 x256005_1, .int .i64 x256006_1, .slice Ao26 x256007_1.length co26, .slice Ao27 x256008_1.length co27] 28 (0, 0)) (by (with_reducible repeat (first | refine kN ?_ _ | refine kD ?_ | refine kA ?_ _)); refine blk_far ?_ NB255_257.out _; (with_reducible repeat (first | refine kN ?_ _ | refine kD ?_ | refine kA ?_ _)); refine blk_far ?_ NB255_257.out _; (with_reducible repeat (first | refine kN ?_ _ | refine kD ?_ | refine kA ?_ _)); refine blk_far ?_ NB255_257.out _; (with_reducible repeat (first | refine kN ?_ _ | refine kD ?_ | refine kA ?_ _)); refine blk_far ?_ NB255_257.out _; (with_reducible repeat (first | refine kN ?_ _ | refine kD ?_ | refine kA ?_ _)); refine blk_far ?_ NB255_257.out _; (with_reducible repeat (first | refine kN ?_ _ | refine kD ?_ | refine kA ?_ _)); exact BK255.out) k_ hk_.1), (Kd.freshB (g := gb257) (o := .cells #[.int .i64 ((rd_T32 l0 x30_1).f0), .int .i64 ((rd_T32 l0 x30_1).f1), .int .i64 ((rd_T32 l0 x30_1).f2), .int .i64 ((rd_T32 l0 x30_1).f3), .int .i64 ((rd_T32 l0 x30_1).f4)] 32 (0, 0)) (by (with_reducible repeat (first | refine kN ?_ _ | refine kD ?_ | refine kA ?_ _)); refine blk_put (cs := #[.int .i64 ((rd_T32 l0 x30_1).f0), .int .i64 ((rd_T32 l0 x30_1).f1), .int .i64 ((rd_T32 l0 x30_1).f2), .int .i64 ((rd_T32 l0 x30_1).f3), .int .i64 0]) ?_ 4 _ rfl; (with_reducible repeat (first | refine kN ?_ _ | refine kD ?_ | refine kA ?_ _)); refine blk_put (cs := #[.int .i64 ((rd_T32 l0 x30_1).f0), .int .i64 ((rd_T32 l0 x30_1).f1), .int .i64 ((rd_T32 l0 x30_1).f2), .int .i64 0, .int .i64 0]) ?_ 3 _ rfl; (with_reducible repeat (first | refine kN ?_ _ | refine kD ?_ | refine kA ?_ _)); refine blk_put (cs := #[.int .i64 ((rd_T32 l0 x30_1).f0), .int .i64 ((rd_T32 l0 x30_1).f1), .int .i64 0, .int .i64 0, .int .i64 0]) ?_ 2 _ rfl; (with_reducible repeat (first | refine kN ?_ _ | refine kD ?_ | refine kA ?_ _)); refine blk_put (cs := #[.int .i64 ((rd_T32 l0 x30_1).f0), .int .i64 0, .int .i64 0, .int .i64 0, .int .i64 0]) ?_ 1 _ rfl; (with_reducible repeat (first | refine kN ?_ _ | refine kD ?_ | refine kA ?_ _)); refine blk_put (cs := #[.int .i64 0, .int .i64 0, .int .i64 0, .int .i64 0, .int .i64 0]) ?_ 0 _ rfl; (with_reducible repeat (first | refine kN ?_ _ | refine kD ?_ | refine kA ?_ _)); exact BK257.out) k_ hk_.1)⟩)) (below_size (by repeat (first | (with_reducible first | exact HB.out | apply bA | apply bN | apply bD | refine bS ?_ GE255.out | refine bS ?_ GE257.out) | exact HB.out)))); have n3_ := aM (Kd.V_lower (Kd.V_mono (ok' := fun k_ => some k_ ≠ (v272 : Value).ownBlock ∧ k_ ≠ gb255 ∧ k_ ≠ gb257) ho1 (fun k_ hk_ => ⟨hk_.2, (Kd.freshB (g := gb255) (o := .cells #[.int .i64 x256000_1, .int .i64 x256001_1, .int .i64 x256002_1, .int .i64 x256003_1, .int .i64 x256004_1, .int .i64 x256005_1, .int .i64 x256006_1, .slice Ao26 x256007_1.length co26, .slice Ao27 x256008_1.length co27] 28 (0, 0)) (by (with_reducible repeat (first | refine kN ?_ _ | refine kD ?_ | refine kA ?_ _)); refine blk_far ?_ NB255_257.out _; (with_reducible repeat (first | refine kN ?_ _ | refine kD ?_ | refine kA ?_ _)); refine blk_far ?_ NB255_257.out _; (with_reducible repeat (first | refine kN ?_ _ | refine kD ?_ | refine kA ?_ _)); refine blk_far ?_ NB255_257.out _; (with_reducible repeat (first | refine kN ?_ _ | refine kD ?_ | refine kA ?_ _)); refine blk_far ?_ NB255_257.out _; (with_reducible repeat (first | refine kN ?_ _ | refine kD ?_ | refine kA ?_ _)); refine blk_far ?_ NB255_257.out _; (with_reducible repeat (first | refine kN ?_ _ | refine kD ?_ | refine kA ?_ _)); exact BK255.out) k_ hk_.1), (Kd.freshB (g := gb257) (o := .cells #[.int .i64 ((rd_T32 l0 x30_1).f0), .int .i64 ((rd_T32 l0 x30_1).f1), .int .i64 ((rd_T32 l0 x30_1).f2), .int .i64 ((rd_T32 l0 x30_1).f3), .int .i64 ((rd_T32 l0 x30_1).f4)] 32 (0, 0)) (by (with_reducible repeat (first | refine kN ?_ _ | refine kD ?_ | refine kA ?_ _)); refine blk_put (cs := #[.int .i64 ((rd_T32 l0 x30_1).f0), .int .i64 ((rd_T32 l0 x30_1).f1), .int .i64 ((rd_T32 l0 x30_1).f2), .int .i64 ((rd_T32 l0 x30_1).f3), .int .i64 0]) ?_ 4 _ rfl; (with_reducible repeat (first | refine kN ?_ _ | refine kD ?_ | refine kA ?_ _)); refine blk_put (cs := #[.int .i64 ((rd_T32 l0 x30_1).f0), .int .i64 ((rd_T32 l0 x30_1).f1), .int .i64 ((rd_T32 l0 x30_1).f2), .int .i64 0, .int .i64 0]) ?_ 3 _ rfl; (with_reducible repeat (first | refine kN ?_ _ | refine kD ?_ | refine kA ?_ _)); refine blk_put (cs := #[.int .i64 ((rd_T32 l0 x30_1).f0), .int .i64 ((rd_T32 l0 x30_1).f1), .int .i64 0, .int .i64 0, .int .i64 0]) ?_ 2 _ rfl; (with_reducible repeat (first | refine kN ?_ _ | refine kD ?_ | refine kA ?_ _)); refine blk_put (cs := #[.int .i64 ((rd_T32 l0 x30_1).f0), .int .i64 0, .int .i64 0, .int .i64 0, .int .i64 0]) ?_ 1 _ rfl; (with_reducible repeat (first | refine kN ?_ _ | refine kD ?_ | refine kA ?_ _)); refine blk_put (cs := #[.int .i64 0, .int .i64 0, .int .i64 0, .int .i64 0, .int .i64 0]) ?_ 0 _ rfl; (with_reducible repeat (first | refine kN ?_ _ | refine kD ?_ | refine kA ?_ _)); exact BK257.out) k_ hk_.1)⟩)) (below_size (by repeat (first | (with_reducible first | exact HB.out | apply bA | apply bN | apply bD | refine bS ?_ GE255.out | refine bS ?_ GE257.out) | exact HB.out)))); have n4_ := aM (Kd.R_lower (Kd.R_mono (ok' := fun k_ => True) ho2 (fun _ hk_ => trivial)) (below_size (by repeat (first | (with_reducible first | exact HB.out | apply bA | apply bN | apply bD | refine bS ?_ GE255.out | refine bS ?_ GE257.out) | exact HB.out)))); have n5_ := aM (blk_below (g := gb255) (o := .cells #[.int .i64 x256000_1, .int .i64 x256001_1, .int .i64 x256002_1, .int .i64 x256003_1, .int .i64 x256004_1, .int .i64 x256005_1, .int .i64 x256006_1, .slice Ao26 x256007_1.length co26, .slice Ao27 x256008_1.length co27] 28 (0, 0)) (by (with_reducible repeat (first | refine kN ?_ _ | refine kD ?_ | refine kA ?_ _)); refine blk_far ?_ NB255_257.out _; (with_reducible repeat (first | refine kN ?_ _ | refine kD ?_ | refine kA ?_ _)); refine blk_far ?_ NB255_257.out _; (with_reducible repeat (first | refine kN ?_ _ | refine kD ?_ | refine kA ?_ _)); refine blk_far ?_ NB255_257.out _; (with_reducible repeat (first | refine kN ?_ _ | refine kD ?_ | refine kA ?_ _)); refine blk_far ?_ NB255_257.out _; (with_reducible repeat (first | refine kN ?_ _ | refine kD ?_ | refine kA ?_ _)); refine blk_far ?_ NB255_257.out _; (with_reducible repeat (first | refine kN ?_ _ | refine kD ?_ | refine kA ?_ _)); exact BK255.out) hb); have n6_ := aM (blk_below (g := gb257) (o := .cells #[.int .i64 ((rd_T32 l0 x30_1).f0), .int .i64 ((rd_T32 l0 x30_1).f1), .int .i64 ((rd_T32 l0 x30_1).f2), .int .i64 ((rd_T32 l0 x30_1).f3), .int .i64 ((rd_T32 l0 x30_1).f4)] 32 (0, 0)) (by (with_reducible repeat (first | refine kN ?_ _ | refine kD ?_ | refine kA ?_ _)); refine blk_put (cs := #[.int .i64 ((rd_T32 l0 x30_1).f0), .int .i64 ((rd_T32 l0 x30_1).f1), .int .i64 ((rd_T32 l0 x30_1).f2), .int .i64 ((rd_T32 l0 x30_1).f3), .int .i64 0]) ?_ 4 _ rfl; (with_reducible repeat (first | refine kN ?_ _ | refine kD ?_ | refine kA ?_ _)); refine blk_put (cs := #[.int .i64 ((rd_T32 l0 x30_1).f0), .int .i64 ((rd_T32 l0 x30_1).f1), .int .i64 ((rd_T32 l0 x30_1).f2), .int .i64 0, .int .i64 0]) ?_ 3 _ rfl; (with_reducible repeat (first | refine kN ?_ _ | refine kD ?_ | refine kA ?_ _)); refine blk_put (cs := #[.int .i64 ((rd_T32 l0 x30_1).f0), .int .i64 ((rd_T32 l0 x30_1).f1), .int .i64 0, .int .i64 0, .int .i64 0]) ?_ 2 _ rfl; (with_reducible repeat (first | refine kN ?_ _ | refine kD ?_ | refine kA ?_ _)); refine blk_put (cs := #[.int .i64 ((rd_T32 l0 x30_1).f0), .int .i64 0, .int .i64 0, .int .i64 0, .int .i64 0]) ?_ 1 _ rfl; (with_reducible repeat (first | refine kN ?_ _ | refine kD ?_ | refine kA ?_ _)); refine blk_put (cs := #[.int .i64 0, .int .i64 0, .int .i64 0, .int .i64 0, .int .i64 0]) ?_ 0 _ rfl; (with_reducible repeat (first | refine kN ?_ _ | refine kD ?_ | refine kA ?_ _)); exact BK257.out) hb); have n7_ := aM (below_step (by repeat (first | (with_reducible first | exact HB.out | apply bA | apply bN | apply bD | refine bS ?_ GE255.out | refine bS ?_ GE257.out) | exact HB.out)) hb); clear HO_256007; clear HO_256008; clear BK255; clear BK257; clear HB; have HO_256007 := n0_; have HO_256008 := n1_; have HO267 := n2_; have HO270 := n3_; have HO273 := n4_; have BK255 := n5_; have BK257 := n6_; have HB := n7_; clear n0_ n1_ n2_ n3_ n4_ n5_ n6_ n7_; (try clear hb); (try clear ho0); (try clear ho1); (try clear ho2)) | ((with_reducible refine gate_dst (N := 7) rfl ?_); refine box_event ?hg (N := 7) ?hd (cs := #[.int .i64 0, .int .i64 0, .int .i64 0, .int .i64 0, .int .i64 0, .int .i64 0, .int .i64 0, .slice none 0 0, .slice none 0 0]) (t := 28) ?hr ?_; (case hd => rfl); (case hg => rfl); (case hr => first | (go_simp; done) | (go_simp; rfl)); intro gb275 hg w29 hbox hb; have n0_ := aM (Kd.V_below (Kd.V_elderB (by (with_reducible repeat (first | apply Kd.V_alloc | apply Kd.V_drewN | apply Kd.V_drew)); exact HO_256007.out) gb275 (Nat.le_of_eq hg.symm)) hb); have n1_ := aM (Kd.V_below (Kd.V_elderB (by (with_reducible repeat (first | apply Kd.V_alloc | apply Kd.V_drewN | apply Kd.V_drew)); exact HO_256008.out) gb275 (Nat.le_of_eq hg.symm)) hb); have n2_ := aM (Kd.V_below (Kd.V_elderB (by (with_reducible repeat (first | apply Kd.V_alloc | apply Kd.V_drewN | apply Kd.V_drew)); exact HO267.out) gb275 (Nat.le_of_eq hg.symm)) hb); have n3_ := aM (Kd.V_below (Kd.V_elderB (by (with_reducible repeat (first | apply Kd.V_alloc | apply Kd.V_drewN | apply Kd.V_drew)); exact HO270.out) gb275 (Nat.le_of_eq hg.symm)) hb); have n4_ := aM (Kd.R_below (by (with_reducible repeat (first | apply Kd.R_alloc | apply Kd.R_drewN | apply Kd.R_drew)); exact HO273.out) hb); have n5_ := aM (blk_below (g := gb255) (o := .cells #[.int .i64 x256000_1, .int .i64 x256001_1, .int .i64 x256002_1, .int .i64 x256003_1, .int .i64 x256004_1, .int .i64 x256005_1, .int .i64 x256006_1, .slice Ao26 x256007_1.length co26, .slice Ao27 x256008_1.length co27] 28 (0, 0)) (by (with_reducible repeat (first | refine kN ?_ _ | refine kD ?_ | refine kA ?_ _)); exact BK255.out) hb); have n6_ := aM (blk_below (g := gb257) (o := .cells #[.int .i64 ((rd_T32 l0 x30_1).f0), .int .i64 ((rd_T32 l0 x30_1).f1), .int .i64 ((rd_T32 l0 x30_1).f2), .int .i64 ((rd_T32 l0 x30_1).f3), .int .i64 ((rd_T32 l0 x30_1).f4)] 32 (0, 0)) (by (with_reducible repeat (first | refine kN ?_ _ | refine kD ?_ | refine kA ?_ _)); exact BK257.out) hb); have n7_ := aM (below_step (by repeat (first | (with_reducible first | exact HB.out | apply bA | apply bN | apply bD | refine bS ?_ GE255.out | refine bS ?_ GE257.out) | exact HB.out)) hb); have n8_ := aM (hbox); have n9_ := aM ((by rw [hg]; exact (below_size (by repeat (first | (with_reducible first | exact HB.out | apply bA | apply bN | apply bD | refine bS ?_ GE255.out | refine bS ?_ GE257.out) | exact HB.out))) : w.heap.size ≤ gb275)); have n10_ := aM ((by rw [hg]; exact (below_size (by repeat (first | (with_reducible first | exact HB.out | apply bA | apply bN | apply bD | refine bS ?_ GE255.out | refine bS ?_ GE257.out) | exact HB.out))) : w.heap.size ≤ gb275)); have n11_ := aM ((by rw [hg]; exact Nat.ne_of_lt (blk_lt (g := gb255) (o := .cells #[.int .i64 x256000_1, .int .i64 x256001_1, .int .i64 x256002_1, .int .i64 x256003_1, .int .i64 x256004_1, .int .i64 x256005_1, .int .i64 x256006_1, .slice Ao26 x256007_1.length co26, .slice Ao27 x256008_1.length co27] 28 (0, 0)) (by (with_reducible repeat (first | refine kN ?_ _ | refine kD ?_ | refine kA ?_ _)); exact BK255.out)) : gb255 ≠ gb275)); have n12_ := aM ((by rw [hg]; exact Nat.ne_of_gt (blk_lt (g := gb255) (o := .cells #[.int .i64 x256000_1, .int .i64 x256001_1, .int .i64 x256002_1, .int .i64 x256003_1, .int .i64 x256004_1, .int .i64 x256005_1, .int .i64 x256006_1, .slice Ao26 x256007_1.length co26, .slice Ao27 x256008_1.length co27] 28 (0, 0)) (by (with_reducible repeat (first | refine kN ?_ _ | refine kD ?_ | refine kA ?_ _)); exact BK255.out)) : gb275 ≠ gb255)); have n13_ := aM ((by rw [hg]; exact Nat.ne_of_lt (blk_lt (g := gb257) (o := .cells #[.int .i64 ((rd_T32 l0 x30_1).f0), .int .i64 ((rd_T32 l0 x30_1).f1), .int .i64 ((rd_T32 l0 x30_1).f2), .int .i64 ((rd_T32 l0 x30_1).f3), .int .i64 ((rd_T32 l0 x30_1).f4)] 32 (0, 0)) (by (with_reducible repeat (first | refine kN ?_ _ | refine kD ?_ | refine kA ?_ _)); exact BK257.out)) : gb257 ≠ gb275)); have n14_ := aM ((by rw [hg]; exact Nat.ne_of_gt (blk_lt (g := gb257) (o := .cells #[.int .i64 ((rd_T32 l0 x30_1).f0), .int .i64 ((rd_T32 l0 x30_1).f1), .int .i64 ((rd_T32 l0 x30_1).f2), .int .i64 ((rd_T32 l0 x30_1).f3), .int .i64 ((rd_T32 l0 x30_1).f4)] 32 (0, 0)) (by (with_reducible repeat (first | refine kN ?_ _ | refine kD ?_ | refine kA ?_ _)); exact BK257.out)) : gb275 ≠ gb257)); clear HO_256007; clear HO_256008; clear HO267; clear HO270; clear HO273; clear BK255; clear BK257; clear HB; have HO_256007 := n0_; have HO_256008 := n1_; have HO267 := n2_; have HO270 := n3_; have HO273 := n4_; have BK255 := n5_; have BK257 := n6_; have HB := n7_; have BK275 := n8_; have GW275 := n9_; have GE275 := n10_; have NB255_275 := n11_; have NB275_255 := n12_; have NB257_275 := n13_; have NB275_257 := n14_; clear n0_ n1_ n2_ n3_ n4_ n5_ n6_ n7_ n8_ n9_ n10_ n11_ n12_ n13_ n14_; clear hb hbox hg; have hnb30 := NB275_255.out; have hnc30 := NB255_275.out; have hnb31 := NB275_257.out; have hnc31 := NB257_275.out; obtain ⟨hcz32_0, hcz32_1, hcz32_2, hcz32_3, hcz32_4, hcz32_5, hcz32_6, hcz32_7, hcz32_8⟩ := cells9 BK275.out; obtain ⟨hfz32_0, hfz32_1, hfz32_2, hfz32_3, hfz32_4, hfz32_5, hfz32_6, hfz32_7, hfz32_8⟩ := froz9 BK275.out; obtain ⟨Ao33, co33, eo33⟩ := Kd.V_slice HO267.out; subst eo33; obtain ⟨Ao34, co34, eo34⟩ := Kd.V_slice HO270.out; subst eo34; obtain ⟨hcz35_0, hcz35_1, hcz35_2, hcz35_3, hcz35_4, hcz35_5, hcz35_6, hcz35_7, hcz35_8⟩ := cells9 BK255.out; obtain ⟨hfz35_0, hfz35_1, hfz35_2, hfz35_3, hfz35_4, hfz35_5, hfz35_6, hfz35_7, hfz35_8⟩ := froz9 BK255.out))
         go_roundg k1
         case measure => have := HK1.out; omega
         case rel => exact ⟨(wrap64 (x30_1 + 1)), (t258), (t259), (t260), (t261), (t262), (t263), (t264), (t265), (t268), (.slice Ao33 t265.length co33), (.slice Ao34 t268.length co34), (by first | rfl | (simp; done) | (simp [*]; done)), H', ⟨by have := HK1.out; omega⟩, ⟨by (with_reducible repeat (first | apply Kd.V_alloc | apply Kd.V_drewN | apply Kd.V_drew)); exact Kd.V_mono (Kd.V_far9 (g := gb255) (Kd.V_far9 (g := gb275) (Kd.V_mono (Kd.V_mono HO267.out (fun k_ hk => (⟨hk, hk.2⟩ : _ ∧ k_ ≠ gb275))) (fun k_ hk => (⟨hk, hk.1.1.2.1⟩ : _ ∧ k_ ≠ gb255))) (fun _ hk => hk.1.2) (.int .i64 t258) (.int .i64 t259) (.int .i64 t260) (.int .i64 t261) (.int .i64 t262) (.int .i64 t263) (.int .i64 t264) (.slice Ao33 t265.length co33) (.slice Ao34 t268.length co34)) (fun _ hk => hk.2) (.int .i64 t258) (.int .i64 t259) (.int .i64 t260) (.int .i64 t261) (.int .i64 t262) (.int .i64 t263) (.int .i64 t264) (.slice Ao33 t265.length co33) (.slice Ao34 t268.length co34)) (fun _ hk => hk.1.1.1.2.1)⟩, ⟨by (with_reducible repeat (first | apply Kd.V_alloc | apply Kd.V_drewN | apply Kd.V_drew)); exact Kd.V_mono (Kd.V_far9 (g := gb255) (Kd.V_far9 (g := gb275) (Kd.V_mono (Kd.V_mono HO270.out (fun k_ hk => (⟨hk, hk.2⟩ : _ ∧ k_ ≠ gb275))) (fun k_ hk => (⟨hk, hk.1.1.2.1⟩ : _ ∧ k_ ≠ gb255))) (fun _ hk => hk.1.2) (.int .i64 t258) (.int .i64 t259) (.int .i64 t260) (.int .i64 t261) (.int .i64 t262) (.int .i64 t263) (.int .i64 t264) (.slice Ao33 t265.length co33) (.slice Ao34 t268.length co34)) (fun _ hk => hk.2) (.int .i64 t258) (.int .i64 t259) (.int .i64 t260) (.int .i64 t261) (.int .i64 t262) (.int .i64 t263) (.int .i64 t264) (.slice Ao33 t265.length co33) (.slice Ao34 t268.length co34)) (fun _ hk => hk.1.1.1.2.1)⟩, ⟨by (with_reducible repeat (first | refine kN ?_ _ | refine kD ?_ | refine kA ?_ _)); refine blk_put (cs := #[.int .i64 t258, .int .i64 t259, .int .i64 t260, .int .i64 t261, .int .i64 t262, .int .i64 t263, .int .i64 t264, .slice Ao33 t265.length co33, .slice Ao27 x256008_1.length co27]) ?_ 8 _ rfl; (with_reducible repeat (first | refine kN ?_ _ | refine kD ?_ | refine kA ?_ _)); refine blk_put (cs := #[.int .i64 t258, .int .i64 t259, .int .i64 t260, .int .i64 t261, .int .i64 t262, .int .i64 t263, .int .i64 t264, .slice Ao26 x256007_1.length co26, .slice Ao27 x256008_1.length co27]) ?_ 7 _ rfl; (with_reducible repeat (first | refine kN ?_ _ | refine kD ?_ | refine kA ?_ _)); refine blk_put (cs := #[.int .i64 t258, .int .i64 t259, .int .i64 t260, .int .i64 t261, .int .i64 t262, .int .i64 t263, .int .i64 x256006_1, .slice Ao26 x256007_1.length co26, .slice Ao27 x256008_1.length co27]) ?_ 6 _ rfl; (with_reducible repeat (first | refine kN ?_ _ | refine kD ?_ | refine kA ?_ _)); refine blk_put (cs := #[.int .i64 t258, .int .i64 t259, .int .i64 t260, .int .i64 t261, .int .i64 t262, .int .i64 x256005_1, .int .i64 x256006_1, .slice Ao26 x256007_1.length co26, .slice Ao27 x256008_1.length co27]) ?_ 5 _ rfl; (with_reducible repeat (first | refine kN ?_ _ | refine kD ?_ | refine kA ?_ _)); refine blk_put (cs := #[.int .i64 t258, .int .i64 t259, .int .i64 t260, .int .i64 t261, .int .i64 x256004_1, .int .i64 x256005_1, .int .i64 x256006_1, .slice Ao26 x256007_1.length co26, .slice Ao27 x256008_1.length co27]) ?_ 4 _ rfl; (with_reducible repeat (first | refine kN ?_ _ | refine kD ?_ | refine kA ?_ _)); refine blk_put (cs := #[.int .i64 t258, .int .i64 t259, .int .i64 t260, .int .i64 x256003_1, .int .i64 x256004_1, .int .i64 x256005_1, .int .i64 x256006_1, .slice Ao26 x256007_1.length co26, .slice Ao27 x256008_1.length co27]) ?_ 3 _ rfl; (with_reducible repeat (first | refine kN ?_ _ | refine kD ?_ | refine kA ?_ _)); refine blk_put (cs := #[.int .i64 t258, .int .i64 t259, .int .i64 x256002_1, .int .i64 x256003_1, .int .i64 x256004_1, .int .i64 x256005_1, .int .i64 x256006_1, .slice Ao26 x256007_1.length co26, .slice Ao27 x256008_1.length co27]) ?_ 2 _ rfl; (with_reducible repeat (first | refine kN ?_ _ | refine kD ?_ | refine kA ?_ _)); refine blk_put (cs := #[.int .i64 t258, .int .i64 x256001_1, .int .i64 x256002_1, .int .i64 x256003_1, .int .i64 x256004_1, .int .i64 x256005_1, .int .i64 x256006_1, .slice Ao26 x256007_1.length co26, .slice Ao27 x256008_1.length co27]) ?_ 1 _ rfl; (with_reducible repeat (first | refine kN ?_ _ | refine kD ?_ | refine kA ?_ _)); refine blk_put (cs := #[.int .i64 x256000_1, .int .i64 x256001_1, .int .i64 x256002_1, .int .i64 x256003_1, .int .i64 x256004_1, .int .i64 x256005_1, .int .i64 x256006_1, .slice Ao26 x256007_1.length co26, .slice Ao27 x256008_1.length co27]) ?_ 0 _ rfl; (with_reducible repeat (first | refine kN ?_ _ | refine kD ?_ | refine kA ?_ _)); refine blk_far ?_ NB255_275.out _; (with_reducible repeat (first | refine kN ?_ _ | refine kD ?_ | refine kA ?_ _)); refine blk_far ?_ NB255_275.out _; (with_reducible repeat (first | refine kN ?_ _ | refine kD ?_ | refine kA ?_ _)); refine blk_far ?_ NB255_275.out _; (with_reducible repeat (first | refine kN ?_ _ | refine kD ?_ | refine kA ?_ _)); refine blk_far ?_ NB255_275.out _; (with_reducible repeat (first | refine kN ?_ _ | refine kD ?_ | refine kA ?_ _)); refine blk_far ?_ NB255_275.out _; (with_reducible repeat (first | refine kN ?_ _ | refine kD ?_ | refine kA ?_ _)); refine blk_far ?_ NB255_275.out _; (with_reducible repeat (first | refine kN ?_ _ | refine kD ?_ | refine kA ?_ _)); refine blk_far ?_ NB255_275.out _; (with_reducible repeat (first | refine kN ?_ _ | refine kD ?_ | refine kA ?_ _)); refine blk_far ?_ NB255_275.out _; (with_reducible repeat (first | refine kN ?_ _ | refine kD ?_ | refine kA ?_ _)); refine blk_far ?_ NB255_275.out _; (with_reducible repeat (first | refine kN ?_ _ | refine kD ?_ | refine kA ?_ _)); exact BK255.out⟩, ⟨by repeat (first | (with_reducible first | exact HB.out | apply bA | apply bN | apply bD | refine bS ?_ GE255.out | refine bS ?_ GE257.out | refine bS ?_ GE275.out) | exact HB.out)⟩⟩
        ·rw [if_neg c21] at H
         have c21b0 : (t274 == 0) = false := beq_eq_false_iff_ne.mpr c21
         have c21b1 : (t274 != 0) = true := bne_iff_ne.mpr c21
         have H' := aM H
         clear H
         have p256 : 0 ≤ (x30_1 : Int) := of_decide_eq_true (by first | (with_reducible assumption) | assumption)
         have q256 : x30_1 < (l0.length : Int) := of_decide_eq_true (by first | (with_reducible assumption) | assumption)
         obtain ⟨ad256, e256, hx256_0, hx256_1, hx256_2, hx256_3, hx256_4⟩ := at_T32 HR0.out x30_1 p256 q256
         cases e256
         replace hx256_0 := (HB.out.cell (World.block_lt_of_cell? w _ hx256_0)).trans hx256_0
         replace hx256_1 := (HB.out.cell (World.block_lt_of_cell? w _ hx256_1)).trans hx256_1
         replace hx256_2 := (HB.out.cell (World.block_lt_of_cell? w _ hx256_2)).trans hx256_2
         replace hx256_3 := (HB.out.cell (World.block_lt_of_cell? w _ hx256_3)).trans hx256_3
         replace hx256_4 := (HB.out.cell (World.block_lt_of_cell? w _ hx256_4)).trans hx256_4
         replace p256 := eq_true p256
         replace q256 := eq_true q256
         go_wp2_with (first | ((with_reducible refine gate_dst (N := 6) rfl ?_); refine box_event ?hg (N := 6) ?hd (cs := #[.int .i64 0, .int .i64 0, .int .i64 0, .int .i64 0, .int .i64 0]) (t := 32) ?hr ?_; (case hd => rfl); (case hg => rfl); (case hr => first | (go_simp; done) | (go_simp; rfl)); intro gb257 hg w36 hbox hb; have n0_ := aM (Kd.V_below (Kd.V_elderB (by (with_reducible repeat (first | apply Kd.V_alloc | apply Kd.V_drewN | apply Kd.V_drew)); exact HO_256007.out) gb257 (Nat.le_of_eq hg.symm)) hb); have n1_ := aM (Kd.V_below (Kd.V_elderB (by (with_reducible repeat (first | apply Kd.V_alloc | apply Kd.V_drewN | apply Kd.V_drew)); exact HO_256008.out) gb257 (Nat.le_of_eq hg.symm)) hb); have n2_ := aM (blk_below (g := gb255) (o := .cells #[.int .i64 x256000_1, .int .i64 x256001_1, .int .i64 x256002_1, .int .i64 x256003_1, .int .i64 x256004_1, .int .i64 x256005_1, .int .i64 x256006_1, u256007, u256008] 28 (0, 0)) (by (with_reducible repeat (first | refine kN ?_ _ | refine kD ?_ | refine kA ?_ _)); exact BK255.out) hb); have n3_ := aM (below_step (by repeat (first | (with_reducible first | exact HB.out | apply bA | apply bN | apply bD | refine bS ?_ GE255.out) | exact HB.out)) hb); have n4_ := aM (hbox); have n5_ := aM ((by rw [hg]; exact (below_size (by repeat (first | (with_reducible first | exact HB.out | apply bA | apply bN | apply bD | refine bS ?_ GE255.out) | exact HB.out))) : w.heap.size ≤ gb257)); have n6_ := aM ((by rw [hg]; exact (below_size (by repeat (first | (with_reducible first | exact HB.out | apply bA | apply bN | apply bD | refine bS ?_ GE255.out) | exact HB.out))) : w.heap.size ≤ gb257)); have n7_ := aM ((by rw [hg]; exact Nat.ne_of_lt (blk_lt (g := gb255) (o := .cells #[.int .i64 x256000_1, .int .i64 x256001_1, .int .i64 x256002_1, .int .i64 x256003_1, .int .i64 x256004_1, .int .i64 x256005_1, .int .i64 x256006_1, u256007, u256008] 28 (0, 0)) (by (with_reducible repeat (first | refine kN ?_ _ | refine kD ?_ | refine kA ?_ _)); exact BK255.out)) : gb255 ≠ gb257)); have n8_ := aM ((by rw [hg]; exact Nat.ne_of_gt (blk_lt (g := gb255) (o := .cells #[.int .i64 x256000_1, .int .i64 x256001_1, .int .i64 x256002_1, .int .i64 x256003_1, .int .i64 x256004_1, .int .i64 x256005_1, .int .i64 x256006_1, u256007, u256008] 28 (0, 0)) (by (with_reducible repeat (first | refine kN ?_ _ | refine kD ?_ | refine kA ?_ _)); exact BK255.out)) : gb257 ≠ gb255)); clear HO_256007; clear HO_256008; clear BK255; clear HB; have HO_256007 := n0_; have HO_256008 := n1_; have BK255 := n2_; have HB := n3_; have BK257 := n4_; have GW257 := n5_; have GE257 := n6_; have NB255_257 := n7_; have NB257_255 := n8_; clear n0_ n1_ n2_ n3_ n4_ n5_ n6_ n7_ n8_; clear hb hbox hg; have hnb37 := NB257_255.out; have hnc37 := NB255_257.out; obtain ⟨hcz38_0, hcz38_1, hcz38_2, hcz38_3, hcz38_4⟩ := cells5 BK257.out; obtain ⟨hfz38_0, hfz38_1, hfz38_2, hfz38_3, hfz38_4⟩ := froz5 BK257.out; obtain ⟨hcz39_0, hcz39_1, hcz39_2, hcz39_3, hcz39_4, hcz39_5, hcz39_6, hcz39_7, hcz39_8⟩ := cells9 BK255.out; obtain ⟨hfz39_0, hfz39_1, hfz39_2, hfz39_3, hfz39_4, hfz39_5, hfz39_6, hfz39_7, hfz39_8⟩ := froz9 BK255.out; obtain ⟨Ao40, co40, eo40⟩ := Kd.V_slice HO_256007.out; subst eo40; obtain ⟨Ao41, co41, eo41⟩ := Kd.V_slice HO_256008.out; subst eo41) | ((with_reducible refine gate_callee (f := 14) rfl ?_); refine goesL_ (some 41) rfl rfl Try.func14 (by kernel_rfl) rfl #[.agg #[.int .i64 x256000_1, .int .i64 x256001_1, .int .i64 x256002_1, .int .i64 x256003_1, .int .i64 x256004_1, .int .i64 x256005_1, .int .i64 x256006_1, .slice Ao40 x256007_1.length co40, .slice Ao41 x256008_1.length co41], .agg #[.int .i64 ((rd_T32 l0 x30_1).f0), .int .i64 ((rd_T32 l0 x30_1).f1), .int .i64 ((rd_T32 l0 x30_1).f2), .int .i64 ((rd_T32 l0 x30_1).f3), .int .i64 ((rd_T32 l0 x30_1).f4)]] rfl (by (try simp only [List.map_toArray, List.map_cons, List.map_nil]); first | done | rfl | (simp only [List.length_drop, List.length_take]; rfl)) ?_; (with_reducible refine (floor_Do.calls8 k1 x256000_1 x256001_1 x256002_1 x256003_1 x256004_1 x256005_1 x256006_1 _ _ x256007_1 _ _ x256008_1 ((rd_T32 l0 x30_1).f0) ((rd_T32 l0 x30_1).f1) ((rd_T32 l0 x30_1).f2) ((rd_T32 l0 x30_1).f3) ((rd_T32 l0 x30_1).f4) t258 t259 t260 t261 t262 t263 t264 t265 t268 t271 t274 _ ?side1 ?side2 ?side3 ?side4 A20.out).mono ?_); (case side1 => refine (Kd.V_reads' (e := 43) (base := w.heap.size) (ok := fun k_ => (k_ ≠ gb255 ∧ k_ ≠ gb257)) (n := x256007_1.length) (c := co40) ?_).2.2; exact (by (with_reducible repeat (first | apply Kd.V_alloc | apply Kd.V_drewN | apply Kd.V_drew)); exact (Kd.V_mono (Kd.V_far5 (g := gb257) (Kd.V_mono HO_256007.out (fun k_ hk => (⟨hk, hk.2⟩ : _ ∧ k_ ≠ gb257))) (fun _ hk => hk.2) (.int .i64 ((rd_T32 l0 x30_1).f0)) (.int .i64 ((rd_T32 l0 x30_1).f1)) (.int .i64 ((rd_T32 l0 x30_1).f2)) (.int .i64 ((rd_T32 l0 x30_1).f3)) (.int .i64 ((rd_T32 l0 x30_1).f4))) (fun _ h_ => h_.1)))); (case side2 => exact (Kd.V_reads' HO_256007.out).2.1); (case side3 => refine (Kd.V_reads' (e := 3) (base := w.heap.size) (ok := fun k_ => (k_ ≠ gb255 ∧ k_ ≠ gb257)) (n := x256008_1.length) (c := co41) ?_).2.2; exact (by (with_reducible repeat (first | apply Kd.V_alloc | apply Kd.V_drewN | apply Kd.V_drew)); exact (Kd.V_mono (Kd.V_far5 (g := gb257) (Kd.V_mono HO_256008.out (fun k_ hk => (⟨hk, hk.2⟩ : _ ∧ k_ ≠ gb257))) (fun _ hk => hk.2) (.int .i64 ((rd_T32 l0 x30_1).f0)) (.int .i64 ((rd_T32 l0 x30_1).f1)) (.int .i64 ((rd_T32 l0 x30_1).f2)) (.int .i64 ((rd_T32 l0 x30_1).f3)) (.int .i64 ((rd_T32 l0 x30_1).f4))) (fun _ h_ => h_.1)))); (case side4 => exact (Kd.V_reads' HO_256008.out).2.1); rintro e w42 ⟨v266, v269, v272, rfl, ho0, ho1, ho2, hb⟩; refine ⟨_, rfl, ?_⟩; have n0_ := aM (Kd.V_elder' (by (with_reducible repeat (first | apply Kd.V_alloc | apply Kd.V_drewN | apply Kd.V_drew)); exact (Kd.V_mono (Kd.V_far5 (g := gb257) (Kd.V_mono HO_256007.out (fun k_ hk => (⟨hk, hk.2⟩ : _ ∧ k_ ≠ gb257))) (fun _ hk => hk.2) (.int .i64 ((rd_T32 l0 x30_1).f0)) (.int .i64 ((rd_T32 l0 x30_1).f1)) (.int .i64 ((rd_T32 l0 x30_1).f2)) (.int .i64 ((rd_T32 l0 x30_1).f3)) (.int .i64 ((rd_T32 l0 x30_1).f4))) (fun _ h_ => h_.1))) (Kd.R_base ho2) hb); have n1_ := aM (Kd.V_elder' (by (with_reducible repeat (first | apply Kd.V_alloc | apply Kd.V_drewN | apply Kd.V_drew)); exact (Kd.V_mono (Kd.V_far5 (g := gb257) (Kd.V_mono HO_256008.out (fun k_ hk => (⟨hk, hk.2⟩ : _ ∧ k_ ≠ gb257))) (fun _ hk => hk.2) (.int .i64 ((rd_T32 l0 x30_1).f0)) (.int .i64 ((rd_T32 l0 x30_1).f1)) (.int .i64 ((rd_T32 l0 x30_1).f2)) (.int .i64 ((rd_T32 l0 x30_1).f3)) (.int .i64 ((rd_T32 l0 x30_1).f4))) (fun _ h_ => h_.1))) (Kd.R_base ho2) hb); have n2_ := aM (Kd.V_lower (Kd.V_mono (ok' := fun k_ => some k_ ≠ (v272 : Value).ownBlock ∧ k_ ≠ gb255 ∧ k_ ≠ gb257) ho0 (fun k_ hk_ => ⟨hk_.2, (Kd.freshB (g := gb255) (o := .cells #[.int .i64 x256000_1, .int .i64 x256001_1, .int .i64 x256002_1, .int .i64 x256003_1, .int .i64 x256004_1, .int .i64 x256005_1, .int .i64 x256006_1, .slice Ao40 x256007_1.length co40, .slice Ao41 x256008_1.length co41] 28 (0, 0)) (by (with_reducible repeat (first | refine kN ?_ _ | refine kD ?_ | refine kA ?_ _)); refine blk_far ?_ NB255_257.out _; (with_reducible repeat (first | refine kN ?_ _ | refine kD ?_ | refine kA ?_ _)); refine blk_far ?_ NB255_257.out _; (with_reducible repeat (first | refine kN ?_ _ | refine kD ?_ | refine kA ?_ _)); refine blk_far ?_ NB255_257.out _; (with_reducible repeat (first | refine kN ?_ _ | refine kD ?_ | refine kA ?_ _)); refine blk_far ?_ NB255_257.out _; (with_reducible repeat (first | refine kN ?_ _ | refine kD ?_ | refine kA ?_ _)); refine blk_far ?_ NB255_257.out _; (with_reducible repeat (first | refine kN ?_ _ | refine kD ?_ | refine kA ?_ _)); exact BK255.out) k_ hk_.1), (Kd.freshB (g := gb257) (o := .cells #[.int .i64 ((rd_T32 l0 x30_1).f0), .int .i64 ((rd_T32 l0 x30_1).f1), .int .i64 ((rd_T32 l0 x30_1).f2), .int .i64 ((rd_T32 l0 x30_1).f3), .int .i64 ((rd_T32 l0 x30_1).f4)] 32 (0, 0)) (by (with_reducible repeat (first | refine kN ?_ _ | refine kD ?_ | refine kA ?_ _)); refine blk_put (cs := #[.int .i64 ((rd_T32 l0 x30_1).f0), .int .i64 ((rd_T32 l0 x30_1).f1), .int .i64 ((rd_T32 l0 x30_1).f2), .int .i64 ((rd_T32 l0 x30_1).f3), .int .i64 0]) ?_ 4 _ rfl; (with_reducible repeat (first | refine kN ?_ _ | refine kD ?_ | refine kA ?_ _)); refine blk_put (cs := #[.int .i64 ((rd_T32 l0 x30_1).f0), .int .i64 ((rd_T32 l0 x30_1).f1), .int .i64 ((rd_T32 l0 x30_1).f2), .int .i64 0, .int .i64 0]) ?_ 3 _ rfl; (with_reducible repeat (first | refine kN ?_ _ | refine kD ?_ | refine kA ?_ _)); refine blk_put (cs := #[.int .i64 ((rd_T32 l0 x30_1).f0), .int .i64 ((rd_T32 l0 x30_1).f1), .int .i64 0, .int .i64 0, .int .i64 0]) ?_ 2 _ rfl; (with_reducible repeat (first | refine kN ?_ _ | refine kD ?_ | refine kA ?_ _)); refine blk_put (cs := #[.int .i64 ((rd_T32 l0 x30_1).f0), .int .i64 0, .int .i64 0, .int .i64 0, .int .i64 0]) ?_ 1 _ rfl; (with_reducible repeat (first | refine kN ?_ _ | refine kD ?_ | refine kA ?_ _)); refine blk_put (cs := #[.int .i64 0, .int .i64 0, .int .i64 0, .int .i64 0, .int .i64 0]) ?_ 0 _ rfl; (with_reducible repeat (first | refine kN ?_ _ | refine kD ?_ | refine kA ?_ _)); exact BK257.out) k_ hk_.1)⟩)) (below_size (by repeat (first | (with_reducible first | exact HB.out | apply bA | apply bN | apply bD | refine bS ?_ GE255.out | refine bS ?_ GE257.out) | exact HB.out)))); have n3_ := aM (Kd.V_lower (Kd.V_mono (ok' := fun k_ => some k_ ≠ (v272 : Value).ownBlock ∧ k_ ≠ gb255 ∧ k_ ≠ gb257) ho1 (fun k_ hk_ => ⟨hk_.2, (Kd.freshB (g := gb255) (o := .cells #[.int .i64 x256000_1, .int .i64 x256001_1, .int .i64 x256002_1, .int .i64 x256003_1, .int .i64 x256004_1, .int .i64 x256005_1, .int .i64 x256006_1, .slice Ao40 x256007_1.length co40, .slice Ao41 x256008_1.length co41] 28 (0, 0)) (by (with_reducible repeat (first | refine kN ?_ _ | refine kD ?_ | refine kA ?_ _)); refine blk_far ?_ NB255_257.out _; (with_reducible repeat (first | refine kN ?_ _ | refine kD ?_ | refine kA ?_ _)); refine blk_far ?_ NB255_257.out _; (with_reducible repeat (first | refine kN ?_ _ | refine kD ?_ | refine kA ?_ _)); refine blk_far ?_ NB255_257.out _; (with_reducible repeat (first | refine kN ?_ _ | refine kD ?_ | refine kA ?_ _)); refine blk_far ?_ NB255_257.out _; (with_reducible repeat (first | refine kN ?_ _ | refine kD ?_ | refine kA ?_ _)); refine blk_far ?_ NB255_257.out _; (with_reducible repeat (first | refine kN ?_ _ | refine kD ?_ | refine kA ?_ _)); exact BK255.out) k_ hk_.1), (Kd.freshB (g := gb257) (o := .cells #[.int .i64 ((rd_T32 l0 x30_1).f0), .int .i64 ((rd_T32 l0 x30_1).f1), .int .i64 ((rd_T32 l0 x30_1).f2), .int .i64 ((rd_T32 l0 x30_1).f3), .int .i64 ((rd_T32 l0 x30_1).f4)] 32 (0, 0)) (by (with_reducible repeat (first | refine kN ?_ _ | refine kD ?_ | refine kA ?_ _)); refine blk_put (cs := #[.int .i64 ((rd_T32 l0 x30_1).f0), .int .i64 ((rd_T32 l0 x30_1).f1), .int .i64 ((rd_T32 l0 x30_1).f2), .int .i64 ((rd_T32 l0 x30_1).f3), .int .i64 0]) ?_ 4 _ rfl; (with_reducible repeat (first | refine kN ?_ _ | refine kD ?_ | refine kA ?_ _)); refine blk_put (cs := #[.int .i64 ((rd_T32 l0 x30_1).f0), .int .i64 ((rd_T32 l0 x30_1).f1), .int .i64 ((rd_T32 l0 x30_1).f2), .int .i64 0, .int .i64 0]) ?_ 3 _ rfl; (with_reducible repeat (first | refine kN ?_ _ | refine kD ?_ | refine kA ?_ _)); refine blk_put (cs := #[.int .i64 ((rd_T32 l0 x30_1).f0), .int .i64 ((rd_T32 l0 x30_1).f1), .int .i64 0, .int .i64 0, .int .i64 0]) ?_ 2 _ rfl; (with_reducible repeat (first | refine kN ?_ _ | refine kD ?_ | refine kA ?_ _)); refine blk_put (cs := #[.int .i64 ((rd_T32 l0 x30_1).f0), .int .i64 0, .int .i64 0, .int .i64 0, .int .i64 0]) ?_ 1 _ rfl; (with_reducible repeat (first | refine kN ?_ _ | refine kD ?_ | refine kA ?_ _)); refine blk_put (cs := #[.int .i64 0, .int .i64 0, .int .i64 0, .int .i64 0, .int .i64 0]) ?_ 0 _ rfl; (with_reducible repeat (first | refine kN ?_ _ | refine kD ?_ | refine kA ?_ _)); exact BK257.out) k_ hk_.1)⟩)) (below_size (by repeat (first | (with_reducible first | exact HB.out | apply bA | apply bN | apply bD | refine bS ?_ GE255.out | refine bS ?_ GE257.out) | exact HB.out)))); have n4_ := aM (Kd.R_lower (Kd.R_mono (ok' := fun k_ => True) ho2 (fun _ hk_ => trivial)) (below_size (by repeat (first | (with_reducible first | exact HB.out | apply bA | apply bN | apply bD | refine bS ?_ GE255.out | refine bS ?_ GE257.out) | exact HB.out)))); have n5_ := aM (blk_below (g := gb255) (o := .cells #[.int .i64 x256000_1, .int .i64 x256001_1, .int .i64 x256002_1, .int .i64 x256003_1, .int .i64 x256004_1, .int .i64 x256005_1, .int .i64 x256006_1, .slice Ao40 x256007_1.length co40, .slice Ao41 x256008_1.length co41] 28 (0, 0)) (by (with_reducible repeat (first | refine kN ?_ _ | refine kD ?_ | refine kA ?_ _)); refine blk_far ?_ NB255_257.out _; (with_reducible repeat (first | refine kN ?_ _ | refine kD ?_ | refine kA ?_ _)); refine blk_far ?_ NB255_257.out _; (with_reducible repeat (first | refine kN ?_ _ | refine kD ?_ | refine kA ?_ _)); refine blk_far ?_ NB255_257.out _; (with_reducible repeat (first | refine kN ?_ _ | refine kD ?_ | refine kA ?_ _)); refine blk_far ?_ NB255_257.out _; (with_reducible repeat (first | refine kN ?_ _ | refine kD ?_ | refine kA ?_ _)); refine blk_far ?_ NB255_257.out _; (with_reducible repeat (first | refine kN ?_ _ | refine kD ?_ | refine kA ?_ _)); exact BK255.out) hb); have n6_ := aM (blk_below (g := gb257) (o := .cells #[.int .i64 ((rd_T32 l0 x30_1).f0), .int .i64 ((rd_T32 l0 x30_1).f1), .int .i64 ((rd_T32 l0 x30_1).f2), .int .i64 ((rd_T32 l0 x30_1).f3), .int .i64 ((rd_T32 l0 x30_1).f4)] 32 (0, 0)) (by (with_reducible repeat (first | refine kN ?_ _ | refine kD ?_ | refine kA ?_ _)); refine blk_put (cs := #[.int .i64 ((rd_T32 l0 x30_1).f0), .int .i64 ((rd_T32 l0 x30_1).f1), .int .i64 ((rd_T32 l0 x30_1).f2), .int .i64 ((rd_T32 l0 x30_1).f3), .int .i64 0]) ?_ 4 _ rfl; (with_reducible repeat (first | refine kN ?_ _ | refine kD ?_ | refine kA ?_ _)); refine blk_put (cs := #[.int .i64 ((rd_T32 l0 x30_1).f0), .int .i64 ((rd_T32 l0 x30_1).f1), .int .i64 ((rd_T32 l0 x30_1).f2), .int .i64 0, .int .i64 0]) ?_ 3 _ rfl; (with_reducible repeat (first | refine kN ?_ _ | refine kD ?_ | refine kA ?_ _)); refine blk_put (cs := #[.int .i64 ((rd_T32 l0 x30_1).f0), .int .i64 ((rd_T32 l0 x30_1).f1), .int .i64 0, .int .i64 0, .int .i64 0]) ?_ 2 _ rfl; (with_reducible repeat (first | refine kN ?_ _ | refine kD ?_ | refine kA ?_ _)); refine blk_put (cs := #[.int .i64 ((rd_T32 l0 x30_1).f0), .int .i64 0, .int .i64 0, .int .i64 0, .int .i64 0]) ?_ 1 _ rfl; (with_reducible repeat (first | refine kN ?_ _ | refine kD ?_ | refine kA ?_ _)); refine blk_put (cs := #[.int .i64 0, .int .i64 0, .int .i64 0, .int .i64 0, .int .i64 0]) ?_ 0 _ rfl; (with_reducible repeat (first | refine kN ?_ _ | refine kD ?_ | refine kA ?_ _)); exact BK257.out) hb); have n7_ := aM (below_step (by repeat (first | (with_reducible first | exact HB.out | apply bA | apply bN | apply bD | refine bS ?_ GE255.out | refine bS ?_ GE257.out) | exact HB.out)) hb); clear HO_256007; clear HO_256008; clear BK255; clear BK257; clear HB; have HO_256007 := n0_; have HO_256008 := n1_; have HO267 := n2_; have HO270 := n3_; have HO273 := n4_; have BK255 := n5_; have BK257 := n6_; have HB := n7_; clear n0_ n1_ n2_ n3_ n4_ n5_ n6_ n7_; (try clear hb); (try clear ho0); (try clear ho1); (try clear ho2)) | ((with_reducible refine gate_dst (N := 7) rfl ?_); refine box_event ?hg (N := 7) ?hd (cs := #[.int .i64 0, .int .i64 0, .int .i64 0, .int .i64 0, .int .i64 0, .int .i64 0, .int .i64 0, .slice none 0 0, .slice none 0 0]) (t := 28) ?hr ?_; (case hd => rfl); (case hg => rfl); (case hr => first | (go_simp; done) | (go_simp; rfl)); intro gb275 hg w43 hbox hb; have n0_ := aM (Kd.V_below (Kd.V_elderB (by (with_reducible repeat (first | apply Kd.V_alloc | apply Kd.V_drewN | apply Kd.V_drew)); exact HO_256007.out) gb275 (Nat.le_of_eq hg.symm)) hb); have n1_ := aM (Kd.V_below (Kd.V_elderB (by (with_reducible repeat (first | apply Kd.V_alloc | apply Kd.V_drewN | apply Kd.V_drew)); exact HO_256008.out) gb275 (Nat.le_of_eq hg.symm)) hb); have n2_ := aM (Kd.V_below (Kd.V_elderB (by (with_reducible repeat (first | apply Kd.V_alloc | apply Kd.V_drewN | apply Kd.V_drew)); exact HO267.out) gb275 (Nat.le_of_eq hg.symm)) hb); have n3_ := aM (Kd.V_below (Kd.V_elderB (by (with_reducible repeat (first | apply Kd.V_alloc | apply Kd.V_drewN | apply Kd.V_drew)); exact HO270.out) gb275 (Nat.le_of_eq hg.symm)) hb); have n4_ := aM (Kd.R_below (by (with_reducible repeat (first | apply Kd.R_alloc | apply Kd.R_drewN | apply Kd.R_drew)); exact HO273.out) hb); have n5_ := aM (blk_below (g := gb255) (o := .cells #[.int .i64 x256000_1, .int .i64 x256001_1, .int .i64 x256002_1, .int .i64 x256003_1, .int .i64 x256004_1, .int .i64 x256005_1, .int .i64 x256006_1, .slice Ao40 x256007_1.length co40, .slice Ao41 x256008_1.length co41] 28 (0, 0)) (by (with_reducible repeat (first | refine kN ?_ _ | refine kD ?_ | refine kA ?_ _)); exact BK255.out) hb); have n6_ := aM (blk_below (g := gb257) (o := .cells #[.int .i64 ((rd_T32 l0 x30_1).f0), .int .i64 ((rd_T32 l0 x30_1).f1), .int .i64 ((rd_T32 l0 x30_1).f2), .int .i64 ((rd_T32 l0 x30_1).f3), .int .i64 ((rd_T32 l0 x30_1).f4)] 32 (0, 0)) (by (with_reducible repeat (first | refine kN ?_ _ | refine kD ?_ | refine kA ?_ _)); exact BK257.out) hb); have n7_ := aM (below_step (by repeat (first | (with_reducible first | exact HB.out | apply bA | apply bN | apply bD | refine bS ?_ GE255.out | refine bS ?_ GE257.out) | exact HB.out)) hb); have n8_ := aM (hbox); have n9_ := aM ((by rw [hg]; exact (below_size (by repeat (first | (with_reducible first | exact HB.out | apply bA | apply bN | apply bD | refine bS ?_ GE255.out | refine bS ?_ GE257.out) | exact HB.out))) : w.heap.size ≤ gb275)); have n10_ := aM ((by rw [hg]; exact (below_size (by repeat (first | (with_reducible first | exact HB.out | apply bA | apply bN | apply bD | refine bS ?_ GE255.out | refine bS ?_ GE257.out) | exact HB.out))) : w.heap.size ≤ gb275)); have n11_ := aM ((by rw [hg]; exact Nat.ne_of_lt (blk_lt (g := gb255) (o := .cells #[.int .i64 x256000_1, .int .i64 x256001_1, .int .i64 x256002_1, .int .i64 x256003_1, .int .i64 x256004_1, .int .i64 x256005_1, .int .i64 x256006_1, .slice Ao40 x256007_1.length co40, .slice Ao41 x256008_1.length co41] 28 (0, 0)) (by (with_reducible repeat (first | refine kN ?_ _ | refine kD ?_ | refine kA ?_ _)); exact BK255.out)) : gb255 ≠ gb275)); have n12_ := aM ((by rw [hg]; exact Nat.ne_of_gt (blk_lt (g := gb255) (o := .cells #[.int .i64 x256000_1, .int .i64 x256001_1, .int .i64 x256002_1, .int .i64 x256003_1, .int .i64 x256004_1, .int .i64 x256005_1, .int .i64 x256006_1, .slice Ao40 x256007_1.length co40, .slice Ao41 x256008_1.length co41] 28 (0, 0)) (by (with_reducible repeat (first | refine kN ?_ _ | refine kD ?_ | refine kA ?_ _)); exact BK255.out)) : gb275 ≠ gb255)); have n13_ := aM ((by rw [hg]; exact Nat.ne_of_lt (blk_lt (g := gb257) (o := .cells #[.int .i64 ((rd_T32 l0 x30_1).f0), .int .i64 ((rd_T32 l0 x30_1).f1), .int .i64 ((rd_T32 l0 x30_1).f2), .int .i64 ((rd_T32 l0 x30_1).f3), .int .i64 ((rd_T32 l0 x30_1).f4)] 32 (0, 0)) (by (with_reducible repeat (first | refine kN ?_ _ | refine kD ?_ | refine kA ?_ _)); exact BK257.out)) : gb257 ≠ gb275)); have n14_ := aM ((by rw [hg]; exact Nat.ne_of_gt (blk_lt (g := gb257) (o := .cells #[.int .i64 ((rd_T32 l0 x30_1).f0), .int .i64 ((rd_T32 l0 x30_1).f1), .int .i64 ((rd_T32 l0 x30_1).f2), .int .i64 ((rd_T32 l0 x30_1).f3), .int .i64 ((rd_T32 l0 x30_1).f4)] 32 (0, 0)) (by (with_reducible repeat (first | refine kN ?_ _ | refine kD ?_ | refine kA ?_ _)); exact BK257.out)) : gb275 ≠ gb257)); clear HO_256007; clear HO_256008; clear HO267; clear HO270; clear HO273; clear BK255; clear BK257; clear HB; have HO_256007 := n0_; have HO_256008 := n1_; have HO267 := n2_; have HO270 := n3_; have HO273 := n4_; have BK255 := n5_; have BK257 := n6_; have HB := n7_; have BK275 := n8_; have GW275 := n9_; have GE275 := n10_; have NB255_275 := n11_; have NB275_255 := n12_; have NB257_275 := n13_; have NB275_257 := n14_; clear n0_ n1_ n2_ n3_ n4_ n5_ n6_ n7_ n8_ n9_ n10_ n11_ n12_ n13_ n14_; clear hb hbox hg; have hnb44 := NB275_255.out; have hnc44 := NB255_275.out; have hnb45 := NB275_257.out; have hnc45 := NB257_275.out; obtain ⟨hcz46_0, hcz46_1, hcz46_2, hcz46_3, hcz46_4, hcz46_5, hcz46_6, hcz46_7, hcz46_8⟩ := cells9 BK275.out; obtain ⟨hfz46_0, hfz46_1, hfz46_2, hfz46_3, hfz46_4, hfz46_5, hfz46_6, hfz46_7, hfz46_8⟩ := froz9 BK275.out; obtain ⟨Ao47, co47, eo47⟩ := Kd.V_slice HO267.out; subst eo47; obtain ⟨Ao48, co48, eo48⟩ := Kd.V_slice HO270.out; subst eo48))
         go_roundg k1
         case measure => have := HK1.out; omega
         case rel => exact ⟨(wrap64 (x30_1 + 1)), (x256000_1), (x256001_1), (x256002_1), (x256003_1), (x256004_1), (x256005_1), (x256006_1), (x256007_1), (x256008_1), (.slice Ao40 x256007_1.length co40), (.slice Ao41 x256008_1.length co41), (by first | rfl | (simp; done) | (simp [*]; done)), H', ⟨by have := HK1.out; omega⟩, ⟨by (with_reducible repeat (first | apply Kd.V_alloc | apply Kd.V_drewN | apply Kd.V_drew)); exact Kd.V_mono (Kd.V_far9 (g := gb275) (Kd.V_mono HO_256007.out (fun k_ hk => (⟨hk, hk.2⟩ : _ ∧ k_ ≠ gb275))) (fun _ hk => hk.2) (.int .i64 t258) (.int .i64 t259) (.int .i64 t260) (.int .i64 t261) (.int .i64 t262) (.int .i64 t263) (.int .i64 t264) (.slice Ao47 t265.length co47) (.slice Ao48 t268.length co48)) (fun _ hk => hk.1.1.1.1)⟩, ⟨by (with_reducible repeat (first | apply Kd.V_alloc | apply Kd.V_drewN | apply Kd.V_drew)); exact Kd.V_mono (Kd.V_far9 (g := gb275) (Kd.V_mono HO_256008.out (fun k_ hk => (⟨hk, hk.2⟩ : _ ∧ k_ ≠ gb275))) (fun _ hk => hk.2) (.int .i64 t258) (.int .i64 t259) (.int .i64 t260) (.int .i64 t261) (.int .i64 t262) (.int .i64 t263) (.int .i64 t264) (.slice Ao47 t265.length co47) (.slice Ao48 t268.length co48)) (fun _ hk => hk.1.1.1.1)⟩, ⟨by (with_reducible repeat (first | refine kN ?_ _ | refine kD ?_ | refine kA ?_ _)); refine blk_far ?_ NB255_275.out _; (with_reducible repeat (first | refine kN ?_ _ | refine kD ?_ | refine kA ?_ _)); refine blk_far ?_ NB255_275.out _; (with_reducible repeat (first | refine kN ?_ _ | refine kD ?_ | refine kA ?_ _)); refine blk_far ?_ NB255_275.out _; (with_reducible repeat (first | refine kN ?_ _ | refine kD ?_ | refine kA ?_ _)); refine blk_far ?_ NB255_275.out _; (with_reducible repeat (first | refine kN ?_ _ | refine kD ?_ | refine kA ?_ _)); refine blk_far ?_ NB255_275.out _; (with_reducible repeat (first | refine kN ?_ _ | refine kD ?_ | refine kA ?_ _)); refine blk_far ?_ NB255_275.out _; (with_reducible repeat (first | refine kN ?_ _ | refine kD ?_ | refine kA ?_ _)); refine blk_far ?_ NB255_275.out _; (with_reducible repeat (first | refine kN ?_ _ | refine kD ?_ | refine kA ?_ _)); refine blk_far ?_ NB255_275.out _; (with_reducible repeat (first | refine kN ?_ _ | refine kD ?_ | refine kA ?_ _)); refine blk_far ?_ NB255_275.out _; (with_reducible repeat (first | refine kN ?_ _ | refine kD ?_ | refine kA ?_ _)); exact BK255.out⟩, ⟨by repeat (first | (with_reducible first | exact HB.out | apply bA | apply bN | apply bD | refine bS ?_ GE255.out | refine bS ?_ GE257.out | refine bS ?_ GE275.out) | exact HB.out)⟩⟩
      ·rw [if_neg c15] at H
       exact absurd H (by simp)
     ·rw [if_neg c14] at H
      exact absurd H (by simp)
    ·rw [if_neg c13] at H
     have c13b0 : decide (x30_1 < (l0.length : Int)) = false := decide_eq_false c13
     clear c13
     have H' := aM H
     clear H
     obtain ⟨hcz49_0, hcz49_1, hcz49_2, hcz49_3, hcz49_4, hcz49_5, hcz49_6, hcz49_7, hcz49_8⟩ := cells9 BK255.out
     obtain ⟨hfz49_0, hfz49_1, hfz49_2, hfz49_3, hfz49_4, hfz49_5, hfz49_6, hfz49_7, hfz49_8⟩ := froz9 BK255.out
     obtain ⟨Ao50, co50, eo50⟩ := Kd.V_slice HO_256007.out
     subst eo50
     go_wp2
     (try simp only [Act.put, List.setIfInBounds_toArray, List.set_cons_zero, List.set_cons_succ])
     go_loopg [52] k1 (fun kq v52 w' => ∃ (x52_2 : Int), v52 = .int .i64 x52_2 ∧ Aside0 (squelchlaw18_FloorServes.l1 kq t240 x256007_1 (x256007_1.length : Int) x52_2 x256000_1 x256001_1 x256002_1 x256003_1 x256004_1 x256005_1 x256006_1 x256007_1 x256008_1 = some r) ∧ Aside0 (kq ≤ k1) ∧ Aside0 (Kd.V k43 43 w' w.heap.size (fun k_ => k_ ≠ gb255) (.slice Ao50 x256007_1.length co50) x256007_1) ∧ Aside0 (Kd.V k43 43 w' w.heap.size (fun k_ => k_ ≠ gb255) (.slice Ao50 x256007_1.length co50) x256007_1) ∧ Aside0 (Kd.V (Kd.int .i64) 3 w' w.heap.size (fun k_ => k_ ≠ gb255) u256008 x256008_1) ∧ Aside0 (w'.heap[gb255]? = some (.cells #[.int .i64 x256000_1, .int .i64 x256001_1, .int .i64 x256002_1, .int .i64 x256003_1, .int .i64 x256004_1, .int .i64 x256005_1, .int .i64 x256006_1, (.slice Ao50 x256007_1.length co50), u256008] 28 (0, 0))) ∧ Aside0 (Below w.heap.size w w'))
     case atStart => exact ⟨(0), (by first | rfl | (simp; done) | (simp [*]; done)), H', ⟨Nat.le_refl _⟩, ⟨by (with_reducible repeat (first | apply Kd.V_alloc | apply Kd.V_drewN | apply Kd.V_drew)); exact HO_256007.out⟩, ⟨by (with_reducible repeat (first | apply Kd.V_alloc | apply Kd.V_drewN | apply Kd.V_drew)); exact HO_256007.out⟩, ⟨by (with_reducible repeat (first | apply Kd.V_alloc | apply Kd.V_drewN | apply Kd.V_drew)); exact HO_256008.out⟩, ⟨by (with_reducible repeat (first | refine kN ?_ _ | refine kD ?_ | refine kA ?_ _)); exact BK255.out⟩, ⟨by repeat (first | (with_reducible first | exact HB.out | apply bA | apply bN | apply bD | refine bS ?_ GE255.out) | exact HB.out)⟩⟩
     case round =>
      clear H'
      try clear c1
      try clear c2
      try clear p2
      try clear q2
      try clear hx2
      try clear c3
      try clear c4
      try clear c5
      try clear p6
      try clear c11
      try clear c12
      try clear c13
      try clear c13b0
      try clear c14
      try clear c14b0
      try clear c15
      try clear c15b0
      try clear c16
      try clear c16b0
      try clear c18
      try clear c21
      try clear c21b0
      try clear c21b1
      try clear c23
      try clear p25
      try clear q25
      try clear hx25
      try clear c30
      try clear c31
      try clear c37
      try clear c44
      try clear c45
      try clear hcz10_0
      try clear hcz10_1
      try clear hcz10_2
      try clear hcz10_3
      try clear hcz10_4
      try clear hcz10_5
      try clear hcz10_6
      try clear hcz10_7
      try clear hcz10_8
      try clear hcz19_0
      try clear hcz19_1
      try clear hcz19_2
      try clear hcz19_3
      try clear hcz19_4
      try clear hcz24_0
      try clear hcz24_1
      try clear hcz24_2
      try clear hcz24_3
      try clear hcz24_4
      try clear hcz25_0
      try clear hcz25_1
      try clear hcz25_2
      try clear hcz25_3
      try clear hcz25_4
      try clear hcz25_5
      try clear hcz25_6
      try clear hcz25_7
      try clear hcz25_8
      try clear hcz32_0
      try clear hcz32_1
      try clear hcz32_2
      try clear hcz32_3
      try clear hcz32_4
      try clear hcz32_5
      try clear hcz32_6
      try clear hcz32_7
      try clear hcz32_8
      try clear hcz35_0
      try clear hcz35_1
      try clear hcz35_2
      try clear hcz35_3
      try clear hcz35_4
      try clear hcz35_5
      try clear hcz35_6
      try clear hcz35_7
      try clear hcz35_8
      try clear hcz38_0
      try clear hcz38_1
      try clear hcz38_2
      try clear hcz38_3
      try clear hcz38_4
      try clear hcz39_0
      try clear hcz39_1
      try clear hcz39_2
      try clear hcz39_3
      try clear hcz39_4
      try clear hcz39_5
      try clear hcz39_6
      try clear hcz39_7
      try clear hcz39_8
      try clear hcz46_0
      try clear hcz46_1
      try clear hcz46_2
      try clear hcz46_3
      try clear hcz46_4
      try clear hcz46_5
      try clear hcz46_6
      try clear hcz46_7
      try clear hcz46_8
      try clear hcz49_0
      try clear hcz49_1
      try clear hcz49_2
      try clear hcz49_3
      try clear hcz49_4
      try clear hcz49_5
      try clear hcz49_6
      try clear hcz49_7
      try clear hcz49_8
      try clear hfz10_0
      try clear hfz10_1
      try clear hfz10_2
      try clear hfz10_3
      try clear hfz10_4
      try clear hfz10_5
      try clear hfz10_6
      try clear hfz10_7
      try clear hfz10_8
      try clear hfz19_0
      try clear hfz19_1
      try clear hfz19_2
      try clear hfz19_3
      try clear hfz19_4
      try clear hfz24_0
      try clear hfz24_1
      try clear hfz24_2
      try clear hfz24_3
      try clear hfz24_4
      try clear hfz25_0
      try clear hfz25_1
      try clear hfz25_2
      try clear hfz25_3
      try clear hfz25_4
      try clear hfz25_5
      try clear hfz25_6
      try clear hfz25_7
      try clear hfz25_8
      try clear hfz32_0
      try clear hfz32_1
      try clear hfz32_2
      try clear hfz32_3
      try clear hfz32_4
      try clear hfz32_5
      try clear hfz32_6
      try clear hfz32_7
      try clear hfz32_8
      try clear hfz35_0
      try clear hfz35_1
      try clear hfz35_2
      try clear hfz35_3
      try clear hfz35_4
      try clear hfz35_5
      try clear hfz35_6
      try clear hfz35_7
      try clear hfz35_8
      try clear hfz38_0
      try clear hfz38_1
      try clear hfz38_2
      try clear hfz38_3
      try clear hfz38_4
      try clear hfz39_0
      try clear hfz39_1
      try clear hfz39_2
      try clear hfz39_3
      try clear hfz39_4
      try clear hfz39_5
      try clear hfz39_6
      try clear hfz39_7
      try clear hfz39_8
      try clear hfz46_0
      try clear hfz46_1
      try clear hfz46_2
      try clear hfz46_3
      try clear hfz46_4
      try clear hfz46_5
      try clear hfz46_6
      try clear hfz46_7
      try clear hfz46_8
      try clear hfz49_0
      try clear hfz49_1
      try clear hfz49_2
      try clear hfz49_3
      try clear hfz49_4
      try clear hfz49_5
      try clear hfz49_6
      try clear hfz49_7
      try clear hfz49_8
      try clear hx256_0
      try clear hx256_1
      try clear hx256_2
      try clear hx256_3
      try clear hx256_4
      try clear p2
      try clear p256
      try clear q256
      obtain ⟨x52_2, rfl, HA, HK2, HO_50, HO_256007, HO_256008, BK255, HB⟩ := hrel
      cases gk with
      | zero => exact absurd HA.out (by simp [squelchlaw18_FloorServes.l1])
      | succ k2 =>
       have H := HA.out
       clear HA
       simp only [squelchlaw18_FloorServes.l1] at H
       by_cases c51 : x52_2 < (x256007_1.length : Int)
       ·rw [if_pos c51] at H
        have c51b0 : decide (x52_2 < (x256007_1.length : Int)) = true := decide_eq_true c51
        clear c51
        by_cases c52 : 0 ≤ x52_2
        ·rw [if_pos c52] at H
         have c52b0 : decide (0 ≤ x52_2) = true := decide_eq_true c52
         clear c52
         by_cases c53 : x52_2 < (x256007_1.length : Int)
         ·rw [if_pos c53] at H
          have c53b0 : decide (x52_2 < (x256007_1.length : Int)) = true := decide_eq_true c53
          clear c53
          have H' := aM H
          clear H
          have p276 : 0 ≤ (x52_2 : Int) := of_decide_eq_true (by first | (with_reducible assumption) | assumption)
          have q276 : x52_2 < (x256007_1.length : Int) := of_decide_eq_true (by first | (with_reducible assumption) | assumption)
          obtain ⟨ad276, e276, hx276_0, hx276_1⟩ := at_T43 (Kd.V_reads' HO_50.out).2.2 x52_2 p276 q276
          cases e276
          replace p276 := eq_true p276
          replace q276 := eq_true q276
          go_wp2_with (first | ((with_reducible refine gate_dst (N := 11) rfl ?_); refine box_event ?hg (N := 11) ?hd (cs := #[.int .i64 0, .int .i64 0]) (t := 43) ?hr ?_; (case hd => rfl); (case hg => rfl); (case hr => first | (go_simp; done) | (go_simp; rfl)); intro gb277 hg w54 hbox hb; have n0_ := aM (Kd.V_below (Kd.V_elderB (by (with_reducible repeat (first | apply Kd.V_alloc | apply Kd.V_drewN | apply Kd.V_drew)); exact HO_50.out) gb277 (Nat.le_of_eq hg.symm)) hb); have n1_ := aM (Kd.V_below (Kd.V_elderB (by (with_reducible repeat (first | apply Kd.V_alloc | apply Kd.V_drewN | apply Kd.V_drew)); exact HO_256007.out) gb277 (Nat.le_of_eq hg.symm)) hb); have n2_ := aM (Kd.V_below (Kd.V_elderB (by (with_reducible repeat (first | apply Kd.V_alloc | apply Kd.V_drewN | apply Kd.V_drew)); exact HO_256008.out) gb277 (Nat.le_of_eq hg.symm)) hb); have n3_ := aM (blk_below (g := gb255) (o := .cells #[.int .i64 x256000_1, .int .i64 x256001_1, .int .i64 x256002_1, .int .i64 x256003_1, .int .i64 x256004_1, .int .i64 x256005_1, .int .i64 x256006_1, .slice (some ad276) x256007_1.length co50, u256008] 28 (0, 0)) (by (with_reducible repeat (first | refine kN ?_ _ | refine kD ?_ | refine kA ?_ _)); exact BK255.out) hb); have n4_ := aM (below_step (by repeat (first | (with_reducible first | exact HB.out | apply bA | apply bN | apply bD | refine bS ?_ GE255.out) | exact HB.out)) hb); have n5_ := aM (hbox); have n6_ := aM ((by rw [hg]; exact (below_size (by repeat (first | (with_reducible first | exact HB.out | apply bA | apply bN | apply bD | refine bS ?_ GE255.out) | exact HB.out))) : w.heap.size ≤ gb277)); have n7_ := aM ((by rw [hg]; exact (below_size (by repeat (first | (with_reducible first | exact HB.out | apply bA | apply bN | apply bD | refine bS ?_ GE255.out) | exact HB.out))) : w.heap.size ≤ gb277)); have n8_ := aM ((by rw [hg]; exact Nat.ne_of_lt (blk_lt (g := gb255) (o := .cells #[.int .i64 x256000_1, .int .i64 x256001_1, .int .i64 x256002_1, .int .i64 x256003_1, .int .i64 x256004_1, .int .i64 x256005_1, .int .i64 x256006_1, .slice (some ad276) x256007_1.length co50, u256008] 28 (0, 0)) (by (with_reducible repeat (first | refine kN ?_ _ | refine kD ?_ | refine kA ?_ _)); exact BK255.out)) : gb255 ≠ gb277)); have n9_ := aM ((by rw [hg]; exact Nat.ne_of_gt (blk_lt (g := gb255) (o := .cells #[.int .i64 x256000_1, .int .i64 x256001_1, .int .i64 x256002_1, .int .i64 x256003_1, .int .i64 x256004_1, .int .i64 x256005_1, .int .i64 x256006_1, .slice (some ad276) x256007_1.length co50, u256008] 28 (0, 0)) (by (with_reducible repeat (first | refine kN ?_ _ | refine kD ?_ | refine kA ?_ _)); exact BK255.out)) : gb277 ≠ gb255)); clear HO_50; clear HO_256007; clear HO_256008; clear BK255; clear HB; have HO_50 := n0_; have HO_256007 := n1_; have HO_256008 := n2_; have BK255 := n3_; have HB := n4_; have BK277 := n5_; have GW277 := n6_; have GE277 := n7_; have NB255_277 := n8_; have NB277_255 := n9_; clear n0_ n1_ n2_ n3_ n4_ n5_ n6_ n7_ n8_ n9_; clear hb hbox hg; have hnb55 := NB277_255.out; have hnc55 := NB255_277.out; obtain ⟨hcz56_0, hcz56_1⟩ := cells2 BK277.out; obtain ⟨hfz56_0, hfz56_1⟩ := froz2 BK277.out; obtain ⟨hcz57_0, hcz57_1, hcz57_2, hcz57_3, hcz57_4, hcz57_5, hcz57_6, hcz57_7, hcz57_8⟩ := cells9 BK255.out; obtain ⟨hfz57_0, hfz57_1, hfz57_2, hfz57_3, hfz57_4, hfz57_5, hfz57_6, hfz57_7, hfz57_8⟩ := froz9 BK255.out) | ((with_reducible refine gate_dst (N := 12) rfl ?_); refine box_event ?hg (N := 12) ?hd (cs := #[.int .i64 0, .int .i64 0, .int .i64 0, .int .i64 0, .int .i64 0, .int .i64 0, .int .i64 0, .slice none 0 0, .slice none 0 0]) (t := 28) ?hr ?_; (case hd => rfl); (case hg => rfl); (case hr => first | (go_simp; done) | (go_simp; rfl)); intro gb278 hg w58 hbox hb; have n0_ := aM (Kd.V_below (Kd.V_elderB (by (with_reducible repeat (first | apply Kd.V_alloc | apply Kd.V_drewN | apply Kd.V_drew)); exact (Kd.V_mono (Kd.V_far2 (g := gb277) (Kd.V_mono HO_50.out (fun k_ hk => (⟨hk, hk.2⟩ : _ ∧ k_ ≠ gb277))) (fun _ hk => hk.2) (.int .i64 ((rd_T43 x256007_1 x52_2).f0)) (.int .i64 ((rd_T43 x256007_1 x52_2).f1))) (fun _ h_ => h_.1))) gb278 (Nat.le_of_eq hg.symm)) hb); have n1_ := aM (Kd.V_below (Kd.V_elderB (by (with_reducible repeat (first | apply Kd.V_alloc | apply Kd.V_drewN | apply Kd.V_drew)); exact (Kd.V_mono (Kd.V_far2 (g := gb277) (Kd.V_mono HO_256007.out (fun k_ hk => (⟨hk, hk.2⟩ : _ ∧ k_ ≠ gb277))) (fun _ hk => hk.2) (.int .i64 ((rd_T43 x256007_1 x52_2).f0)) (.int .i64 ((rd_T43 x256007_1 x52_2).f1))) (fun _ h_ => h_.1))) gb278 (Nat.le_of_eq hg.symm)) hb); have n2_ := aM (Kd.V_below (Kd.V_elderB (by (with_reducible repeat (first | apply Kd.V_alloc | apply Kd.V_drewN | apply Kd.V_drew)); exact (Kd.V_mono (Kd.V_far2 (g := gb277) (Kd.V_mono HO_256008.out (fun k_ hk => (⟨hk, hk.2⟩ : _ ∧ k_ ≠ gb277))) (fun _ hk => hk.2) (.int .i64 ((rd_T43 x256007_1 x52_2).f0)) (.int .i64 ((rd_T43 x256007_1 x52_2).f1))) (fun _ h_ => h_.1))) gb278 (Nat.le_of_eq hg.symm)) hb); have n3_ := aM (blk_below (g := gb255) (o := .cells #[.int .i64 x256000_1, .int .i64 x256001_1, .int .i64 x256002_1, .int .i64 x256003_1, .int .i64 x256004_1, .int .i64 x256005_1, .int .i64 x256006_1, .slice (some ad276) x256007_1.length co50, u256008] 28 (0, 0)) (by (with_reducible repeat (first | refine kN ?_ _ | refine kD ?_ | refine kA ?_ _)); refine blk_far ?_ NB255_277.out _; (with_reducible repeat (first | refine kN ?_ _ | refine kD ?_ | refine kA ?_ _)); refine blk_far ?_ NB255_277.out _; (with_reducible repeat (first | refine kN ?_ _ | refine kD ?_ | refine kA ?_ _)); exact BK255.out) hb); have n4_ := aM (blk_below (g := gb277) (o := .cells #[.int .i64 ((rd_T43 x256007_1 x52_2).f0), .int .i64 ((rd_T43 x256007_1 x52_2).f1)] 43 (0, 0)) (by (with_reducible repeat (first | refine kN ?_ _ | refine kD ?_ | refine kA ?_ _)); refine blk_put (cs := #[.int .i64 ((rd_T43 x256007_1 x52_2).f0), .int .i64 0]) ?_ 1 _ rfl; (with_reducible repeat (first | refine kN ?_ _ | refine kD ?_ | refine kA ?_ _)); refine blk_put (cs := #[.int .i64 0, .int .i64 0]) ?_ 0 _ rfl; (with_reducible repeat (first | refine kN ?_ _ | refine kD ?_ | refine kA ?_ _)); exact BK277.out) hb); have n5_ := aM (below_step (by repeat (first | (with_reducible first | exact HB.out | apply bA | apply bN | apply bD | refine bS ?_ GE255.out | refine bS ?_ GE277.out) | exact HB.out)) hb); have n6_ := aM (hbox); have n7_ := aM ((by rw [hg]; exact (below_size (by repeat (first | (with_reducible first | exact HB.out | apply bA | apply bN | apply bD | refine bS ?_ GE255.out | refine bS ?_ GE277.out) | exact HB.out))) : w.heap.size ≤ gb278)); have n8_ := aM ((by rw [hg]; exact (below_size (by repeat (first | (with_reducible first | exact HB.out | apply bA | apply bN | apply bD | refine bS ?_ GE255.out | refine bS ?_ GE277.out) | exact HB.out))) : w.heap.size ≤ gb278)); have n9_ := aM ((by rw [hg]; exact Nat.ne_of_lt (blk_lt (g := gb255) (o := .cells #[.int .i64 x256000_1, .int .i64 x256001_1, .int .i64 x256002_1, .int .i64 x256003_1, .int .i64 x256004_1, .int .i64 x256005_1, .int .i64 x256006_1, .slice (some ad276) x256007_1.length co50, u256008] 28 (0, 0)) (by (with_reducible repeat (first | refine kN ?_ _ | refine kD ?_ | refine kA ?_ _)); refine blk_far ?_ NB255_277.out _; (with_reducible repeat (first | refine kN ?_ _ | refine kD ?_ | refine kA ?_ _)); refine blk_far ?_ NB255_277.out _; (with_reducible repeat (first | refine kN ?_ _ | refine kD ?_ | refine kA ?_ _)); exact BK255.out)) : gb255 ≠ gb278)); have n10_ := aM ((by rw [hg]; exact Nat.ne_of_gt (blk_lt (g := gb255) (o := .cells #[.int .i64 x256000_1, .int .i64 x256001_1, .int .i64 x256002_1, .int .i64 x256003_1, .int .i64 x256004_1, .int .i64 x256005_1, .int .i64 x256006_1, .slice (some ad276) x256007_1.length co50, u256008] 28 (0, 0)) (by (with_reducible repeat (first | refine kN ?_ _ | refine kD ?_ | refine kA ?_ _)); refine blk_far ?_ NB255_277.out _; (with_reducible repeat (first | refine kN ?_ _ | refine kD ?_ | refine kA ?_ _)); refine blk_far ?_ NB255_277.out _; (with_reducible repeat (first | refine kN ?_ _ | refine kD ?_ | refine kA ?_ _)); exact BK255.out)) : gb278 ≠ gb255)); have n11_ := aM ((by rw [hg]; exact Nat.ne_of_lt (blk_lt (g := gb277) (o := .cells #[.int .i64 ((rd_T43 x256007_1 x52_2).f0), .int .i64 ((rd_T43 x256007_1 x52_2).f1)] 43 (0, 0)) (by (with_reducible repeat (first | refine kN ?_ _ | refine kD ?_ | refine kA ?_ _)); refine blk_put (cs := #[.int .i64 ((rd_T43 x256007_1 x52_2).f0), .int .i64 0]) ?_ 1 _ rfl; (with_reducible repeat (first | refine kN ?_ _ | refine kD ?_ | refine kA ?_ _)); refine blk_put (cs := #[.int .i64 0, .int .i64 0]) ?_ 0 _ rfl; (with_reducible repeat (first | refine kN ?_ _ | refine kD ?_ | refine kA ?_ _)); exact BK277.out)) : gb277 ≠ gb278)); have n12_ := aM ((by rw [hg]; exact Nat.ne_of_gt (blk_lt (g := gb277) (o := .cells #[.int .i64 ((rd_T43 x256007_1 x52_2).f0), .int .i64 ((rd_T43 x256007_1 x52_2).f1)] 43 (0, 0)) (by (with_reducible repeat (first | refine kN ?_ _ | refine kD ?_ | refine kA ?_ _)); refine blk_put (cs := #[.int .i64 ((rd_T43 x256007_1 x52_2).f0), .int .i64 0]) ?_ 1 _ rfl; (with_reducible repeat (first | refine kN ?_ _ | refine kD ?_ | refine kA ?_ _)); refine blk_put (cs := #[.int .i64 0, .int .i64 0]) ?_ 0 _ rfl; (with_reducible repeat (first | refine kN ?_ _ | refine kD ?_ | refine kA ?_ _)); exact BK277.out)) : gb278 ≠ gb277)); clear HO_50; clear HO_256007; clear HO_256008; clear BK255; clear BK277; clear HB; have HO_50 := n0_; have HO_256007 := n1_; have HO_256008 := n2_; have BK255 := n3_; have BK277 := n4_; have HB := n5_; have BK278 := n6_; have GW278 := n7_; have GE278 := n8_; have NB255_278 := n9_; have NB278_255 := n10_; have NB277_278 := n11_; have NB278_277 := n12_; clear n0_ n1_ n2_ n3_ n4_ n5_ n6_ n7_ n8_ n9_ n10_ n11_ n12_; clear hb hbox hg; have hnb59 := NB278_255.out; have hnc59 := NB255_278.out; have hnb60 := NB278_277.out; have hnc60 := NB277_278.out; obtain ⟨hcz61_0, hcz61_1, hcz61_2, hcz61_3, hcz61_4, hcz61_5, hcz61_6, hcz61_7, hcz61_8⟩ := cells9 BK278.out; obtain ⟨hfz61_0, hfz61_1, hfz61_2, hfz61_3, hfz61_4, hfz61_5, hfz61_6, hfz61_7, hfz61_8⟩ := froz9 BK278.out; obtain ⟨Ao62, co62, eo62⟩ := Kd.V_slice HO_256008.out; subst eo62; obtain ⟨hcz63_0, hcz63_1, hcz63_2, hcz63_3, hcz63_4, hcz63_5, hcz63_6, hcz63_7, hcz63_8⟩ := cells9 BK255.out; obtain ⟨hfz63_0, hfz63_1, hfz63_2, hfz63_3, hfz63_4, hfz63_5, hfz63_6, hfz63_7, hfz63_8⟩ := froz9 BK255.out))
          (try simp only [Act.put, List.setIfInBounds_toArray, List.set_cons_zero, List.set_cons_succ])
          go_loopg [14, 15] k2 (fun kq v14 v15 w' => ∃ (x14_3 : Bool) (x15_3 : Int) (x279000_3 : Int) (x279001_3 : Int) (x279002_3 : Int) (x279003_3 : Int) (x279004_3 : Int) (x279005_3 : Int) (x279006_3 : Int) (x279007_3 : List (S43)) (x279008_3 : List Int) (u279007 : Value) (u279008 : Value), v14 = .bool x14_3 ∧ v15 = .int .i64 x15_3 ∧ Aside0 (squelchlaw18_FloorServes.l2 kq t240 (wrap64 (x256006_1 + (wrap64 ((wrap64 (x52_2 + 1)) * 75)))) x14_3 x15_3 x256007_1 (x256007_1.length : Int) x52_2 x256000_1 x256001_1 x256002_1 x256003_1 x256004_1 x256005_1 x256006_1 x256007_1 x256008_1 ((rd_T43 x256007_1 x52_2).f0) ((rd_T43 x256007_1 x52_2).f1) x279000_3 x279001_3 x279002_3 x279003_3 x279004_3 x279005_3 x279006_3 x279007_3 x279008_3 = some r) ∧ Aside0 (kq ≤ k2) ∧ Aside0 (Kd.V k43 43 w' w.heap.size (fun k_ => k_ ≠ gb255 ∧ k_ ≠ gb277 ∧ k_ ≠ gb278) (.slice (some ad276) x256007_1.length co50) x256007_1) ∧ Aside0 (Kd.V k43 43 w' w.heap.size (fun k_ => k_ ≠ gb255 ∧ k_ ≠ gb277 ∧ k_ ≠ gb278) (.slice (some ad276) x256007_1.length co50) x256007_1) ∧ Aside0 (Kd.V (Kd.int .i64) 3 w' w.heap.size (fun k_ => k_ ≠ gb255 ∧ k_ ≠ gb277 ∧ k_ ≠ gb278) (.slice Ao62 x256008_1.length co62) x256008_1) ∧ Aside0 (Kd.V k43 43 w' w.heap.size (fun k_ => k_ ≠ gb255 ∧ k_ ≠ gb277 ∧ k_ ≠ gb278) u279007 x279007_3) ∧ Aside0 (Kd.V (Kd.int .i64) 3 w' w.heap.size (fun k_ => k_ ≠ gb255 ∧ k_ ≠ gb277 ∧ k_ ≠ gb278) u279008 x279008_3) ∧ Aside0 (w'.heap[gb255]? = some (.cells #[.int .i64 x256000_1, .int .i64 x256001_1, .int .i64 x256002_1, .int .i64 x256003_1, .int .i64 x256004_1, .int .i64 x256005_1, .int .i64 x256006_1, (.slice (some ad276) x256007_1.length co50), (.slice Ao62 x256008_1.length co62)] 28 (0, 0))) ∧ Aside0 (w'.heap[gb277]? = some (.cells #[.int .i64 ((rd_T43 x256007_1 x52_2).f0), .int .i64 ((rd_T43 x256007_1 x52_2).f1)] 43 (0, 0))) ∧ Aside0 (w'.heap[gb278]? = some (.cells #[.int .i64 x279000_3, .int .i64 x279001_3, .int .i64 x279002_3, .int .i64 x279003_3, .int .i64 x279004_3, .int .i64 x279005_3, .int .i64 x279006_3, u279007, u279008] 28 (0, 0))) ∧ Aside0 (Below w.heap.size w w'))
          case atStart => exact ⟨(false), (x256006_1), (x256000_1), (x256001_1), (x256002_1), (x256003_1), (x256004_1), (x256005_1), (x256006_1), (x256007_1), (x256008_1), (.slice (some ad276) x256007_1.length co50), (.slice Ao62 x256008_1.length co62), (by first | rfl | (simp; done) | (simp [*]; done)), (by first | rfl | (simp; done) | (simp [*]; done)), H', ⟨Nat.le_refl _⟩, ⟨by (with_reducible repeat (first | apply Kd.V_alloc | apply Kd.V_drewN | apply Kd.V_drew)); exact Kd.V_mono (Kd.V_far9 (g := gb278) (Kd.V_mono HO_50.out (fun k_ hk => (⟨hk, hk.2⟩ : _ ∧ k_ ≠ gb278))) (fun _ hk => hk.2) (.int .i64 x256000_1) (.int .i64 x256001_1) (.int .i64 x256002_1) (.int .i64 x256003_1) (.int .i64 x256004_1) (.int .i64 x256005_1) (.int .i64 x256006_1) (.slice (some ad276) x256007_1.length co50) (.slice Ao62 x256008_1.length co62)) (fun _ hk => ⟨hk.1.1.1, ⟨hk.1.1.2, hk.1.2⟩⟩)⟩, ⟨by (with_reducible repeat (first | apply Kd.V_alloc | apply Kd.V_drewN | apply Kd.V_drew)); exact Kd.V_mono (Kd.V_far9 (g := gb278) (Kd.V_mono HO_256007.out (fun k_ hk => (⟨hk, hk.2⟩ : _ ∧ k_ ≠ gb278))) (fun _ hk => hk.2) (.int .i64 x256000_1) (.int .i64 x256001_1) (.int .i64 x256002_1) (.int .i64 x256003_1) (.int .i64 x256004_1) (.int .i64 x256005_1) (.int .i64 x256006_1) (.slice (some ad276) x256007_1.length co50) (.slice Ao62 x256008_1.length co62)) (fun _ hk => ⟨hk.1.1.1, ⟨hk.1.1.2, hk.1.2⟩⟩)⟩, ⟨by (with_reducible repeat (first | apply Kd.V_alloc | apply Kd.V_drewN | apply Kd.V_drew)); exact Kd.V_mono (Kd.V_far9 (g := gb278) (Kd.V_mono HO_256008.out (fun k_ hk => (⟨hk, hk.2⟩ : _ ∧ k_ ≠ gb278))) (fun _ hk => hk.2) (.int .i64 x256000_1) (.int .i64 x256001_1) (.int .i64 x256002_1) (.int .i64 x256003_1) (.int .i64 x256004_1) (.int .i64 x256005_1) (.int .i64 x256006_1) (.slice (some ad276) x256007_1.length co50) (.slice Ao62 x256008_1.length co62)) (fun _ hk => ⟨hk.1.1.1, ⟨hk.1.1.2, hk.1.2⟩⟩)⟩, ⟨by (with_reducible repeat (first | apply Kd.V_alloc | apply Kd.V_drewN | apply Kd.V_drew)); exact Kd.V_mono (Kd.V_far9 (g := gb278) (Kd.V_mono HO_256007.out (fun k_ hk => (⟨hk, hk.2⟩ : _ ∧ k_ ≠ gb278))) (fun _ hk => hk.2) (.int .i64 x256000_1) (.int .i64 x256001_1) (.int .i64 x256002_1) (.int .i64 x256003_1) (.int .i64 x256004_1) (.int .i64 x256005_1) (.int .i64 x256006_1) (.slice (some ad276) x256007_1.length co50) (.slice Ao62 x256008_1.length co62)) (fun _ hk => ⟨hk.1.1.1, ⟨hk.1.1.2, hk.1.2⟩⟩)⟩, ⟨by (with_reducible repeat (first | apply Kd.V_alloc | apply Kd.V_drewN | apply Kd.V_drew)); exact Kd.V_mono (Kd.V_far9 (g := gb278) (Kd.V_mono HO_256008.out (fun k_ hk => (⟨hk, hk.2⟩ : _ ∧ k_ ≠ gb278))) (fun _ hk => hk.2) (.int .i64 x256000_1) (.int .i64 x256001_1) (.int .i64 x256002_1) (.int .i64 x256003_1) (.int .i64 x256004_1) (.int .i64 x256005_1) (.int .i64 x256006_1) (.slice (some ad276) x256007_1.length co50) (.slice Ao62 x256008_1.length co62)) (fun _ hk => ⟨hk.1.1.1, ⟨hk.1.1.2, hk.1.2⟩⟩)⟩, ⟨by (with_reducible repeat (first | refine kN ?_ _ | refine kD ?_ | refine kA ?_ _)); refine blk_far ?_ NB255_278.out _; (with_reducible repeat (first | refine kN ?_ _ | refine kD ?_ | refine kA ?_ _)); refine blk_far ?_ NB255_278.out _; (with_reducible repeat (first | refine kN ?_ _ | refine kD ?_ | refine kA ?_ _)); refine blk_far ?_ NB255_278.out _; (with_reducible repeat (first | refine kN ?_ _ | refine kD ?_ | refine kA ?_ _)); refine blk_far ?_ NB255_278.out _; (with_reducible repeat (first | refine kN ?_ _ | refine kD ?_ | refine kA ?_ _)); refine blk_far ?_ NB255_278.out _; (with_reducible repeat (first | refine kN ?_ _ | refine kD ?_ | refine kA ?_ _)); refine blk_far ?_ NB255_278.out _; (with_reducible repeat (first | refine kN ?_ _ | refine kD ?_ | refine kA ?_ _)); refine blk_far ?_ NB255_278.out _; (with_reducible repeat (first | refine kN ?_ _ | refine kD ?_ | refine kA ?_ _)); refine blk_far ?_ NB255_278.out _; (with_reducible repeat (first | refine kN ?_ _ | refine kD ?_ | refine kA ?_ _)); refine blk_far ?_ NB255_278.out _; (with_reducible repeat (first | refine kN ?_ _ | refine kD ?_ | refine kA ?_ _)); exact BK255.out⟩, ⟨by (with_reducible repeat (first | refine kN ?_ _ | refine kD ?_ | refine kA ?_ _)); refine blk_far ?_ NB277_278.out _; (with_reducible repeat (first | refine kN ?_ _ | refine kD ?_ | refine kA ?_ _)); refine blk_far ?_ NB277_278.out _; (with_reducible repeat (first | refine kN ?_ _ | refine kD ?_ | refine kA ?_ _)); refine blk_far ?_ NB277_278.out _; (with_reducible repeat (first | refine kN ?_ _ | refine kD ?_ | refine kA ?_ _)); refine blk_far ?_ NB277_278.out _; (with_reducible repeat (first | refine kN ?_ _ | refine kD ?_ | refine kA ?_ _)); refine blk_far ?_ NB277_278.out _; (with_reducible repeat (first | refine kN ?_ _ | refine kD ?_ | refine kA ?_ _)); refine blk_far ?_ NB277_278.out _; (with_reducible repeat (first | refine kN ?_ _ | refine kD ?_ | refine kA ?_ _)); refine blk_far ?_ NB277_278.out _; (with_reducible repeat (first | refine kN ?_ _ | refine kD ?_ | refine kA ?_ _)); refine blk_far ?_ NB277_278.out _; (with_reducible repeat (first | refine kN ?_ _ | refine kD ?_ | refine kA ?_ _)); refine blk_far ?_ NB277_278.out _; (with_reducible repeat (first | refine kN ?_ _ | refine kD ?_ | refine kA ?_ _)); exact BK277.out⟩, ⟨by (with_reducible repeat (first | refine kN ?_ _ | refine kD ?_ | refine kA ?_ _)); refine blk_put (cs := #[.int .i64 x256000_1, .int .i64 x256001_1, .int .i64 x256002_1, .int .i64 x256003_1, .int .i64 x256004_1, .int .i64 x256005_1, .int .i64 x256006_1, .slice (some ad276) x256007_1.length co50, .slice none 0 0]) ?_ 8 _ rfl; (with_reducible repeat (first | refine kN ?_ _ | refine kD ?_ | refine kA ?_ _)); refine blk_put (cs := #[.int .i64 x256000_1, .int .i64 x256001_1, .int .i64 x256002_1, .int .i64 x256003_1, .int .i64 x256004_1, .int .i64 x256005_1, .int .i64 x256006_1, .slice none 0 0, .slice none 0 0]) ?_ 7 _ rfl; (with_reducible repeat (first | refine kN ?_ _ | refine kD ?_ | refine kA ?_ _)); refine blk_put (cs := #[.int .i64 x256000_1, .int .i64 x256001_1, .int .i64 x256002_1, .int .i64 x256003_1, .int .i64 x256004_1, .int .i64 x256005_1, .int .i64 0, .slice none 0 0, .slice none 0 0]) ?_ 6 _ rfl; (with_reducible repeat (first | refine kN ?_ _ | refine kD ?_ | refine kA ?_ _)); refine blk_put (cs := #[.int .i64 x256000_1, .int .i64 x256001_1, .int .i64 x256002_1, .int .i64 x256003_1, .int .i64 x256004_1, .int .i64 0, .int .i64 0, .slice none 0 0, .slice none 0 0]) ?_ 5 _ rfl; (with_reducible repeat (first | refine kN ?_ _ | refine kD ?_ | refine kA ?_ _)); refine blk_put (cs := #[.int .i64 x256000_1, .int .i64 x256001_1, .int .i64 x256002_1, .int .i64 x256003_1, .int .i64 0, .int .i64 0, .int .i64 0, .slice none 0 0, .slice none 0 0]) ?_ 4 _ rfl; (with_reducible repeat (first | refine kN ?_ _ | refine kD ?_ | refine kA ?_ _)); refine blk_put (cs := #[.int .i64 x256000_1, .int .i64 x256001_1, .int .i64 x256002_1, .int .i64 0, .int .i64 0, .int .i64 0, .int .i64 0, .slice none 0 0, .slice none 0 0]) ?_ 3 _ rfl; (with_reducible repeat (first | refine kN ?_ _ | refine kD ?_ | refine kA ?_ _)); refine blk_put (cs := #[.int .i64 x256000_1, .int .i64 x256001_1, .int .i64 0, .int .i64 0, .int .i64 0, .int .i64 0, .int .i64 0, .slice none 0 0, .slice none 0 0]) ?_ 2 _ rfl; (with_reducible repeat (first | refine kN ?_ _ | refine kD ?_ | refine kA ?_ _)); refine blk_put (cs := #[.int .i64 x256000_1, .int .i64 0, .int .i64 0, .int .i64 0, .int .i64 0, .int .i64 0, .int .i64 0, .slice none 0 0, .slice none 0 0]) ?_ 1 _ rfl; (with_reducible repeat (first | refine kN ?_ _ | refine kD ?_ | refine kA ?_ _)); refine blk_put (cs := #[.int .i64 0, .int .i64 0, .int .i64 0, .int .i64 0, .int .i64 0, .int .i64 0, .int .i64 0, .slice none 0 0, .slice none 0 0]) ?_ 0 _ rfl; (with_reducible repeat (first | refine kN ?_ _ | refine kD ?_ | refine kA ?_ _)); exact BK278.out⟩, ⟨by repeat (first | (with_reducible first | exact HB.out | apply bA | apply bN | apply bD | refine bS ?_ GE255.out | refine bS ?_ GE277.out | refine bS ?_ GE278.out) | exact HB.out)⟩⟩
          case round =>
           clear H'
           try clear c1
           try clear c2
           try clear p2
           try clear q2
           try clear hx2
           try clear c3
           try clear c4
           try clear c5
           try clear c6
           try clear p6
           try clear c11
           try clear c12
           try clear c13
           try clear c13b0
           try clear c14
           try clear c14b0
           try clear c15
           try clear c15b0
           try clear c16
           try clear c16b0
           try clear c18
           try clear c21
           try clear c21b0
           try clear c21b1
           try clear c23
           try clear p25
           try clear q25
           try clear hx25
           try clear p27
           try clear q27
           try clear hx27
           try clear c30
           try clear c31
           try clear c37
           try clear c44
           try clear c45
           try clear c51
           try clear c51b0
           try clear c52
           try clear c52b0
           try clear c53
           try clear c53b0
           try clear c55
           try clear c59
           try clear c60
           try clear hcz10_0
           try clear hcz10_1
           try clear hcz10_2
           try clear hcz10_3
           try clear hcz10_4
           try clear hcz10_5
           try clear hcz10_6
           try clear hcz10_7
           try clear hcz10_8
           try clear hcz19_0
           try clear hcz19_1
           try clear hcz19_2
           try clear hcz19_3
           try clear hcz19_4
           try clear hcz24_0
           try clear hcz24_1
           try clear hcz24_2
           try clear hcz24_3
           try clear hcz24_4
           try clear hcz25_0
           try clear hcz25_1
           try clear hcz25_2
           try clear hcz25_3
           try clear hcz25_4
           try clear hcz25_5
           try clear hcz25_6
           try clear hcz25_7
           try clear hcz25_8
           try clear hcz32_0
           try clear hcz32_1
           try clear hcz32_2
           try clear hcz32_3
           try clear hcz32_4
           try clear hcz32_5
           try clear hcz32_6
           try clear hcz32_7
           try clear hcz32_8
           try clear hcz35_0
           try clear hcz35_1
           try clear hcz35_2
           try clear hcz35_3
           try clear hcz35_4
           try clear hcz35_5
           try clear hcz35_6
           try clear hcz35_7
           try clear hcz35_8
           try clear hcz38_0
           try clear hcz38_1
           try clear hcz38_2
           try clear hcz38_3
           try clear hcz38_4
           try clear hcz39_0
           try clear hcz39_1
           try clear hcz39_2
           try clear hcz39_3
           try clear hcz39_4
           try clear hcz39_5
           try clear hcz39_6
           try clear hcz39_7
           try clear hcz39_8
           try clear hcz46_0
           try clear hcz46_1
           try clear hcz46_2
           try clear hcz46_3
           try clear hcz46_4
           try clear hcz46_5
           try clear hcz46_6
           try clear hcz46_7
           try clear hcz46_8
           try clear hcz49_0
           try clear hcz49_1
           try clear hcz49_2
           try clear hcz49_3
           try clear hcz49_4
           try clear hcz49_5
           try clear hcz49_6
           try clear hcz49_7
           try clear hcz49_8
           try clear hcz56_0
           try clear hcz56_1
           try clear hcz57_0
           try clear hcz57_1
           try clear hcz57_2
           try clear hcz57_3
           try clear hcz57_4
           try clear hcz57_5
           try clear hcz57_6
           try clear hcz57_7
           try clear hcz57_8
           try clear hcz61_0
           try clear hcz61_1
           try clear hcz61_2
           try clear hcz61_3
           try clear hcz61_4
           try clear hcz61_5
           try clear hcz61_6
           try clear hcz61_7
           try clear hcz61_8
           try clear hcz63_0
           try clear hcz63_1
           try clear hcz63_2
           try clear hcz63_3
           try clear hcz63_4
           try clear hcz63_5
           try clear hcz63_6
           try clear hcz63_7
           try clear hcz63_8
           try clear hfz10_0
           try clear hfz10_1
           try clear hfz10_2
           try clear hfz10_3
           try clear hfz10_4
           try clear hfz10_5
           try clear hfz10_6
           try clear hfz10_7
           try clear hfz10_8
           try clear hfz19_0
           try clear hfz19_1
           try clear hfz19_2
           try clear hfz19_3
           try clear hfz19_4
           try clear hfz24_0
           try clear hfz24_1
           try clear hfz24_2
           try clear hfz24_3
           try clear hfz24_4
           try clear hfz25_0
           try clear hfz25_1
           try clear hfz25_2
           try clear hfz25_3
           try clear hfz25_4
           try clear hfz25_5
           try clear hfz25_6
           try clear hfz25_7
           try clear hfz25_8
           try clear hfz32_0
           try clear hfz32_1
           try clear hfz32_2
           try clear hfz32_3
           try clear hfz32_4
           try clear hfz32_5
           try clear hfz32_6
           try clear hfz32_7
           try clear hfz32_8
           try clear hfz35_0
           try clear hfz35_1
           try clear hfz35_2
           try clear hfz35_3
           try clear hfz35_4
           try clear hfz35_5
           try clear hfz35_6
           try clear hfz35_7
           try clear hfz35_8
           try clear hfz38_0
           try clear hfz38_1
           try clear hfz38_2
           try clear hfz38_3
           try clear hfz38_4
           try clear hfz39_0
           try clear hfz39_1
           try clear hfz39_2
           try clear hfz39_3
           try clear hfz39_4
           try clear hfz39_5
           try clear hfz39_6
           try clear hfz39_7
           try clear hfz39_8
           try clear hfz46_0
           try clear hfz46_1
           try clear hfz46_2
           try clear hfz46_3
           try clear hfz46_4
           try clear hfz46_5
           try clear hfz46_6
           try clear hfz46_7
           try clear hfz46_8
           try clear hfz49_0
           try clear hfz49_1
           try clear hfz49_2
           try clear hfz49_3
           try clear hfz49_4
           try clear hfz49_5
           try clear hfz49_6
           try clear hfz49_7
           try clear hfz49_8
           try clear hfz56_0
           try clear hfz56_1
           try clear hfz57_0
           try clear hfz57_1
           try clear hfz57_2
           try clear hfz57_3
           try clear hfz57_4
           try clear hfz57_5
           try clear hfz57_6
           try clear hfz57_7
           try clear hfz57_8
           try clear hfz61_0
           try clear hfz61_1
           try clear hfz61_2
           try clear hfz61_3
           try clear hfz61_4
           try clear hfz61_5
           try clear hfz61_6
           try clear hfz61_7
           try clear hfz61_8
           try clear hfz63_0
           try clear hfz63_1
           try clear hfz63_2
           try clear hfz63_3
           try clear hfz63_4
           try clear hfz63_5
           try clear hfz63_6
           try clear hfz63_7
           try clear hfz63_8
           try clear hx256_0
           try clear hx256_1
           try clear hx256_2
           try clear hx256_3
           try clear hx256_4
           try clear hx276_0
           try clear hx276_1
           try clear p2
           try clear p25
           try clear p256
           try clear p276
           try clear p6
           try clear q2
           try clear q25
           try clear q256
           try clear q276
           obtain ⟨x14_3, x15_3, x279000_3, x279001_3, x279002_3, x279003_3, x279004_3, x279005_3, x279006_3, x279007_3, x279008_3, u279007, u279008, rfl, rfl, HA, HK3, HO_50, HO_256007, HO_256008, HO_279007, HO_279008, BK255, BK277, BK278, HB⟩ := hrel
           cases gk with
           | zero => exact absurd HA.out (by simp [squelchlaw18_FloorServes.l2])
           | succ k3 =>
            have H := HA.out
            clear HA
            simp only [squelchlaw18_FloorServes.l2] at H
            have HC64 := aM H
            clear H
            go_upto_region 21 with (fail)
            go_cut [72] (fun v72 wc => ∃ (kq : Nat) (x72_63 : Bool), v72 = .bool x72_63 ∧ Aside0 (squelchlaw18_FloorServes.j3 kq t240 (wrap64 (x256006_1 + (wrap64 ((wrap64 (x52_2 + 1)) * 75)))) x14_3 x15_3 x256007_1 (x256007_1.length : Int) x52_2 x72_63 x256000_1 x256001_1 x256002_1 x256003_1 x256004_1 x256005_1 x256006_1 x256007_1 x256008_1 ((rd_T43 x256007_1 x52_2).f0) ((rd_T43 x256007_1 x52_2).f1) x279000_3 x279001_3 x279002_3 x279003_3 x279004_3 x279005_3 x279006_3 x279007_3 x279008_3 = some r) ∧ Aside0 (kq ≤ k3) ∧ Aside0 (Kd.V k43 43 wc w.heap.size (fun k_ => k_ ≠ gb255 ∧ k_ ≠ gb277 ∧ k_ ≠ gb278) (.slice (some ad276) x256007_1.length co50) x256007_1) ∧ Aside0 (Kd.V k43 43 wc w.heap.size (fun k_ => k_ ≠ gb255 ∧ k_ ≠ gb277 ∧ k_ ≠ gb278) (.slice (some ad276) x256007_1.length co50) x256007_1) ∧ Aside0 (Kd.V (Kd.int .i64) 3 wc w.heap.size (fun k_ => k_ ≠ gb255 ∧ k_ ≠ gb277 ∧ k_ ≠ gb278) (.slice Ao62 x256008_1.length co62) x256008_1) ∧ Aside0 (Kd.V k43 43 wc w.heap.size (fun k_ => k_ ≠ gb255 ∧ k_ ≠ gb277 ∧ k_ ≠ gb278) u279007 x279007_3) ∧ Aside0 (Kd.V (Kd.int .i64) 3 wc w.heap.size (fun k_ => k_ ≠ gb255 ∧ k_ ≠ gb277 ∧ k_ ≠ gb278) u279008 x279008_3) ∧ Aside0 (wc.heap[gb255]? = some (.cells #[.int .i64 x256000_1, .int .i64 x256001_1, .int .i64 x256002_1, .int .i64 x256003_1, .int .i64 x256004_1, .int .i64 x256005_1, .int .i64 x256006_1, (.slice (some ad276) x256007_1.length co50), (.slice Ao62 x256008_1.length co62)] 28 (0, 0))) ∧ Aside0 (wc.heap[gb277]? = some (.cells #[.int .i64 ((rd_T43 x256007_1 x52_2).f0), .int .i64 ((rd_T43 x256007_1 x52_2).f1)] 43 (0, 0))) ∧ Aside0 (wc.heap[gb278]? = some (.cells #[.int .i64 x279000_3, .int .i64 x279001_3, .int .i64 x279002_3, .int .i64 x279003_3, .int .i64 x279004_3, .int .i64 x279005_3, .int .i64 x279006_3, u279007, u279008] 28 (0, 0))) ∧ Aside0 (Below w.heap.size w wc))
            case first =>
             have H := HC64.out
             clear HC64
             by_cases c65 : x15_3 ≤ (wrap64 (x256006_1 + (wrap64 ((wrap64 (x52_2 + 1)) * 75))))
             ·rw [if_pos c65] at H
              have c65b0 : decide (x15_3 ≤ (wrap64 (x256006_1 + (wrap64 ((wrap64 (x52_2 + 1)) * 75))))) = true := decide_eq_true c65
              clear c65
              (first | rw [c65b0] | (simp only [i64_w, i32_w]; rw [c65b0]) | skip)
              have H' := aM H
              clear H
              go_wp2
              go_meet
              case rel => exact ⟨_, (!x14_3), (by first | rfl | (simp; done) | (simp [*]; done)), H', ⟨by have := HK1.out; have := HK2.out; have := HK3.out; first | omega | exact Nat.le_refl _⟩, ⟨by (with_reducible repeat (first | apply Kd.V_alloc | apply Kd.V_drewN | apply Kd.V_drew)); exact HO_50.out⟩, ⟨by (with_reducible repeat (first | apply Kd.V_alloc | apply Kd.V_drewN | apply Kd.V_drew)); exact HO_256007.out⟩, ⟨by (with_reducible repeat (first | apply Kd.V_alloc | apply Kd.V_drewN | apply Kd.V_drew)); exact HO_256008.out⟩, ⟨by (with_reducible repeat (first | apply Kd.V_alloc | apply Kd.V_drewN | apply Kd.V_drew)); exact HO_279007.out⟩, ⟨by (with_reducible repeat (first | apply Kd.V_alloc | apply Kd.V_drewN | apply Kd.V_drew)); exact HO_279008.out⟩, ⟨by (with_reducible repeat (first | refine kN ?_ _ | refine kD ?_ | refine kA ?_ _)); exact BK255.out⟩, ⟨by (with_reducible repeat (first | refine kN ?_ _ | refine kD ?_ | refine kA ?_ _)); exact BK277.out⟩, ⟨by (with_reducible repeat (first | refine kN ?_ _ | refine kD ?_ | refine kA ?_ _)); exact BK278.out⟩, ⟨by repeat (first | (with_reducible first | exact HB.out | apply bA | apply bN | apply bD | refine bS ?_ GE255.out | refine bS ?_ GE277.out | refine bS ?_ GE278.out) | exact HB.out)⟩⟩
             ·rw [if_neg c65] at H
              have c65b0 : decide (x15_3 ≤ (wrap64 (x256006_1 + (wrap64 ((wrap64 (x52_2 + 1)) * 75))))) = false := decide_eq_false c65
              clear c65
              (first | rw [c65b0] | (simp only [i64_w, i32_w]; rw [c65b0]) | skip)
              have H' := aM H
              clear H
              go_wp2
              go_meet
              case rel => exact ⟨_, (false), (by first | rfl | (simp; done) | (simp [*]; done)), H', ⟨by have := HK1.out; have := HK2.out; have := HK3.out; first | omega | exact Nat.le_refl _⟩, ⟨by (with_reducible repeat (first | apply Kd.V_alloc | apply Kd.V_drewN | apply Kd.V_drew)); exact HO_50.out⟩, ⟨by (with_reducible repeat (first | apply Kd.V_alloc | apply Kd.V_drewN | apply Kd.V_drew)); exact HO_256007.out⟩, ⟨by (with_reducible repeat (first | apply Kd.V_alloc | apply Kd.V_drewN | apply Kd.V_drew)); exact HO_256008.out⟩, ⟨by (with_reducible repeat (first | apply Kd.V_alloc | apply Kd.V_drewN | apply Kd.V_drew)); exact HO_279007.out⟩, ⟨by (with_reducible repeat (first | apply Kd.V_alloc | apply Kd.V_drewN | apply Kd.V_drew)); exact HO_279008.out⟩, ⟨by (with_reducible repeat (first | refine kN ?_ _ | refine kD ?_ | refine kA ?_ _)); exact BK255.out⟩, ⟨by (with_reducible repeat (first | refine kN ?_ _ | refine kD ?_ | refine kA ?_ _)); exact BK277.out⟩, ⟨by (with_reducible repeat (first | refine kN ?_ _ | refine kD ?_ | refine kA ?_ _)); exact BK278.out⟩, ⟨by repeat (first | (with_reducible first | exact HB.out | apply bA | apply bN | apply bD | refine bS ?_ GE255.out | refine bS ?_ GE277.out | refine bS ?_ GE278.out) | exact HB.out)⟩⟩
            case rest =>
             clear HC64
             try clear c1
             try clear c2
             try clear p2
             try clear q2
             try clear hx2
             try clear c3
             try clear c4
             try clear c5
             try clear c6
             try clear p6
             try clear c11
             try clear c12
             try clear c13
             try clear c13b0
             try clear c14
             try clear c14b0
             try clear c15
             try clear c15b0
             try clear c16
             try clear c16b0
             try clear c18
             try clear c21
             try clear c21b0
             try clear c21b1
             try clear c23
             try clear p25
             try clear q25
             try clear hx25
             try clear p27
             try clear q27
             try clear hx27
             try clear c30
             try clear c31
             try clear c37
             try clear c44
             try clear c45
             try clear c51
             try clear c51b0
             try clear c52
             try clear c52b0
             try clear c53
             try clear c53b0
             try clear c55
             try clear c59
             try clear c60
             try clear p64
             try clear c65
             try clear c65b0
             try clear hcz10_0
             try clear hcz10_1
             try clear hcz10_2
             try clear hcz10_3
             try clear hcz10_4
             try clear hcz10_5
             try clear hcz10_6
             try clear hcz10_7
             try clear hcz10_8
             try clear hcz19_0
             try clear hcz19_1
             try clear hcz19_2
             try clear hcz19_3
             try clear hcz19_4
             try clear hcz24_0
             try clear hcz24_1
             try clear hcz24_2
             try clear hcz24_3
             try clear hcz24_4
             try clear hcz25_0
             try clear hcz25_1
             try clear hcz25_2
             try clear hcz25_3
             try clear hcz25_4
             try clear hcz25_5
             try clear hcz25_6
             try clear hcz25_7
             try clear hcz25_8
             try clear hcz32_0
             try clear hcz32_1
             try clear hcz32_2
             try clear hcz32_3
             try clear hcz32_4
             try clear hcz32_5
             try clear hcz32_6
             try clear hcz32_7
             try clear hcz32_8
             try clear hcz35_0
             try clear hcz35_1
             try clear hcz35_2
             try clear hcz35_3
             try clear hcz35_4
             try clear hcz35_5
             try clear hcz35_6
             try clear hcz35_7
             try clear hcz35_8
             try clear hcz38_0
             try clear hcz38_1
             try clear hcz38_2
             try clear hcz38_3
             try clear hcz38_4
             try clear hcz39_0
             try clear hcz39_1
             try clear hcz39_2
             try clear hcz39_3
             try clear hcz39_4
             try clear hcz39_5
             try clear hcz39_6
             try clear hcz39_7
             try clear hcz39_8
             try clear hcz46_0
             try clear hcz46_1
             try clear hcz46_2
             try clear hcz46_3
             try clear hcz46_4
             try clear hcz46_5
             try clear hcz46_6
             try clear hcz46_7
             try clear hcz46_8
             try clear hcz49_0
             try clear hcz49_1
             try clear hcz49_2
             try clear hcz49_3
             try clear hcz49_4
             try clear hcz49_5
             try clear hcz49_6
             try clear hcz49_7
             try clear hcz49_8
             try clear hcz56_0
             try clear hcz56_1
             try clear hcz57_0
             try clear hcz57_1
             try clear hcz57_2
             try clear hcz57_3
             try clear hcz57_4
             try clear hcz57_5
             try clear hcz57_6
             try clear hcz57_7
             try clear hcz57_8
             try clear hcz61_0
             try clear hcz61_1
             try clear hcz61_2
             try clear hcz61_3
             try clear hcz61_4
             try clear hcz61_5
             try clear hcz61_6
             try clear hcz61_7
             try clear hcz61_8
             try clear hcz63_0
             try clear hcz63_1
             try clear hcz63_2
             try clear hcz63_3
             try clear hcz63_4
             try clear hcz63_5
             try clear hcz63_6
             try clear hcz63_7
             try clear hcz63_8
             try clear hfz10_0
             try clear hfz10_1
             try clear hfz10_2
             try clear hfz10_3
             try clear hfz10_4
             try clear hfz10_5
             try clear hfz10_6
             try clear hfz10_7
             try clear hfz10_8
             try clear hfz19_0
             try clear hfz19_1
             try clear hfz19_2
             try clear hfz19_3
             try clear hfz19_4
             try clear hfz24_0
             try clear hfz24_1
             try clear hfz24_2
             try clear hfz24_3
             try clear hfz24_4
             try clear hfz25_0
             try clear hfz25_1
             try clear hfz25_2
             try clear hfz25_3
             try clear hfz25_4
             try clear hfz25_5
             try clear hfz25_6
             try clear hfz25_7
             try clear hfz25_8
             try clear hfz32_0
             try clear hfz32_1
             try clear hfz32_2
             try clear hfz32_3
             try clear hfz32_4
             try clear hfz32_5
             try clear hfz32_6
             try clear hfz32_7
             try clear hfz32_8
             try clear hfz35_0
             try clear hfz35_1
             try clear hfz35_2
             try clear hfz35_3
             try clear hfz35_4
             try clear hfz35_5
             try clear hfz35_6
             try clear hfz35_7
             try clear hfz35_8
             try clear hfz38_0
             try clear hfz38_1
             try clear hfz38_2
             try clear hfz38_3
             try clear hfz38_4
             try clear hfz39_0
             try clear hfz39_1
             try clear hfz39_2
             try clear hfz39_3
             try clear hfz39_4
             try clear hfz39_5
             try clear hfz39_6
             try clear hfz39_7
             try clear hfz39_8
             try clear hfz46_0
             try clear hfz46_1
             try clear hfz46_2
             try clear hfz46_3
             try clear hfz46_4
             try clear hfz46_5
             try clear hfz46_6
             try clear hfz46_7
             try clear hfz46_8
             try clear hfz49_0
             try clear hfz49_1
             try clear hfz49_2
             try clear hfz49_3
             try clear hfz49_4
             try clear hfz49_5
             try clear hfz49_6
             try clear hfz49_7
             try clear hfz49_8
             try clear hfz56_0
             try clear hfz56_1
             try clear hfz57_0
             try clear hfz57_1
             try clear hfz57_2
             try clear hfz57_3
             try clear hfz57_4
             try clear hfz57_5
             try clear hfz57_6
             try clear hfz57_7
             try clear hfz57_8
             try clear hfz61_0
             try clear hfz61_1
             try clear hfz61_2
             try clear hfz61_3
             try clear hfz61_4
             try clear hfz61_5
             try clear hfz61_6
             try clear hfz61_7
             try clear hfz61_8
             try clear hfz63_0
             try clear hfz63_1
             try clear hfz63_2
             try clear hfz63_3
             try clear hfz63_4
             try clear hfz63_5
             try clear hfz63_6
             try clear hfz63_7
             try clear hfz63_8
             try clear hx256_0
             try clear hx256_1
             try clear hx256_2
             try clear hx256_3
             try clear hx256_4
             try clear hx276_0
             try clear hx276_1
             try clear p2
             try clear p25
             try clear p256
             try clear p27
             try clear p276
             try clear p6
             try clear q2
             try clear q25
             try clear q256
             try clear q27
             try clear q276
             obtain ⟨kq, x72_63, rfl, HA, HJ63, HO_50, HO_256007, HO_256008, HO_279007, HO_279008, BK255, BK277, BK278, HB⟩ := hcut
             cases kq with
             | zero => exact absurd HA.out (by simp [squelchlaw18_FloorServes.j3])
             | succ kj63 =>
              have H := HA.out
              clear HA
              simp only [squelchlaw18_FloorServes.j3] at H
              by_cases c66 : x72_63 = true
              ·subst c66
               have H1 : ((floor_Do.f kj63 x279000_3 x279001_3 x279002_3 x279003_3 x279004_3 x279005_3 x279006_3 x279007_3 x279008_3 6 0 0 0 x15_3).bind fun bt279 => (if bt279.2.2.2.2.2.2.2.2.2.2 = 0 then (squelchlaw18_FloorServes.l3 kj63 t240 (wrap64 (x256006_1 + (wrap64 ((wrap64 (x52_2 + 1)) * 75)))) x14_3 x15_3 x256007_1 (x256007_1.length : Int) x52_2 bt279.2.2.2.2.2.2.2.2.2.1 (bt279.2.2.2.2.2.2.2.2.2.1.length : Int) 0 x256000_1 x256001_1 x256002_1 x256003_1 x256004_1 x256005_1 x256006_1 x256007_1 x256008_1 ((rd_T43 x256007_1 x52_2).f0) ((rd_T43 x256007_1 x52_2).f1) bt279.1 bt279.2.1 bt279.2.2.1 bt279.2.2.2.1 bt279.2.2.2.2.1 bt279.2.2.2.2.2.1 bt279.2.2.2.2.2.2.1 bt279.2.2.2.2.2.2.2.1 bt279.2.2.2.2.2.2.2.2.1) else (some false))) = some r := by rw [if_pos rfl] at H; exact H
               clear H
               have H := H1
               clear H1
               replace H := Option.bind_eq_some_iff.mp H
               obtain ⟨⟨t279, t280, t281, t282, t283, t284, t285, t286, t289, t292, t295⟩, A670, H⟩ := H
               replace H : (if t295 = 0 then (squelchlaw18_FloorServes.l3 kj63 t240 (wrap64 (x256006_1 + (wrap64 ((wrap64 (x52_2 + 1)) * 75)))) x14_3 x15_3 x256007_1 (x256007_1.length : Int) x52_2 t292 (t292.length : Int) 0 x256000_1 x256001_1 x256002_1 x256003_1 x256004_1 x256005_1 x256006_1 x256007_1 x256008_1 ((rd_T43 x256007_1 x52_2).f0) ((rd_T43 x256007_1 x52_2).f1) t279 t280 t281 t282 t283 t284 t285 t286 t289) else (some false)) = some r := H
               have A67 := aM A670
               clear A670
               by_cases c68 : t295 = 0
               ·rw [if_pos c68] at H
                have c68b0 : (t295 == 0) = true := beq_iff_eq.mpr c68
                have c68b1 : (t295 != 0) = false := bne_eq_false_iff_eq.mpr c68
                clear c68
                have H' := aM H
                clear H
                have hnb69 := NB278_255.out
                have hnc69 := NB255_278.out
                have hnb70 := NB278_277.out
                have hnc70 := NB277_278.out
                obtain ⟨hcz71_0, hcz71_1, hcz71_2, hcz71_3, hcz71_4, hcz71_5, hcz71_6, hcz71_7, hcz71_8⟩ := cells9 BK278.out
                obtain ⟨hfz71_0, hfz71_1, hfz71_2, hfz71_3, hfz71_4, hfz71_5, hfz71_6, hfz71_7, hfz71_8⟩ := froz9 BK278.out
                obtain ⟨Ao72, co72, eo72⟩ := Kd.V_slice HO_279007.out
                subst eo72
                obtain ⟨Ao73, co73, eo73⟩ := Kd.V_slice HO_279008.out
                subst eo73
                go_wp2_with (first | ((with_reducible refine gate_callee (f := 14) rfl ?_); refine goesL_ (some 79) rfl rfl Try.func14 (by kernel_rfl) rfl #[.agg #[.int .i64 x279000_3, .int .i64 x279001_3, .int .i64 x279002_3, .int .i64 x279003_3, .int .i64 x279004_3, .int .i64 x279005_3, .int .i64 x279006_3, .slice Ao72 x279007_3.length co72, .slice Ao73 x279008_3.length co73], .agg #[.int .i64 6, .int .i64 0, .int .i64 0, .int .i64 0, .int .i64 x15_3]] rfl (by (try simp only [List.map_toArray, List.map_cons, List.map_nil]); first | done | rfl | (simp only [List.length_drop, List.length_take]; rfl)) ?_; (with_reducible refine (floor_Do.calls8 kj63 x279000_3 x279001_3 x279002_3 x279003_3 x279004_3 x279005_3 x279006_3 _ _ x279007_3 _ _ x279008_3 6 0 0 0 x15_3 t279 t280 t281 t282 t283 t284 t285 t286 t289 t292 t295 _ ?side1 ?side2 ?side3 ?side4 A67.out).mono ?_); (case side1 => repeat (first | exact (Kd.V_reads' HO_279007.out).2.2 | (with_reducible refine Kd.C_alloc ?_ _) | (with_reducible refine Kd.C_drewN ?_ _) | (with_reducible refine Kd.C_drew ?_))); (case side2 => exact (Kd.V_reads' HO_279007.out).2.1); (case side3 => repeat (first | exact (Kd.V_reads' HO_279008.out).2.2 | (with_reducible refine Kd.C_alloc ?_ _) | (with_reducible refine Kd.C_drewN ?_ _) | (with_reducible refine Kd.C_drew ?_))); (case side4 => exact (Kd.V_reads' HO_279008.out).2.1); rintro e w74 ⟨v287, v290, v293, rfl, ho0, ho1, ho2, hb⟩; refine ⟨_, rfl, ?_⟩; have n0_ := aM (Kd.V_elder' (by (with_reducible repeat (first | apply Kd.V_alloc | apply Kd.V_drewN | apply Kd.V_drew)); exact HO_50.out) (Kd.R_base ho2) hb); have n1_ := aM (Kd.V_elder' (by (with_reducible repeat (first | apply Kd.V_alloc | apply Kd.V_drewN | apply Kd.V_drew)); exact HO_256007.out) (Kd.R_base ho2) hb); have n2_ := aM (Kd.V_elder' (by (with_reducible repeat (first | apply Kd.V_alloc | apply Kd.V_drewN | apply Kd.V_drew)); exact HO_256008.out) (Kd.R_base ho2) hb); have n3_ := aM (Kd.V_elder' (by (with_reducible repeat (first | apply Kd.V_alloc | apply Kd.V_drewN | apply Kd.V_drew)); exact HO_279007.out) (Kd.R_base ho2) hb); have n4_ := aM (Kd.V_elder' (by (with_reducible repeat (first | apply Kd.V_alloc | apply Kd.V_drewN | apply Kd.V_drew)); exact HO_279008.out) (Kd.R_base ho2) hb); have n5_ := aM (Kd.V_lower (Kd.V_mono (ok' := fun k_ => some k_ ≠ (v293 : Value).ownBlock ∧ k_ ≠ gb255 ∧ k_ ≠ gb277 ∧ k_ ≠ gb278) ho0 (fun k_ hk_ => ⟨hk_.2, (Kd.freshB (g := gb255) (o := .cells #[.int .i64 x256000_1, .int .i64 x256001_1, .int .i64 x256002_1, .int .i64 x256003_1, .int .i64 x256004_1, .int .i64 x256005_1, .int .i64 x256006_1, .slice (some ad276) x256007_1.length co50, .slice Ao62 x256008_1.length co62] 28 (0, 0)) (by (with_reducible repeat (first | refine kN ?_ _ | refine kD ?_ | refine kA ?_ _)); exact BK255.out) k_ hk_.1), (Kd.freshB (g := gb277) (o := .cells #[.int .i64 ((rd_T43 x256007_1 x52_2).f0), .int .i64 ((rd_T43 x256007_1 x52_2).f1)] 43 (0, 0)) (by (with_reducible repeat (first | refine kN ?_ _ | refine kD ?_ | refine kA ?_ _)); exact BK277.out) k_ hk_.1), (Kd.freshB (g := gb278) (o := .cells #[.int .i64 x279000_3, .int .i64 x279001_3, .int .i64 x279002_3, .int .i64 x279003_3, .int .i64 x279004_3, .int .i64 x279005_3, .int .i64 x279006_3, .slice Ao72 x279007_3.length co72, .slice Ao73 x279008_3.length co73] 28 (0, 0)) (by (with_reducible repeat (first | refine kN ?_ _ | refine kD ?_ | refine kA ?_ _)); exact BK278.out) k_ hk_.1)⟩)) (below_size (by repeat (first | (with_reducible first | exact HB.out | apply bA | apply bN | apply bD | refine bS ?_ GE255.out | refine bS ?_ GE277.out | refine bS ?_ GE278.out) | exact HB.out)))); have n6_ := aM (Kd.V_lower (Kd.V_mono (ok' := fun k_ => some k_ ≠ (v293 : Value).ownBlock ∧ k_ ≠ gb255 ∧ k_ ≠ gb277 ∧ k_ ≠ gb278) ho1 (fun k_ hk_ => ⟨hk_.2, (Kd.freshB (g := gb255) (o := .cells #[.int .i64 x256000_1, .int .i64 x256001_1, .int .i64 x256002_1, .int .i64 x256003_1, .int .i64 x256004_1, .int .i64 x256005_1, .int .i64 x256006_1, .slice (some ad276) x256007_1.length co50, .slice Ao62 x256008_1.length co62] 28 (0, 0)) (by (with_reducible repeat (first | refine kN ?_ _ | refine kD ?_ | refine kA ?_ _)); exact BK255.out) k_ hk_.1), (Kd.freshB (g := gb277) (o := .cells #[.int .i64 ((rd_T43 x256007_1 x52_2).f0), .int .i64 ((rd_T43 x256007_1 x52_2).f1)] 43 (0, 0)) (by (with_reducible repeat (first | refine kN ?_ _ | refine kD ?_ | refine kA ?_ _)); exact BK277.out) k_ hk_.1), (Kd.freshB (g := gb278) (o := .cells #[.int .i64 x279000_3, .int .i64 x279001_3, .int .i64 x279002_3, .int .i64 x279003_3, .int .i64 x279004_3, .int .i64 x279005_3, .int .i64 x279006_3, .slice Ao72 x279007_3.length co72, .slice Ao73 x279008_3.length co73] 28 (0, 0)) (by (with_reducible repeat (first | refine kN ?_ _ | refine kD ?_ | refine kA ?_ _)); exact BK278.out) k_ hk_.1)⟩)) (below_size (by repeat (first | (with_reducible first | exact HB.out | apply bA | apply bN | apply bD | refine bS ?_ GE255.out | refine bS ?_ GE277.out | refine bS ?_ GE278.out) | exact HB.out)))); have n7_ := aM (Kd.R_lower (Kd.R_mono (ok' := fun k_ => True) ho2 (fun _ hk_ => trivial)) (below_size (by repeat (first | (with_reducible first | exact HB.out | apply bA | apply bN | apply bD | refine bS ?_ GE255.out | refine bS ?_ GE277.out | refine bS ?_ GE278.out) | exact HB.out)))); have n8_ := aM (blk_below (g := gb255) (o := .cells #[.int .i64 x256000_1, .int .i64 x256001_1, .int .i64 x256002_1, .int .i64 x256003_1, .int .i64 x256004_1, .int .i64 x256005_1, .int .i64 x256006_1, .slice (some ad276) x256007_1.length co50, .slice Ao62 x256008_1.length co62] 28 (0, 0)) (by (with_reducible repeat (first | refine kN ?_ _ | refine kD ?_ | refine kA ?_ _)); exact BK255.out) hb); have n9_ := aM (blk_below (g := gb277) (o := .cells #[.int .i64 ((rd_T43 x256007_1 x52_2).f0), .int .i64 ((rd_T43 x256007_1 x52_2).f1)] 43 (0, 0)) (by (with_reducible repeat (first | refine kN ?_ _ | refine kD ?_ | refine kA ?_ _)); exact BK277.out) hb); have n10_ := aM (blk_below (g := gb278) (o := .cells #[.int .i64 x279000_3, .int .i64 x279001_3, .int .i64 x279002_3, .int .i64 x279003_3, .int .i64 x279004_3, .int .i64 x279005_3, .int .i64 x279006_3, .slice Ao72 x279007_3.length co72, .slice Ao73 x279008_3.length co73] 28 (0, 0)) (by (with_reducible repeat (first | refine kN ?_ _ | refine kD ?_ | refine kA ?_ _)); exact BK278.out) hb); have n11_ := aM (below_step (by repeat (first | (with_reducible first | exact HB.out | apply bA | apply bN | apply bD | refine bS ?_ GE255.out | refine bS ?_ GE277.out | refine bS ?_ GE278.out) | exact HB.out)) hb); clear HO_50; clear HO_256007; clear HO_256008; clear HO_279007; clear HO_279008; clear BK255; clear BK277; clear BK278; clear HB; have HO_50 := n0_; have HO_256007 := n1_; have HO_256008 := n2_; have HO_279007 := n3_; have HO_279008 := n4_; have HO288 := n5_; have HO291 := n6_; have HO294 := n7_; have BK255 := n8_; have BK277 := n9_; have BK278 := n10_; have HB := n11_; clear n0_ n1_ n2_ n3_ n4_ n5_ n6_ n7_ n8_ n9_ n10_ n11_; (try clear hb); (try clear ho0); (try clear ho1); (try clear ho2)) | ((with_reducible refine gate_dst (N := 16) rfl ?_); refine box_event ?hg (N := 16) ?hd (cs := #[.int .i64 0, .int .i64 0, .int .i64 0, .int .i64 0, .int .i64 0, .int .i64 0, .int .i64 0, .slice none 0 0, .slice none 0 0]) (t := 28) ?hr ?_; (case hd => rfl); (case hg => rfl); (case hr => first | (go_simp; done) | (go_simp; rfl)); intro gb296 hg w75 hbox hb; have n0_ := aM (Kd.V_below (Kd.V_elderB (by (with_reducible repeat (first | apply Kd.V_alloc | apply Kd.V_drewN | apply Kd.V_drew)); exact HO_50.out) gb296 (Nat.le_of_eq hg.symm)) hb); have n1_ := aM (Kd.V_below (Kd.V_elderB (by (with_reducible repeat (first | apply Kd.V_alloc | apply Kd.V_drewN | apply Kd.V_drew)); exact HO_256007.out) gb296 (Nat.le_of_eq hg.symm)) hb); have n2_ := aM (Kd.V_below (Kd.V_elderB (by (with_reducible repeat (first | apply Kd.V_alloc | apply Kd.V_drewN | apply Kd.V_drew)); exact HO_256008.out) gb296 (Nat.le_of_eq hg.symm)) hb); have n3_ := aM (Kd.V_below (Kd.V_elderB (by (with_reducible repeat (first | apply Kd.V_alloc | apply Kd.V_drewN | apply Kd.V_drew)); exact HO_279007.out) gb296 (Nat.le_of_eq hg.symm)) hb); have n4_ := aM (Kd.V_below (Kd.V_elderB (by (with_reducible repeat (first | apply Kd.V_alloc | apply Kd.V_drewN | apply Kd.V_drew)); exact HO_279008.out) gb296 (Nat.le_of_eq hg.symm)) hb); have n5_ := aM (Kd.V_below (Kd.V_elderB (by (with_reducible repeat (first | apply Kd.V_alloc | apply Kd.V_drewN | apply Kd.V_drew)); exact HO288.out) gb296 (Nat.le_of_eq hg.symm)) hb); have n6_ := aM (Kd.V_below (Kd.V_elderB (by (with_reducible repeat (first | apply Kd.V_alloc | apply Kd.V_drewN | apply Kd.V_drew)); exact HO291.out) gb296 (Nat.le_of_eq hg.symm)) hb); have n7_ := aM (Kd.R_below (by (with_reducible repeat (first | apply Kd.R_alloc | apply Kd.R_drewN | apply Kd.R_drew)); exact HO294.out) hb); have n8_ := aM (blk_below (g := gb255) (o := .cells #[.int .i64 x256000_1, .int .i64 x256001_1, .int .i64 x256002_1, .int .i64 x256003_1, .int .i64 x256004_1, .int .i64 x256005_1, .int .i64 x256006_1, .slice (some ad276) x256007_1.length co50, .slice Ao62 x256008_1.length co62] 28 (0, 0)) (by (with_reducible repeat (first | refine kN ?_ _ | refine kD ?_ | refine kA ?_ _)); exact BK255.out) hb); have n9_ := aM (blk_below (g := gb277) (o := .cells #[.int .i64 ((rd_T43 x256007_1 x52_2).f0), .int .i64 ((rd_T43 x256007_1 x52_2).f1)] 43 (0, 0)) (by (with_reducible repeat (first | refine kN ?_ _ | refine kD ?_ | refine kA ?_ _)); exact BK277.out) hb); have n10_ := aM (blk_below (g := gb278) (o := .cells #[.int .i64 x279000_3, .int .i64 x279001_3, .int .i64 x279002_3, .int .i64 x279003_3, .int .i64 x279004_3, .int .i64 x279005_3, .int .i64 x279006_3, .slice Ao72 x279007_3.length co72, .slice Ao73 x279008_3.length co73] 28 (0, 0)) (by (with_reducible repeat (first | refine kN ?_ _ | refine kD ?_ | refine kA ?_ _)); exact BK278.out) hb); have n11_ := aM (below_step (by repeat (first | (with_reducible first | exact HB.out | apply bA | apply bN | apply bD | refine bS ?_ GE255.out | refine bS ?_ GE277.out | refine bS ?_ GE278.out) | exact HB.out)) hb); have n12_ := aM (hbox); have n13_ := aM ((by rw [hg]; exact (below_size (by repeat (first | (with_reducible first | exact HB.out | apply bA | apply bN | apply bD | refine bS ?_ GE255.out | refine bS ?_ GE277.out | refine bS ?_ GE278.out) | exact HB.out))) : w.heap.size ≤ gb296)); have n14_ := aM ((by rw [hg]; exact (below_size (by repeat (first | (with_reducible first | exact HB.out | apply bA | apply bN | apply bD | refine bS ?_ GE255.out | refine bS ?_ GE277.out | refine bS ?_ GE278.out) | exact HB.out))) : w.heap.size ≤ gb296)); have n15_ := aM ((by rw [hg]; exact Nat.ne_of_lt (blk_lt (g := gb255) (o := .cells #[.int .i64 x256000_1, .int .i64 x256001_1, .int .i64 x256002_1, .int .i64 x256003_1, .int .i64 x256004_1, .int .i64 x256005_1, .int .i64 x256006_1, .slice (some ad276) x256007_1.length co50, .slice Ao62 x256008_1.length co62] 28 (0, 0)) (by (with_reducible repeat (first | refine kN ?_ _ | refine kD ?_ | refine kA ?_ _)); exact BK255.out)) : gb255 ≠ gb296)); have n16_ := aM ((by rw [hg]; exact Nat.ne_of_gt (blk_lt (g := gb255) (o := .cells #[.int .i64 x256000_1, .int .i64 x256001_1, .int .i64 x256002_1, .int .i64 x256003_1, .int .i64 x256004_1, .int .i64 x256005_1, .int .i64 x256006_1, .slice (some ad276) x256007_1.length co50, .slice Ao62 x256008_1.length co62] 28 (0, 0)) (by (with_reducible repeat (first | refine kN ?_ _ | refine kD ?_ | refine kA ?_ _)); exact BK255.out)) : gb296 ≠ gb255)); have n17_ := aM ((by rw [hg]; exact Nat.ne_of_lt (blk_lt (g := gb277) (o := .cells #[.int .i64 ((rd_T43 x256007_1 x52_2).f0), .int .i64 ((rd_T43 x256007_1 x52_2).f1)] 43 (0, 0)) (by (with_reducible repeat (first | refine kN ?_ _ | refine kD ?_ | refine kA ?_ _)); exact BK277.out)) : gb277 ≠ gb296)); have n18_ := aM ((by rw [hg]; exact Nat.ne_of_gt (blk_lt (g := gb277) (o := .cells #[.int .i64 ((rd_T43 x256007_1 x52_2).f0), .int .i64 ((rd_T43 x256007_1 x52_2).f1)] 43 (0, 0)) (by (with_reducible repeat (first | refine kN ?_ _ | refine kD ?_ | refine kA ?_ _)); exact BK277.out)) : gb296 ≠ gb277)); have n19_ := aM ((by rw [hg]; exact Nat.ne_of_lt (blk_lt (g := gb278) (o := .cells #[.int .i64 x279000_3, .int .i64 x279001_3, .int .i64 x279002_3, .int .i64 x279003_3, .int .i64 x279004_3, .int .i64 x279005_3, .int .i64 x279006_3, .slice Ao72 x279007_3.length co72, .slice Ao73 x279008_3.length co73] 28 (0, 0)) (by (with_reducible repeat (first | refine kN ?_ _ | refine kD ?_ | refine kA ?_ _)); exact BK278.out)) : gb278 ≠ gb296)); have n20_ := aM ((by rw [hg]; exact Nat.ne_of_gt (blk_lt (g := gb278) (o := .cells #[.int .i64 x279000_3, .int .i64 x279001_3, .int .i64 x279002_3, .int .i64 x279003_3, .int .i64 x279004_3, .int .i64 x279005_3, .int .i64 x279006_3, .slice Ao72 x279007_3.length co72, .slice Ao73 x279008_3.length co73] 28 (0, 0)) (by (with_reducible repeat (first | refine kN ?_ _ | refine kD ?_ | refine kA ?_ _)); exact BK278.out)) : gb296 ≠ gb278)); clear HO_50; clear HO_256007; clear HO_256008; clear HO_279007; clear HO_279008; clear HO288; clear HO291; clear HO294; clear BK255; clear BK277; clear BK278; clear HB; have HO_50 := n0_; have HO_256007 := n1_; have HO_256008 := n2_; have HO_279007 := n3_; have HO_279008 := n4_; have HO288 := n5_; have HO291 := n6_; have HO294 := n7_; have BK255 := n8_; have BK277 := n9_; have BK278 := n10_; have HB := n11_; have BK296 := n12_; have GW296 := n13_; have GE296 := n14_; have NB255_296 := n15_; have NB296_255 := n16_; have NB277_296 := n17_; have NB296_277 := n18_; have NB278_296 := n19_; have NB296_278 := n20_; clear n0_ n1_ n2_ n3_ n4_ n5_ n6_ n7_ n8_ n9_ n10_ n11_ n12_ n13_ n14_ n15_ n16_ n17_ n18_ n19_ n20_; clear hb hbox hg; have hnb76 := NB296_255.out; have hnc76 := NB255_296.out; have hnb77 := NB296_277.out; have hnc77 := NB277_296.out; have hnb78 := NB296_278.out; have hnc78 := NB278_296.out; obtain ⟨hcz79_0, hcz79_1, hcz79_2, hcz79_3, hcz79_4, hcz79_5, hcz79_6, hcz79_7, hcz79_8⟩ := cells9 BK296.out; obtain ⟨hfz79_0, hfz79_1, hfz79_2, hfz79_3, hfz79_4, hfz79_5, hfz79_6, hfz79_7, hfz79_8⟩ := froz9 BK296.out; obtain ⟨Ao80, co80, eo80⟩ := Kd.V_slice HO288.out; subst eo80; obtain ⟨Ao81, co81, eo81⟩ := Kd.V_slice HO291.out; subst eo81; obtain ⟨Ao82, co82, eo82⟩ := Kd.R_slice HO294.out; subst eo82))
                (try simp only [Act.put, List.setIfInBounds_toArray, List.set_cons_zero, List.set_cons_succ])
                go_loopg [14, 87] kj63 (fun kq v14 v87 w' => ∃ (x14_5 : Bool) (x87_5 : Int), v14 = .bool x14_5 ∧ v87 = .int .i64 x87_5 ∧ Aside0 (squelchlaw18_FloorServes.l3 kq t240 (wrap64 (x256006_1 + (wrap64 ((wrap64 (x52_2 + 1)) * 75)))) x14_5 x15_3 x256007_1 (x256007_1.length : Int) x52_2 t292 (t292.length : Int) x87_5 x256000_1 x256001_1 x256002_1 x256003_1 x256004_1 x256005_1 x256006_1 x256007_1 x256008_1 ((rd_T43 x256007_1 x52_2).f0) ((rd_T43 x256007_1 x52_2).f1) t279 t280 t281 t282 t283 t284 t285 t286 t289 = some r) ∧ Aside0 (kq ≤ kj63) ∧ Aside0 (Kd.V k43 43 w' w.heap.size (fun k_ => some k_ ≠ ((.slice Ao82 t292.length co82) : Value).ownBlock ∧ k_ ≠ gb255 ∧ k_ ≠ gb277 ∧ k_ ≠ gb278 ∧ k_ ≠ gb296) (.slice (some ad276) x256007_1.length co50) x256007_1) ∧ Aside0 (Kd.R k38 38 w' w.heap.size (fun _ => True) (.slice Ao82 t292.length co82) t292) ∧ Aside0 (Kd.V k43 43 w' w.heap.size (fun k_ => some k_ ≠ ((.slice Ao82 t292.length co82) : Value).ownBlock ∧ k_ ≠ gb255 ∧ k_ ≠ gb277 ∧ k_ ≠ gb278 ∧ k_ ≠ gb296) (.slice (some ad276) x256007_1.length co50) x256007_1) ∧ Aside0 (Kd.V (Kd.int .i64) 3 w' w.heap.size (fun k_ => some k_ ≠ ((.slice Ao82 t292.length co82) : Value).ownBlock ∧ k_ ≠ gb255 ∧ k_ ≠ gb277 ∧ k_ ≠ gb278 ∧ k_ ≠ gb296) (.slice Ao62 x256008_1.length co62) x256008_1) ∧ Aside0 (Kd.V k43 43 w' w.heap.size (fun k_ => some k_ ≠ ((.slice Ao82 t292.length co82) : Value).ownBlock ∧ k_ ≠ gb255 ∧ k_ ≠ gb277 ∧ k_ ≠ gb278 ∧ k_ ≠ gb296) (.slice Ao72 x279007_3.length co72) x279007_3) ∧ Aside0 (Kd.V (Kd.int .i64) 3 w' w.heap.size (fun k_ => some k_ ≠ ((.slice Ao82 t292.length co82) : Value).ownBlock ∧ k_ ≠ gb255 ∧ k_ ≠ gb277 ∧ k_ ≠ gb278 ∧ k_ ≠ gb296) (.slice Ao73 x279008_3.length co73) x279008_3) ∧ Aside0 (Kd.V k43 43 w' w.heap.size (fun k_ => some k_ ≠ ((.slice Ao82 t292.length co82) : Value).ownBlock ∧ k_ ≠ gb255 ∧ k_ ≠ gb277 ∧ k_ ≠ gb278 ∧ k_ ≠ gb296) (.slice Ao80 t286.length co80) t286) ∧ Aside0 (Kd.V (Kd.int .i64) 3 w' w.heap.size (fun k_ => some k_ ≠ ((.slice Ao82 t292.length co82) : Value).ownBlock ∧ k_ ≠ gb255 ∧ k_ ≠ gb277 ∧ k_ ≠ gb278 ∧ k_ ≠ gb296) (.slice Ao81 t289.length co81) t289) ∧ Aside0 (w'.heap[gb255]? = some (.cells #[.int .i64 x256000_1, .int .i64 x256001_1, .int .i64 x256002_1, .int .i64 x256003_1, .int .i64 x256004_1, .int .i64 x256005_1, .int .i64 x256006_1, (.slice (some ad276) x256007_1.length co50), (.slice Ao62 x256008_1.length co62)] 28 (0, 0))) ∧ Aside0 (w'.heap[gb277]? = some (.cells #[.int .i64 ((rd_T43 x256007_1 x52_2).f0), .int .i64 ((rd_T43 x256007_1 x52_2).f1)] 43 (0, 0))) ∧ Aside0 (w'.heap[gb278]? = some (.cells #[.int .i64 x279000_3, .int .i64 x279001_3, .int .i64 x279002_3, .int .i64 x279003_3, .int .i64 x279004_3, .int .i64 x279005_3, .int .i64 x279006_3, (.slice Ao72 x279007_3.length co72), (.slice Ao73 x279008_3.length co73)] 28 (0, 0))) ∧ Aside0 (w'.heap[gb296]? = some (.cells #[.int .i64 t279, .int .i64 t280, .int .i64 t281, .int .i64 t282, .int .i64 t283, .int .i64 t284, .int .i64 t285, (.slice Ao80 t286.length co80), (.slice Ao81 t289.length co81)] 28 (0, 0))) ∧ Aside0 (Below w.heap.size w w'))
                case atStart => exact ⟨(x14_3), (0), (by first | rfl | (simp; done) | (simp [*]; done)), (by first | rfl | (simp; done) | (simp [*]; done)), H', ⟨Nat.le_refl _⟩, ⟨by (with_reducible repeat (first | apply Kd.V_alloc | apply Kd.V_drewN | apply Kd.V_drew)); exact Kd.V_mono (Kd.V_far9 (g := gb296) (Kd.V_mono HO_50.out (fun k_ hk => (⟨hk, hk.2⟩ : _ ∧ k_ ≠ gb296))) (fun _ hk => hk.2) (.int .i64 t279) (.int .i64 t280) (.int .i64 t281) (.int .i64 t282) (.int .i64 t283) (.int .i64 t284) (.int .i64 t285) (.slice Ao80 t286.length co80) (.slice Ao81 t289.length co81)) (fun _ hk => ⟨hk.1.1.2, ⟨hk.1.1.1.1, ⟨hk.1.1.1.2.1, ⟨hk.1.1.1.2.2, hk.1.2⟩⟩⟩⟩)⟩, ⟨by (with_reducible repeat (first | apply Kd.R_alloc | apply Kd.R_drewN | apply Kd.R_drew)); exact Kd.R_mono (Kd.R_far9 (g := gb296) (Kd.R_types HO294.out BK296.out (by decide)) (fun _ hk => hk.2) (.int .i64 t279) (.int .i64 t280) (.int .i64 t281) (.int .i64 t282) (.int .i64 t283) (.int .i64 t284) (.int .i64 t285) (.slice Ao80 t286.length co80) (.slice Ao81 t289.length co81)) (fun _ hk => trivial)⟩, ⟨by (with_reducible repeat (first | apply Kd.V_alloc | apply Kd.V_drewN | apply Kd.V_drew)); exact Kd.V_mono (Kd.V_far9 (g := gb296) (Kd.V_mono HO_256007.out (fun k_ hk => (⟨hk, hk.2⟩ : _ ∧ k_ ≠ gb296))) (fun _ hk => hk.2) (.int .i64 t279) (.int .i64 t280) (.int .i64 t281) (.int .i64 t282) (.int .i64 t283) (.int .i64 t284) (.int .i64 t285) (.slice Ao80 t286.length co80) (.slice Ao81 t289.length co81)) (fun _ hk => ⟨hk.1.1.2, ⟨hk.1.1.1.1, ⟨hk.1.1.1.2.1, ⟨hk.1.1.1.2.2, hk.1.2⟩⟩⟩⟩)⟩, ⟨by (with_reducible repeat (first | apply Kd.V_alloc | apply Kd.V_drewN | apply Kd.V_drew)); exact Kd.V_mono (Kd.V_far9 (g := gb296) (Kd.V_mono HO_256008.out (fun k_ hk => (⟨hk, hk.2⟩ : _ ∧ k_ ≠ gb296))) (fun _ hk => hk.2) (.int .i64 t279) (.int .i64 t280) (.int .i64 t281) (.int .i64 t282) (.int .i64 t283) (.int .i64 t284) (.int .i64 t285) (.slice Ao80 t286.length co80) (.slice Ao81 t289.length co81)) (fun _ hk => ⟨hk.1.1.2, ⟨hk.1.1.1.1, ⟨hk.1.1.1.2.1, ⟨hk.1.1.1.2.2, hk.1.2⟩⟩⟩⟩)⟩, ⟨by (with_reducible repeat (first | apply Kd.V_alloc | apply Kd.V_drewN | apply Kd.V_drew)); exact Kd.V_mono (Kd.V_far9 (g := gb296) (Kd.V_mono HO_279007.out (fun k_ hk => (⟨hk, hk.2⟩ : _ ∧ k_ ≠ gb296))) (fun _ hk => hk.2) (.int .i64 t279) (.int .i64 t280) (.int .i64 t281) (.int .i64 t282) (.int .i64 t283) (.int .i64 t284) (.int .i64 t285) (.slice Ao80 t286.length co80) (.slice Ao81 t289.length co81)) (fun _ hk => ⟨hk.1.1.2, ⟨hk.1.1.1.1, ⟨hk.1.1.1.2.1, ⟨hk.1.1.1.2.2, hk.1.2⟩⟩⟩⟩)⟩, ⟨by (with_reducible repeat (first | apply Kd.V_alloc | apply Kd.V_drewN | apply Kd.V_drew)); exact Kd.V_mono (Kd.V_far9 (g := gb296) (Kd.V_mono HO_279008.out (fun k_ hk => (⟨hk, hk.2⟩ : _ ∧ k_ ≠ gb296))) (fun _ hk => hk.2) (.int .i64 t279) (.int .i64 t280) (.int .i64 t281) (.int .i64 t282) (.int .i64 t283) (.int .i64 t284) (.int .i64 t285) (.slice Ao80 t286.length co80) (.slice Ao81 t289.length co81)) (fun _ hk => ⟨hk.1.1.2, ⟨hk.1.1.1.1, ⟨hk.1.1.1.2.1, ⟨hk.1.1.1.2.2, hk.1.2⟩⟩⟩⟩)⟩, ⟨by (with_reducible repeat (first | apply Kd.V_alloc | apply Kd.V_drewN | apply Kd.V_drew)); exact Kd.V_mono (Kd.V_far9 (g := gb296) (Kd.V_mono HO288.out (fun k_ hk => (⟨hk, hk.2⟩ : _ ∧ k_ ≠ gb296))) (fun _ hk => hk.2) (.int .i64 t279) (.int .i64 t280) (.int .i64 t281) (.int .i64 t282) (.int .i64 t283) (.int .i64 t284) (.int .i64 t285) (.slice Ao80 t286.length co80) (.slice Ao81 t289.length co81)) (fun _ hk => ⟨hk.1.1.1, ⟨hk.1.1.2.1, ⟨hk.1.1.2.2.1, ⟨hk.1.1.2.2.2, hk.1.2⟩⟩⟩⟩)⟩, ⟨by (with_reducible repeat (first | apply Kd.V_alloc | apply Kd.V_drewN | apply Kd.V_drew)); exact Kd.V_mono (Kd.V_far9 (g := gb296) (Kd.V_mono HO291.out (fun k_ hk => (⟨hk, hk.2⟩ : _ ∧ k_ ≠ gb296))) (fun _ hk => hk.2) (.int .i64 t279) (.int .i64 t280) (.int .i64 t281) (.int .i64 t282) (.int .i64 t283) (.int .i64 t284) (.int .i64 t285) (.slice Ao80 t286.length co80) (.slice Ao81 t289.length co81)) (fun _ hk => ⟨hk.1.1.1, ⟨hk.1.1.2.1, ⟨hk.1.1.2.2.1, ⟨hk.1.1.2.2.2, hk.1.2⟩⟩⟩⟩)⟩, ⟨by (with_reducible repeat (first | refine kN ?_ _ | refine kD ?_ | refine kA ?_ _)); refine blk_far ?_ NB255_296.out _; (with_reducible repeat (first | refine kN ?_ _ | refine kD ?_ | refine kA ?_ _)); refine blk_far ?_ NB255_296.out _; (with_reducible repeat (first | refine kN ?_ _ | refine kD ?_ | refine kA ?_ _)); refine blk_far ?_ NB255_296.out _; (with_reducible repeat (first | refine kN ?_ _ | refine kD ?_ | refine kA ?_ _)); refine blk_far ?_ NB255_296.out _; (with_reducible repeat (first | refine kN ?_ _ | refine kD ?_ | refine kA ?_ _)); refine blk_far ?_ NB255_296.out _; (with_reducible repeat (first | refine kN ?_ _ | refine kD ?_ | refine kA ?_ _)); refine blk_far ?_ NB255_296.out _; (with_reducible repeat (first | refine kN ?_ _ | refine kD ?_ | refine kA ?_ _)); refine blk_far ?_ NB255_296.out _; (with_reducible repeat (first | refine kN ?_ _ | refine kD ?_ | refine kA ?_ _)); refine blk_far ?_ NB255_296.out _; (with_reducible repeat (first | refine kN ?_ _ | refine kD ?_ | refine kA ?_ _)); refine blk_far ?_ NB255_296.out _; (with_reducible repeat (first | refine kN ?_ _ | refine kD ?_ | refine kA ?_ _)); exact BK255.out⟩, ⟨by (with_reducible repeat (first | refine kN ?_ _ | refine kD ?_ | refine kA ?_ _)); refine blk_far ?_ NB277_296.out _; (with_reducible repeat (first | refine kN ?_ _ | refine kD ?_ | refine kA ?_ _)); refine blk_far ?_ NB277_296.out _; (with_reducible repeat (first | refine kN ?_ _ | refine kD ?_ | refine kA ?_ _)); refine blk_far ?_ NB277_296.out _; (with_reducible repeat (first | refine kN ?_ _ | refine kD ?_ | refine kA ?_ _)); refine blk_far ?_ NB277_296.out _; (with_reducible repeat (first | refine kN ?_ _ | refine kD ?_ | refine kA ?_ _)); refine blk_far ?_ NB277_296.out _; (with_reducible repeat (first | refine kN ?_ _ | refine kD ?_ | refine kA ?_ _)); refine blk_far ?_ NB277_296.out _; (with_reducible repeat (first | refine kN ?_ _ | refine kD ?_ | refine kA ?_ _)); refine blk_far ?_ NB277_296.out _; (with_reducible repeat (first | refine kN ?_ _ | refine kD ?_ | refine kA ?_ _)); refine blk_far ?_ NB277_296.out _; (with_reducible repeat (first | refine kN ?_ _ | refine kD ?_ | refine kA ?_ _)); refine blk_far ?_ NB277_296.out _; (with_reducible repeat (first | refine kN ?_ _ | refine kD ?_ | refine kA ?_ _)); exact BK277.out⟩, ⟨by (with_reducible repeat (first | refine kN ?_ _ | refine kD ?_ | refine kA ?_ _)); refine blk_far ?_ NB278_296.out _; (with_reducible repeat (first | refine kN ?_ _ | refine kD ?_ | refine kA ?_ _)); refine blk_far ?_ NB278_296.out _; (with_reducible repeat (first | refine kN ?_ _ | refine kD ?_ | refine kA ?_ _)); refine blk_far ?_ NB278_296.out _; (with_reducible repeat (first | refine kN ?_ _ | refine kD ?_ | refine kA ?_ _)); refine blk_far ?_ NB278_296.out _; (with_reducible repeat (first | refine kN ?_ _ | refine kD ?_ | refine kA ?_ _)); refine blk_far ?_ NB278_296.out _; (with_reducible repeat (first | refine kN ?_ _ | refine kD ?_ | refine kA ?_ _)); refine blk_far ?_ NB278_296.out _; (with_reducible repeat (first | refine kN ?_ _ | refine kD ?_ | refine kA ?_ _)); refine blk_far ?_ NB278_296.out _; (with_reducible repeat (first | refine kN ?_ _ | refine kD ?_ | refine kA ?_ _)); refine blk_far ?_ NB278_296.out _; (with_reducible repeat (first | refine kN ?_ _ | refine kD ?_ | refine kA ?_ _)); refine blk_far ?_ NB278_296.out _; (with_reducible repeat (first | refine kN ?_ _ | refine kD ?_ | refine kA ?_ _)); exact BK278.out⟩, ⟨by (with_reducible repeat (first | refine kN ?_ _ | refine kD ?_ | refine kA ?_ _)); refine blk_put (cs := #[.int .i64 t279, .int .i64 t280, .int .i64 t281, .int .i64 t282, .int .i64 t283, .int .i64 t284, .int .i64 t285, .slice Ao80 t286.length co80, .slice none 0 0]) ?_ 8 _ rfl; (with_reducible repeat (first | refine kN ?_ _ | refine kD ?_ | refine kA ?_ _)); refine blk_put (cs := #[.int .i64 t279, .int .i64 t280, .int .i64 t281, .int .i64 t282, .int .i64 t283, .int .i64 t284, .int .i64 t285, .slice none 0 0, .slice none 0 0]) ?_ 7 _ rfl; (with_reducible repeat (first | refine kN ?_ _ | refine kD ?_ | refine kA ?_ _)); refine blk_put (cs := #[.int .i64 t279, .int .i64 t280, .int .i64 t281, .int .i64 t282, .int .i64 t283, .int .i64 t284, .int .i64 0, .slice none 0 0, .slice none 0 0]) ?_ 6 _ rfl; (with_reducible repeat (first | refine kN ?_ _ | refine kD ?_ | refine kA ?_ _)); refine blk_put (cs := #[.int .i64 t279, .int .i64 t280, .int .i64 t281, .int .i64 t282, .int .i64 t283, .int .i64 0, .int .i64 0, .slice none 0 0, .slice none 0 0]) ?_ 5 _ rfl; (with_reducible repeat (first | refine kN ?_ _ | refine kD ?_ | refine kA ?_ _)); refine blk_put (cs := #[.int .i64 t279, .int .i64 t280, .int .i64 t281, .int .i64 t282, .int .i64 0, .int .i64 0, .int .i64 0, .slice none 0 0, .slice none 0 0]) ?_ 4 _ rfl; (with_reducible repeat (first | refine kN ?_ _ | refine kD ?_ | refine kA ?_ _)); refine blk_put (cs := #[.int .i64 t279, .int .i64 t280, .int .i64 t281, .int .i64 0, .int .i64 0, .int .i64 0, .int .i64 0, .slice none 0 0, .slice none 0 0]) ?_ 3 _ rfl; (with_reducible repeat (first | refine kN ?_ _ | refine kD ?_ | refine kA ?_ _)); refine blk_put (cs := #[.int .i64 t279, .int .i64 t280, .int .i64 0, .int .i64 0, .int .i64 0, .int .i64 0, .int .i64 0, .slice none 0 0, .slice none 0 0]) ?_ 2 _ rfl; (with_reducible repeat (first | refine kN ?_ _ | refine kD ?_ | refine kA ?_ _)); refine blk_put (cs := #[.int .i64 t279, .int .i64 0, .int .i64 0, .int .i64 0, .int .i64 0, .int .i64 0, .int .i64 0, .slice none 0 0, .slice none 0 0]) ?_ 1 _ rfl; (with_reducible repeat (first | refine kN ?_ _ | refine kD ?_ | refine kA ?_ _)); refine blk_put (cs := #[.int .i64 0, .int .i64 0, .int .i64 0, .int .i64 0, .int .i64 0, .int .i64 0, .int .i64 0, .slice none 0 0, .slice none 0 0]) ?_ 0 _ rfl; (with_reducible repeat (first | refine kN ?_ _ | refine kD ?_ | refine kA ?_ _)); exact BK296.out⟩, ⟨by repeat (first | (with_reducible first | exact HB.out | apply bA | apply bN | apply bD | refine bS ?_ GE255.out | refine bS ?_ GE277.out | refine bS ?_ GE278.out | refine bS ?_ GE296.out) | exact HB.out)⟩⟩
                case round =>
                 clear H'
                 try clear c1
                 try clear c2
                 try clear p2
                 try clear q2
                 try clear hx2
                 try clear c3
                 try clear c4
                 try clear c5
                 try clear c6
                 try clear p6
                 try clear c7
                 try clear c11
                 try clear c12
                 try clear c13
                 try clear c13b0
                 try clear c14
                 try clear c14b0
                 try clear c15
                 try clear c15b0
                 try clear c16
                 try clear c16b0
                 try clear c18
                 try clear c21
                 try clear c21b0
                 try clear c21b1
                 try clear c23
                 try clear p25
                 try clear q25
                 try clear hx25
                 try clear p27
                 try clear q27
                 try clear hx27
                 try clear c30
                 try clear c31
                 try clear c37
                 try clear c44
                 try clear c45
                 try clear c51
                 try clear c51b0
                 try clear c52
                 try clear c52b0
                 try clear c53
                 try clear c53b0
                 try clear c55
                 try clear c59
                 try clear c60
                 try clear p64
                 try clear c65
                 try clear c65b0
                 try clear c66
                 try clear c68
                 try clear c68b0
                 try clear c68b1
                 try clear c69
                 try clear c70
                 try clear c76
                 try clear c77
                 try clear c78
                 try clear hcz10_0
                 try clear hcz10_1
                 try clear hcz10_2
                 try clear hcz10_3
                 try clear hcz10_4
                 try clear hcz10_5
                 try clear hcz10_6
                 try clear hcz10_7
                 try clear hcz10_8
                 try clear hcz19_0
                 try clear hcz19_1
                 try clear hcz19_2
                 try clear hcz19_3
                 try clear hcz19_4
                 try clear hcz24_0
                 try clear hcz24_1
                 try clear hcz24_2
                 try clear hcz24_3
                 try clear hcz24_4
                 try clear hcz25_0
                 try clear hcz25_1
                 try clear hcz25_2
                 try clear hcz25_3
                 try clear hcz25_4
                 try clear hcz25_5
                 try clear hcz25_6
                 try clear hcz25_7
                 try clear hcz25_8
                 try clear hcz32_0
                 try clear hcz32_1
                 try clear hcz32_2
                 try clear hcz32_3
                 try clear hcz32_4
                 try clear hcz32_5
                 try clear hcz32_6
                 try clear hcz32_7
                 try clear hcz32_8
                 try clear hcz35_0
                 try clear hcz35_1
                 try clear hcz35_2
                 try clear hcz35_3
                 try clear hcz35_4
                 try clear hcz35_5
                 try clear hcz35_6
                 try clear hcz35_7
                 try clear hcz35_8
                 try clear hcz38_0
                 try clear hcz38_1
                 try clear hcz38_2
                 try clear hcz38_3
                 try clear hcz38_4
                 try clear hcz39_0
                 try clear hcz39_1
                 try clear hcz39_2
                 try clear hcz39_3
                 try clear hcz39_4
                 try clear hcz39_5
                 try clear hcz39_6
                 try clear hcz39_7
                 try clear hcz39_8
                 try clear hcz46_0
                 try clear hcz46_1
                 try clear hcz46_2
                 try clear hcz46_3
                 try clear hcz46_4
                 try clear hcz46_5
                 try clear hcz46_6
                 try clear hcz46_7
                 try clear hcz46_8
                 try clear hcz49_0
                 try clear hcz49_1
                 try clear hcz49_2
                 try clear hcz49_3
                 try clear hcz49_4
                 try clear hcz49_5
                 try clear hcz49_6
                 try clear hcz49_7
                 try clear hcz49_8
                 try clear hcz56_0
                 try clear hcz56_1
                 try clear hcz57_0
                 try clear hcz57_1
                 try clear hcz57_2
                 try clear hcz57_3
                 try clear hcz57_4
                 try clear hcz57_5
                 try clear hcz57_6
                 try clear hcz57_7
                 try clear hcz57_8
                 try clear hcz61_0
                 try clear hcz61_1
                 try clear hcz61_2
                 try clear hcz61_3
                 try clear hcz61_4
                 try clear hcz61_5
                 try clear hcz61_6
                 try clear hcz61_7
                 try clear hcz61_8
                 try clear hcz63_0
                 try clear hcz63_1
                 try clear hcz63_2
                 try clear hcz63_3
                 try clear hcz63_4
                 try clear hcz63_5
                 try clear hcz63_6
                 try clear hcz63_7
                 try clear hcz63_8
                 try clear hcz71_0
                 try clear hcz71_1
                 try clear hcz71_2
                 try clear hcz71_3
                 try clear hcz71_4
                 try clear hcz71_5
                 try clear hcz71_6
                 try clear hcz71_7
                 try clear hcz71_8
                 try clear hcz79_0
                 try clear hcz79_1
                 try clear hcz79_2
                 try clear hcz79_3
                 try clear hcz79_4
                 try clear hcz79_5
                 try clear hcz79_6
                 try clear hcz79_7
                 try clear hcz79_8
                 try clear hfz10_0
                 try clear hfz10_1
                 try clear hfz10_2
                 try clear hfz10_3
                 try clear hfz10_4
                 try clear hfz10_5
                 try clear hfz10_6
                 try clear hfz10_7
                 try clear hfz10_8
                 try clear hfz19_0
                 try clear hfz19_1
                 try clear hfz19_2
                 try clear hfz19_3
                 try clear hfz19_4
                 try clear hfz24_0
                 try clear hfz24_1
                 try clear hfz24_2
                 try clear hfz24_3
                 try clear hfz24_4
                 try clear hfz25_0
                 try clear hfz25_1
                 try clear hfz25_2
                 try clear hfz25_3
                 try clear hfz25_4
                 try clear hfz25_5
                 try clear hfz25_6
                 try clear hfz25_7
                 try clear hfz25_8
                 try clear hfz32_0
                 try clear hfz32_1
                 try clear hfz32_2
                 try clear hfz32_3
                 try clear hfz32_4
                 try clear hfz32_5
                 try clear hfz32_6
                 try clear hfz32_7
                 try clear hfz32_8
                 try clear hfz35_0
                 try clear hfz35_1
                 try clear hfz35_2
                 try clear hfz35_3
                 try clear hfz35_4
                 try clear hfz35_5
                 try clear hfz35_6
                 try clear hfz35_7
                 try clear hfz35_8
                 try clear hfz38_0
                 try clear hfz38_1
                 try clear hfz38_2
                 try clear hfz38_3
                 try clear hfz38_4
                 try clear hfz39_0
                 try clear hfz39_1
                 try clear hfz39_2
                 try clear hfz39_3
                 try clear hfz39_4
                 try clear hfz39_5
                 try clear hfz39_6
                 try clear hfz39_7
                 try clear hfz39_8
                 try clear hfz46_0
                 try clear hfz46_1
                 try clear hfz46_2
                 try clear hfz46_3
                 try clear hfz46_4
                 try clear hfz46_5
                 try clear hfz46_6
                 try clear hfz46_7
                 try clear hfz46_8
                 try clear hfz49_0
                 try clear hfz49_1
                 try clear hfz49_2
                 try clear hfz49_3
                 try clear hfz49_4
                 try clear hfz49_5
                 try clear hfz49_6
                 try clear hfz49_7
                 try clear hfz49_8
                 try clear hfz56_0
                 try clear hfz56_1
                 try clear hfz57_0
                 try clear hfz57_1
                 try clear hfz57_2
                 try clear hfz57_3
                 try clear hfz57_4
                 try clear hfz57_5
                 try clear hfz57_6
                 try clear hfz57_7
                 try clear hfz57_8
                 try clear hfz61_0
                 try clear hfz61_1
                 try clear hfz61_2
                 try clear hfz61_3
                 try clear hfz61_4
                 try clear hfz61_5
                 try clear hfz61_6
                 try clear hfz61_7
                 try clear hfz61_8
                 try clear hfz63_0
                 try clear hfz63_1
                 try clear hfz63_2
                 try clear hfz63_3
                 try clear hfz63_4
                 try clear hfz63_5
                 try clear hfz63_6
                 try clear hfz63_7
                 try clear hfz63_8
                 try clear hfz71_0
                 try clear hfz71_1
                 try clear hfz71_2
                 try clear hfz71_3
                 try clear hfz71_4
                 try clear hfz71_5
                 try clear hfz71_6
                 try clear hfz71_7
                 try clear hfz71_8
                 try clear hfz79_0
                 try clear hfz79_1
                 try clear hfz79_2
                 try clear hfz79_3
                 try clear hfz79_4
                 try clear hfz79_5
                 try clear hfz79_6
                 try clear hfz79_7
                 try clear hfz79_8
                 try clear hx256_0
                 try clear hx256_1
                 try clear hx256_2
                 try clear hx256_3
                 try clear hx256_4
                 try clear hx276_0
                 try clear hx276_1
                 try clear p2
                 try clear p25
                 try clear p256
                 try clear p27
                 try clear p276
                 try clear p6
                 try clear p64
                 try clear q2
                 try clear q25
                 try clear q256
                 try clear q27
                 try clear q276
                 obtain ⟨x14_5, x87_5, rfl, rfl, HA, HK5, HO_50, HO_85, HO_256007, HO_256008, HO_279007, HO_279008, HO_297007, HO_297008, BK255, BK277, BK278, BK296, HB⟩ := hrel
                 cases gk with
                 | zero => exact absurd HA.out (by simp [squelchlaw18_FloorServes.l3])
                 | succ k5 =>
                  have H := HA.out
                  clear HA
                  simp only [squelchlaw18_FloorServes.l3] at H
                  by_cases c83 : x87_5 < (t292.length : Int)
                  ·rw [if_pos c83] at H
                   have c83b0 : decide (x87_5 < (t292.length : Int)) = true := decide_eq_true c83
                   clear c83
                   by_cases c84 : 0 ≤ x87_5
                   ·rw [if_pos c84] at H
                    have c84b0 : decide (0 ≤ x87_5) = true := decide_eq_true c84
                    clear c84
                    by_cases c85 : x87_5 < (t292.length : Int)
                    ·rw [if_pos c85] at H
                     have c85b0 : decide (x87_5 < (t292.length : Int)) = true := decide_eq_true c85
                     clear c85
                     by_cases c86 : x14_5 = true
                     ·subst c86
                      have H1 : (squelchlaw18_FloorServes.l3 k5 t240 (wrap64 (x256006_1 + (wrap64 ((wrap64 (x52_2 + 1)) * 75)))) true x15_3 x256007_1 (x256007_1.length : Int) x52_2 t292 (t292.length : Int) (wrap64 (x87_5 + 1)) x256000_1 x256001_1 x256002_1 x256003_1 x256004_1 x256005_1 x256006_1 x256007_1 x256008_1 ((rd_T43 x256007_1 x52_2).f0) ((rd_T43 x256007_1 x52_2).f1) t279 t280 t281 t282 t283 t284 t285 t286 t289) = some r := by rw [if_pos rfl] at H; exact H
                      clear H
                      have H := H1
                      clear H1
                      have H' := aM H
                      clear H
                      have p297 : 0 ≤ (x87_5 : Int) := of_decide_eq_true (by first | (with_reducible assumption) | assumption)
                      have q297 : x87_5 < (t292.length : Int) := of_decide_eq_true (by first | (with_reducible assumption) | assumption)
                      obtain ⟨ad297, e297, hx297_0, hx297_1, hx297_2, hx297_3⟩ := at_T38 (Kd.R_reads' HO_85.out).2.2 x87_5 p297 q297
                      cases e297
                      replace p297 := eq_true p297
                      replace q297 := eq_true q297
                      go_wp2_with (first | ((with_reducible refine gate_dst (N := 20) rfl ?_); refine box_event ?hg (N := 20) ?hd (cs := #[.int .i64 0, .int .i64 0, .int .i64 0, .int .i64 0]) (t := 38) ?hr ?_; (case hd => rfl); (case hg => rfl); (case hr => first | (go_simp; done) | (go_simp; rfl)); intro gb298 hg w87 hbox hb; have n0_ := aM (Kd.V_below (Kd.V_elderB (by (with_reducible repeat (first | apply Kd.V_alloc | apply Kd.V_drewN | apply Kd.V_drew)); exact HO_50.out) gb298 (Nat.le_of_eq hg.symm)) hb); have n1_ := aM (Kd.R_below (Kd.R_elderB (by (with_reducible repeat (first | apply Kd.R_alloc | apply Kd.R_drewN | apply Kd.R_drew)); exact HO_85.out) gb298 (Nat.le_of_eq hg.symm)) hb); have n2_ := aM (Kd.V_below (Kd.V_elderB (by (with_reducible repeat (first | apply Kd.V_alloc | apply Kd.V_drewN | apply Kd.V_drew)); exact HO_256007.out) gb298 (Nat.le_of_eq hg.symm)) hb); have n3_ := aM (Kd.V_below (Kd.V_elderB (by (with_reducible repeat (first | apply Kd.V_alloc | apply Kd.V_drewN | apply Kd.V_drew)); exact HO_256008.out) gb298 (Nat.le_of_eq hg.symm)) hb); have n4_ := aM (Kd.V_below (Kd.V_elderB (by (with_reducible repeat (first | apply Kd.V_alloc | apply Kd.V_drewN | apply Kd.V_drew)); exact HO_279007.out) gb298 (Nat.le_of_eq hg.symm)) hb); have n5_ := aM (Kd.V_below (Kd.V_elderB (by (with_reducible repeat (first | apply Kd.V_alloc | apply Kd.V_drewN | apply Kd.V_drew)); exact HO_279008.out) gb298 (Nat.le_of_eq hg.symm)) hb); have n6_ := aM (Kd.V_below (Kd.V_elderB (by (with_reducible repeat (first | apply Kd.V_alloc | apply Kd.V_drewN | apply Kd.V_drew)); exact HO_297007.out) gb298 (Nat.le_of_eq hg.symm)) hb); have n7_ := aM (Kd.V_below (Kd.V_elderB (by (with_reducible repeat (first | apply Kd.V_alloc | apply Kd.V_drewN | apply Kd.V_drew)); exact HO_297008.out) gb298 (Nat.le_of_eq hg.symm)) hb); have n8_ := aM (blk_below (g := gb255) (o := .cells #[.int .i64 x256000_1, .int .i64 x256001_1, .int .i64 x256002_1, .int .i64 x256003_1, .int .i64 x256004_1, .int .i64 x256005_1, .int .i64 x256006_1, .slice (some ad276) x256007_1.length co50, .slice Ao62 x256008_1.length co62] 28 (0, 0)) (by (with_reducible repeat (first | refine kN ?_ _ | refine kD ?_ | refine kA ?_ _)); exact BK255.out) hb); have n9_ := aM (blk_below (g := gb277) (o := .cells #[.int .i64 ((rd_T43 x256007_1 x52_2).f0), .int .i64 ((rd_T43 x256007_1 x52_2).f1)] 43 (0, 0)) (by (with_reducible repeat (first | refine kN ?_ _ | refine kD ?_ | refine kA ?_ _)); exact BK277.out) hb); have n10_ := aM (blk_below (g := gb278) (o := .cells #[.int .i64 x279000_3, .int .i64 x279001_3, .int .i64 x279002_3, .int .i64 x279003_3, .int .i64 x279004_3, .int .i64 x279005_3, .int .i64 x279006_3, .slice Ao72 x279007_3.length co72, .slice Ao73 x279008_3.length co73] 28 (0, 0)) (by (with_reducible repeat (first | refine kN ?_ _ | refine kD ?_ | refine kA ?_ _)); exact BK278.out) hb); have n11_ := aM (blk_below (g := gb296) (o := .cells #[.int .i64 t279, .int .i64 t280, .int .i64 t281, .int .i64 t282, .int .i64 t283, .int .i64 t284, .int .i64 t285, .slice Ao80 t286.length co80, .slice Ao81 t289.length co81] 28 (0, 0)) (by (with_reducible repeat (first | refine kN ?_ _ | refine kD ?_ | refine kA ?_ _)); exact BK296.out) hb); have n12_ := aM (below_step (by repeat (first | (with_reducible first | exact HB.out | apply bA | apply bN | apply bD | refine bS ?_ GE255.out | refine bS ?_ GE277.out | refine bS ?_ GE278.out | refine bS ?_ GE296.out) | exact HB.out)) hb); have n13_ := aM (hbox); have n14_ := aM ((by rw [hg]; exact (below_size (by repeat (first | (with_reducible first | exact HB.out | apply bA | apply bN | apply bD | refine bS ?_ GE255.out | refine bS ?_ GE277.out | refine bS ?_ GE278.out | refine bS ?_ GE296.out) | exact HB.out))) : w.heap.size ≤ gb298)); have n15_ := aM ((by rw [hg]; exact (below_size (by repeat (first | (with_reducible first | exact HB.out | apply bA | apply bN | apply bD | refine bS ?_ GE255.out | refine bS ?_ GE277.out | refine bS ?_ GE278.out | refine bS ?_ GE296.out) | exact HB.out))) : w.heap.size ≤ gb298)); have n16_ := aM ((by rw [hg]; exact Nat.ne_of_lt (blk_lt (g := gb255) (o := .cells #[.int .i64 x256000_1, .int .i64 x256001_1, .int .i64 x256002_1, .int .i64 x256003_1, .int .i64 x256004_1, .int .i64 x256005_1, .int .i64 x256006_1, .slice (some ad276) x256007_1.length co50, .slice Ao62 x256008_1.length co62] 28 (0, 0)) (by (with_reducible repeat (first | refine kN ?_ _ | refine kD ?_ | refine kA ?_ _)); exact BK255.out)) : gb255 ≠ gb298)); have n17_ := aM ((by rw [hg]; exact Nat.ne_of_gt (blk_lt (g := gb255) (o := .cells #[.int .i64 x256000_1, .int .i64 x256001_1, .int .i64 x256002_1, .int .i64 x256003_1, .int .i64 x256004_1, .int .i64 x256005_1, .int .i64 x256006_1, .slice (some ad276) x256007_1.length co50, .slice Ao62 x256008_1.length co62] 28 (0, 0)) (by (with_reducible repeat (first | refine kN ?_ _ | refine kD ?_ | refine kA ?_ _)); exact BK255.out)) : gb298 ≠ gb255)); have n18_ := aM ((by rw [hg]; exact Nat.ne_of_lt (blk_lt (g := gb277) (o := .cells #[.int .i64 ((rd_T43 x256007_1 x52_2).f0), .int .i64 ((rd_T43 x256007_1 x52_2).f1)] 43 (0, 0)) (by (with_reducible repeat (first | refine kN ?_ _ | refine kD ?_ | refine kA ?_ _)); exact BK277.out)) : gb277 ≠ gb298)); have n19_ := aM ((by rw [hg]; exact Nat.ne_of_gt (blk_lt (g := gb277) (o := .cells #[.int .i64 ((rd_T43 x256007_1 x52_2).f0), .int .i64 ((rd_T43 x256007_1 x52_2).f1)] 43 (0, 0)) (by (with_reducible repeat (first | refine kN ?_ _ | refine kD ?_ | refine kA ?_ _)); exact BK277.out)) : gb298 ≠ gb277)); have n20_ := aM ((by rw [hg]; exact Nat.ne_of_lt (blk_lt (g := gb278) (o := .cells #[.int .i64 x279000_3, .int .i64 x279001_3, .int .i64 x279002_3, .int .i64 x279003_3, .int .i64 x279004_3, .int .i64 x279005_3, .int .i64 x279006_3, .slice Ao72 x279007_3.length co72, .slice Ao73 x279008_3.length co73] 28 (0, 0)) (by (with_reducible repeat (first | refine kN ?_ _ | refine kD ?_ | refine kA ?_ _)); exact BK278.out)) : gb278 ≠ gb298)); have n21_ := aM ((by rw [hg]; exact Nat.ne_of_gt (blk_lt (g := gb278) (o := .cells #[.int .i64 x279000_3, .int .i64 x279001_3, .int .i64 x279002_3, .int .i64 x279003_3, .int .i64 x279004_3, .int .i64 x279005_3, .int .i64 x279006_3, .slice Ao72 x279007_3.length co72, .slice Ao73 x279008_3.length co73] 28 (0, 0)) (by (with_reducible repeat (first | refine kN ?_ _ | refine kD ?_ | refine kA ?_ _)); exact BK278.out)) : gb298 ≠ gb278)); have n22_ := aM ((by rw [hg]; exact Nat.ne_of_lt (blk_lt (g := gb296) (o := .cells #[.int .i64 t279, .int .i64 t280, .int .i64 t281, .int .i64 t282, .int .i64 t283, .int .i64 t284, .int .i64 t285, .slice Ao80 t286.length co80, .slice Ao81 t289.length co81] 28 (0, 0)) (by (with_reducible repeat (first | refine kN ?_ _ | refine kD ?_ | refine kA ?_ _)); exact BK296.out)) : gb296 ≠ gb298)); have n23_ := aM ((by rw [hg]; exact Nat.ne_of_gt (blk_lt (g := gb296) (o := .cells #[.int .i64 t279, .int .i64 t280, .int .i64 t281, .int .i64 t282, .int .i64 t283, .int .i64 t284, .int .i64 t285, .slice Ao80 t286.length co80, .slice Ao81 t289.length co81] 28 (0, 0)) (by (with_reducible repeat (first | refine kN ?_ _ | refine kD ?_ | refine kA ?_ _)); exact BK296.out)) : gb298 ≠ gb296)); clear HO_50; clear HO_85; clear HO_256007; clear HO_256008; clear HO_279007; clear HO_279008; clear HO_297007; clear HO_297008; clear BK255; clear BK277; clear BK278; clear BK296; clear HB; have HO_50 := n0_; have HO_85 := n1_; have HO_256007 := n2_; have HO_256008 := n3_; have HO_279007 := n4_; have HO_279008 := n5_; have HO_297007 := n6_; have HO_297008 := n7_; have BK255 := n8_; have BK277 := n9_; have BK278 := n10_; have BK296 := n11_; have HB := n12_; have BK298 := n13_; have GW298 := n14_; have GE298 := n15_; have NB255_298 := n16_; have NB298_255 := n17_; have NB277_298 := n18_; have NB298_277 := n19_; have NB278_298 := n20_; have NB298_278 := n21_; have NB296_298 := n22_; have NB298_296 := n23_; clear n0_ n1_ n2_ n3_ n4_ n5_ n6_ n7_ n8_ n9_ n10_ n11_ n12_ n13_ n14_ n15_ n16_ n17_ n18_ n19_ n20_ n21_ n22_ n23_; clear hb hbox hg; have hnb88 := NB298_255.out; have hnc88 := NB255_298.out; have hnb89 := NB298_277.out; have hnc89 := NB277_298.out; have hnb90 := NB298_278.out; have hnc90 := NB278_298.out; have hnb91 := NB298_296.out; have hnc91 := NB296_298.out; obtain ⟨hcz92_0, hcz92_1, hcz92_2, hcz92_3⟩ := cells4 BK298.out; obtain ⟨hfz92_0, hfz92_1, hfz92_2, hfz92_3⟩ := froz4 BK298.out))
                      go_roundg k5
                      case measure => have := HK1.out; have := HK2.out; have := HK3.out; have := HJ63.out; have := HK5.out; omega
                      case rel => exact ⟨(true), (wrap64 (x87_5 + 1)), (by first | rfl | (simp; done) | (simp [*]; done)), (by first | rfl | (simp; done) | (simp [*]; done)), H', ⟨by have := HK1.out; have := HK2.out; have := HK3.out; have := HJ63.out; have := HK5.out; omega⟩, ⟨by (with_reducible repeat (first | apply Kd.V_alloc | apply Kd.V_drewN | apply Kd.V_drew)); exact Kd.V_mono (Kd.V_far4 (g := gb298) (Kd.V_mono HO_50.out (fun k_ hk => (⟨hk, hk.2⟩ : _ ∧ k_ ≠ gb298))) (fun _ hk => hk.2) (.int .i64 ((rd_T38 t292 x87_5).f0)) (.int .i64 ((rd_T38 t292 x87_5).f1)) (.int .i64 ((rd_T38 t292 x87_5).f2)) (.int .i64 ((rd_T38 t292 x87_5).f3))) (fun _ hk => ⟨hk.1.1.1, ⟨hk.1.1.2.1, ⟨hk.1.1.2.2.1, ⟨hk.1.1.2.2.2.1, hk.1.1.2.2.2.2⟩⟩⟩⟩)⟩, ⟨by (with_reducible repeat (first | apply Kd.R_alloc | apply Kd.R_drewN | apply Kd.R_drew)); exact Kd.R_mono (Kd.R_far4 (g := gb298) (Kd.R_mono HO_85.out (fun k_ hk => (⟨hk, hk.2⟩ : _ ∧ k_ ≠ gb298))) (fun _ hk => hk.2) (.int .i64 ((rd_T38 t292 x87_5).f0)) (.int .i64 ((rd_T38 t292 x87_5).f1)) (.int .i64 ((rd_T38 t292 x87_5).f2)) (.int .i64 ((rd_T38 t292 x87_5).f3))) (fun _ hk => trivial)⟩, ⟨by (with_reducible repeat (first | apply Kd.V_alloc | apply Kd.V_drewN | apply Kd.V_drew)); exact Kd.V_mono (Kd.V_far4 (g := gb298) (Kd.V_mono HO_256007.out (fun k_ hk => (⟨hk, hk.2⟩ : _ ∧ k_ ≠ gb298))) (fun _ hk => hk.2) (.int .i64 ((rd_T38 t292 x87_5).f0)) (.int .i64 ((rd_T38 t292 x87_5).f1)) (.int .i64 ((rd_T38 t292 x87_5).f2)) (.int .i64 ((rd_T38 t292 x87_5).f3))) (fun _ hk => ⟨hk.1.1.1, ⟨hk.1.1.2.1, ⟨hk.1.1.2.2.1, ⟨hk.1.1.2.2.2.1, hk.1.1.2.2.2.2⟩⟩⟩⟩)⟩, ⟨by (with_reducible repeat (first | apply Kd.V_alloc | apply Kd.V_drewN | apply Kd.V_drew)); exact Kd.V_mono (Kd.V_far4 (g := gb298) (Kd.V_mono HO_256008.out (fun k_ hk => (⟨hk, hk.2⟩ : _ ∧ k_ ≠ gb298))) (fun _ hk => hk.2) (.int .i64 ((rd_T38 t292 x87_5).f0)) (.int .i64 ((rd_T38 t292 x87_5).f1)) (.int .i64 ((rd_T38 t292 x87_5).f2)) (.int .i64 ((rd_T38 t292 x87_5).f3))) (fun _ hk => ⟨hk.1.1.1, ⟨hk.1.1.2.1, ⟨hk.1.1.2.2.1, ⟨hk.1.1.2.2.2.1, hk.1.1.2.2.2.2⟩⟩⟩⟩)⟩, ⟨by (with_reducible repeat (first | apply Kd.V_alloc | apply Kd.V_drewN | apply Kd.V_drew)); exact Kd.V_mono (Kd.V_far4 (g := gb298) (Kd.V_mono HO_279007.out (fun k_ hk => (⟨hk, hk.2⟩ : _ ∧ k_ ≠ gb298))) (fun _ hk => hk.2) (.int .i64 ((rd_T38 t292 x87_5).f0)) (.int .i64 ((rd_T38 t292 x87_5).f1)) (.int .i64 ((rd_T38 t292 x87_5).f2)) (.int .i64 ((rd_T38 t292 x87_5).f3))) (fun _ hk => ⟨hk.1.1.1, ⟨hk.1.1.2.1, ⟨hk.1.1.2.2.1, ⟨hk.1.1.2.2.2.1, hk.1.1.2.2.2.2⟩⟩⟩⟩)⟩, ⟨by (with_reducible repeat (first | apply Kd.V_alloc | apply Kd.V_drewN | apply Kd.V_drew)); exact Kd.V_mono (Kd.V_far4 (g := gb298) (Kd.V_mono HO_279008.out (fun k_ hk => (⟨hk, hk.2⟩ : _ ∧ k_ ≠ gb298))) (fun _ hk => hk.2) (.int .i64 ((rd_T38 t292 x87_5).f0)) (.int .i64 ((rd_T38 t292 x87_5).f1)) (.int .i64 ((rd_T38 t292 x87_5).f2)) (.int .i64 ((rd_T38 t292 x87_5).f3))) (fun _ hk => ⟨hk.1.1.1, ⟨hk.1.1.2.1, ⟨hk.1.1.2.2.1, ⟨hk.1.1.2.2.2.1, hk.1.1.2.2.2.2⟩⟩⟩⟩)⟩, ⟨by (with_reducible repeat (first | apply Kd.V_alloc | apply Kd.V_drewN | apply Kd.V_drew)); exact Kd.V_mono (Kd.V_far4 (g := gb298) (Kd.V_mono HO_297007.out (fun k_ hk => (⟨hk, hk.2⟩ : _ ∧ k_ ≠ gb298))) (fun _ hk => hk.2) (.int .i64 ((rd_T38 t292 x87_5).f0)) (.int .i64 ((rd_T38 t292 x87_5).f1)) (.int .i64 ((rd_T38 t292 x87_5).f2)) (.int .i64 ((rd_T38 t292 x87_5).f3))) (fun _ hk => ⟨hk.1.1.1, ⟨hk.1.1.2.1, ⟨hk.1.1.2.2.1, ⟨hk.1.1.2.2.2.1, hk.1.1.2.2.2.2⟩⟩⟩⟩)⟩, ⟨by (with_reducible repeat (first | apply Kd.V_alloc | apply Kd.V_drewN | apply Kd.V_drew)); exact Kd.V_mono (Kd.V_far4 (g := gb298) (Kd.V_mono HO_297008.out (fun k_ hk => (⟨hk, hk.2⟩ : _ ∧ k_ ≠ gb298))) (fun _ hk => hk.2) (.int .i64 ((rd_T38 t292 x87_5).f0)) (.int .i64 ((rd_T38 t292 x87_5).f1)) (.int .i64 ((rd_T38 t292 x87_5).f2)) (.int .i64 ((rd_T38 t292 x87_5).f3))) (fun _ hk => ⟨hk.1.1.1, ⟨hk.1.1.2.1, ⟨hk.1.1.2.2.1, ⟨hk.1.1.2.2.2.1, hk.1.1.2.2.2.2⟩⟩⟩⟩)⟩, ⟨by (with_reducible repeat (first | refine kN ?_ _ | refine kD ?_ | refine kA ?_ _)); refine blk_far ?_ NB255_298.out _; (with_reducible repeat (first | refine kN ?_ _ | refine kD ?_ | refine kA ?_ _)); refine blk_far ?_ NB255_298.out _; (with_reducible repeat (first | refine kN ?_ _ | refine kD ?_ | refine kA ?_ _)); refine blk_far ?_ NB255_298.out _; (with_reducible repeat (first | refine kN ?_ _ | refine kD ?_ | refine kA ?_ _)); refine blk_far ?_ NB255_298.out _; (with_reducible repeat (first | refine kN ?_ _ | refine kD ?_ | refine kA ?_ _)); exact BK255.out⟩, ⟨by (with_reducible repeat (first | refine kN ?_ _ | refine kD ?_ | refine kA ?_ _)); refine blk_far ?_ NB277_298.out _; (with_reducible repeat (first | refine kN ?_ _ | refine kD ?_ | refine kA ?_ _)); refine blk_far ?_ NB277_298.out _; (with_reducible repeat (first | refine kN ?_ _ | refine kD ?_ | refine kA ?_ _)); refine blk_far ?_ NB277_298.out _; (with_reducible repeat (first | refine kN ?_ _ | refine kD ?_ | refine kA ?_ _)); refine blk_far ?_ NB277_298.out _; (with_reducible repeat (first | refine kN ?_ _ | refine kD ?_ | refine kA ?_ _)); exact BK277.out⟩, ⟨by (with_reducible repeat (first | refine kN ?_ _ | refine kD ?_ | refine kA ?_ _)); refine blk_far ?_ NB278_298.out _; (with_reducible repeat (first | refine kN ?_ _ | refine kD ?_ | refine kA ?_ _)); refine blk_far ?_ NB278_298.out _; (with_reducible repeat (first | refine kN ?_ _ | refine kD ?_ | refine kA ?_ _)); refine blk_far ?_ NB278_298.out _; (with_reducible repeat (first | refine kN ?_ _ | refine kD ?_ | refine kA ?_ _)); refine blk_far ?_ NB278_298.out _; (with_reducible repeat (first | refine kN ?_ _ | refine kD ?_ | refine kA ?_ _)); exact BK278.out⟩, ⟨by (with_reducible repeat (first | refine kN ?_ _ | refine kD ?_ | refine kA ?_ _)); refine blk_far ?_ NB296_298.out _; (with_reducible repeat (first | refine kN ?_ _ | refine kD ?_ | refine kA ?_ _)); refine blk_far ?_ NB296_298.out _; (with_reducible repeat (first | refine kN ?_ _ | refine kD ?_ | refine kA ?_ _)); refine blk_far ?_ NB296_298.out _; (with_reducible repeat (first | refine kN ?_ _ | refine kD ?_ | refine kA ?_ _)); refine blk_far ?_ NB296_298.out _; (with_reducible repeat (first | refine kN ?_ _ | refine kD ?_ | refine kA ?_ _)); exact BK296.out⟩, ⟨by repeat (first | (with_reducible first | exact HB.out | apply bA | apply bN | apply bD | refine bS ?_ GE255.out | refine bS ?_ GE277.out | refine bS ?_ GE278.out | refine bS ?_ GE296.out | refine bS ?_ GE298.out) | exact HB.out)⟩⟩
                     ·replace c86 := Bool.eq_false_iff.mpr c86
                      subst c86
                      have H1 : (if ((rd_T38 t292 x87_5).f0) = 5 then (squelchlaw18_FloorServes.l3 k5 t240 (wrap64 (x256006_1 + (wrap64 ((wrap64 (x52_2 + 1)) * 75)))) (((rd_T38 t292 x87_5).f1) == ((rd_T43 x256007_1 x52_2).f0)) x15_3 x256007_1 (x256007_1.length : Int) x52_2 t292 (t292.length : Int) (wrap64 (x87_5 + 1)) x256000_1 x256001_1 x256002_1 x256003_1 x256004_1 x256005_1 x256006_1 x256007_1 x256008_1 ((rd_T43 x256007_1 x52_2).f0) ((rd_T43 x256007_1 x52_2).f1) t279 t280 t281 t282 t283 t284 t285 t286 t289) else (squelchlaw18_FloorServes.l3 k5 t240 (wrap64 (x256006_1 + (wrap64 ((wrap64 (x52_2 + 1)) * 75)))) false x15_3 x256007_1 (x256007_1.length : Int) x52_2 t292 (t292.length : Int) (wrap64 (x87_5 + 1)) x256000_1 x256001_1 x256002_1 x256003_1 x256004_1 x256005_1 x256006_1 x256007_1 x256008_1 ((rd_T43 x256007_1 x52_2).f0) ((rd_T43 x256007_1 x52_2).f1) t279 t280 t281 t282 t283 t284 t285 t286 t289)) = some r := by rw [if_neg (show ¬ (false = true) by decide)] at H; exact H
                      clear H
                      have H := H1
                      clear H1
                      by_cases c93 : ((rd_T38 t292 x87_5).f0) = 5
                      ·rw [if_pos c93] at H
                       have c93b0 : (((rd_T38 t292 x87_5).f0) == 5) = true := beq_iff_eq.mpr c93
                       have c93b1 : (((rd_T38 t292 x87_5).f0) != 5) = false := bne_eq_false_iff_eq.mpr c93
                       clear c93
                       have H' := aM H
                       clear H
                       have p297 : 0 ≤ (x87_5 : Int) := of_decide_eq_true (by first | (with_reducible assumption) | assumption)
                       have q297 : x87_5 < (t292.length : Int) := of_decide_eq_true (by first | (with_reducible assumption) | assumption)
                       obtain ⟨ad297, e297, hx297_0, hx297_1, hx297_2, hx297_3⟩ := at_T38 (Kd.R_reads' HO_85.out).2.2 x87_5 p297 q297
                       cases e297
                       replace p297 := eq_true p297
                       replace q297 := eq_true q297
                       go_wp2_with (first | ((with_reducible refine gate_dst (N := 20) rfl ?_); refine box_event ?hg (N := 20) ?hd (cs := #[.int .i64 0, .int .i64 0, .int .i64 0, .int .i64 0]) (t := 38) ?hr ?_; (case hd => rfl); (case hg => rfl); (case hr => first | (go_simp; done) | (go_simp; rfl)); intro gb298 hg w94 hbox hb; have n0_ := aM (Kd.V_below (Kd.V_elderB (by (with_reducible repeat (first | apply Kd.V_alloc | apply Kd.V_drewN | apply Kd.V_drew)); exact HO_50.out) gb298 (Nat.le_of_eq hg.symm)) hb); have n1_ := aM (Kd.R_below (Kd.R_elderB (by (with_reducible repeat (first | apply Kd.R_alloc | apply Kd.R_drewN | apply Kd.R_drew)); exact HO_85.out) gb298 (Nat.le_of_eq hg.symm)) hb); have n2_ := aM (Kd.V_below (Kd.V_elderB (by (with_reducible repeat (first | apply Kd.V_alloc | apply Kd.V_drewN | apply Kd.V_drew)); exact HO_256007.out) gb298 (Nat.le_of_eq hg.symm)) hb); have n3_ := aM (Kd.V_below (Kd.V_elderB (by (with_reducible repeat (first | apply Kd.V_alloc | apply Kd.V_drewN | apply Kd.V_drew)); exact HO_256008.out) gb298 (Nat.le_of_eq hg.symm)) hb); have n4_ := aM (Kd.V_below (Kd.V_elderB (by (with_reducible repeat (first | apply Kd.V_alloc | apply Kd.V_drewN | apply Kd.V_drew)); exact HO_279007.out) gb298 (Nat.le_of_eq hg.symm)) hb); have n5_ := aM (Kd.V_below (Kd.V_elderB (by (with_reducible repeat (first | apply Kd.V_alloc | apply Kd.V_drewN | apply Kd.V_drew)); exact HO_279008.out) gb298 (Nat.le_of_eq hg.symm)) hb); have n6_ := aM (Kd.V_below (Kd.V_elderB (by (with_reducible repeat (first | apply Kd.V_alloc | apply Kd.V_drewN | apply Kd.V_drew)); exact HO_297007.out) gb298 (Nat.le_of_eq hg.symm)) hb); have n7_ := aM (Kd.V_below (Kd.V_elderB (by (with_reducible repeat (first | apply Kd.V_alloc | apply Kd.V_drewN | apply Kd.V_drew)); exact HO_297008.out) gb298 (Nat.le_of_eq hg.symm)) hb); have n8_ := aM (blk_below (g := gb255) (o := .cells #[.int .i64 x256000_1, .int .i64 x256001_1, .int .i64 x256002_1, .int .i64 x256003_1, .int .i64 x256004_1, .int .i64 x256005_1, .int .i64 x256006_1, .slice (some ad276) x256007_1.length co50, .slice Ao62 x256008_1.length co62] 28 (0, 0)) (by (with_reducible repeat (first | refine kN ?_ _ | refine kD ?_ | refine kA ?_ _)); exact BK255.out) hb); have n9_ := aM (blk_below (g := gb277) (o := .cells #[.int .i64 ((rd_T43 x256007_1 x52_2).f0), .int .i64 ((rd_T43 x256007_1 x52_2).f1)] 43 (0, 0)) (by (with_reducible repeat (first | refine kN ?_ _ | refine kD ?_ | refine kA ?_ _)); exact BK277.out) hb); have n10_ := aM (blk_below (g := gb278) (o := .cells #[.int .i64 x279000_3, .int .i64 x279001_3, .int .i64 x279002_3, .int .i64 x279003_3, .int .i64 x279004_3, .int .i64 x279005_3, .int .i64 x279006_3, .slice Ao72 x279007_3.length co72, .slice Ao73 x279008_3.length co73] 28 (0, 0)) (by (with_reducible repeat (first | refine kN ?_ _ | refine kD ?_ | refine kA ?_ _)); exact BK278.out) hb); have n11_ := aM (blk_below (g := gb296) (o := .cells #[.int .i64 t279, .int .i64 t280, .int .i64 t281, .int .i64 t282, .int .i64 t283, .int .i64 t284, .int .i64 t285, .slice Ao80 t286.length co80, .slice Ao81 t289.length co81] 28 (0, 0)) (by (with_reducible repeat (first | refine kN ?_ _ | refine kD ?_ | refine kA ?_ _)); exact BK296.out) hb); have n12_ := aM (below_step (by repeat (first | (with_reducible first | exact HB.out | apply bA | apply bN | apply bD | refine bS ?_ GE255.out | refine bS ?_ GE277.out | refine bS ?_ GE278.out | refine bS ?_ GE296.out) | exact HB.out)) hb); have n13_ := aM (hbox); have n14_ := aM ((by rw [hg]; exact (below_size (by repeat (first | (with_reducible first | exact HB.out | apply bA | apply bN | apply bD | refine bS ?_ GE255.out | refine bS ?_ GE277.out | refine bS ?_ GE278.out | refine bS ?_ GE296.out) | exact HB.out))) : w.heap.size ≤ gb298)); have n15_ := aM ((by rw [hg]; exact (below_size (by repeat (first | (with_reducible first | exact HB.out | apply bA | apply bN | apply bD | refine bS ?_ GE255.out | refine bS ?_ GE277.out | refine bS ?_ GE278.out | refine bS ?_ GE296.out) | exact HB.out))) : w.heap.size ≤ gb298)); have n16_ := aM ((by rw [hg]; exact Nat.ne_of_lt (blk_lt (g := gb255) (o := .cells #[.int .i64 x256000_1, .int .i64 x256001_1, .int .i64 x256002_1, .int .i64 x256003_1, .int .i64 x256004_1, .int .i64 x256005_1, .int .i64 x256006_1, .slice (some ad276) x256007_1.length co50, .slice Ao62 x256008_1.length co62] 28 (0, 0)) (by (with_reducible repeat (first | refine kN ?_ _ | refine kD ?_ | refine kA ?_ _)); exact BK255.out)) : gb255 ≠ gb298)); have n17_ := aM ((by rw [hg]; exact Nat.ne_of_gt (blk_lt (g := gb255) (o := .cells #[.int .i64 x256000_1, .int .i64 x256001_1, .int .i64 x256002_1, .int .i64 x256003_1, .int .i64 x256004_1, .int .i64 x256005_1, .int .i64 x256006_1, .slice (some ad276) x256007_1.length co50, .slice Ao62 x256008_1.length co62] 28 (0, 0)) (by (with_reducible repeat (first | refine kN ?_ _ | refine kD ?_ | refine kA ?_ _)); exact BK255.out)) : gb298 ≠ gb255)); have n18_ := aM ((by rw [hg]; exact Nat.ne_of_lt (blk_lt (g := gb277) (o := .cells #[.int .i64 ((rd_T43 x256007_1 x52_2).f0), .int .i64 ((rd_T43 x256007_1 x52_2).f1)] 43 (0, 0)) (by (with_reducible repeat (first | refine kN ?_ _ | refine kD ?_ | refine kA ?_ _)); exact BK277.out)) : gb277 ≠ gb298)); have n19_ := aM ((by rw [hg]; exact Nat.ne_of_gt (blk_lt (g := gb277) (o := .cells #[.int .i64 ((rd_T43 x256007_1 x52_2).f0), .int .i64 ((rd_T43 x256007_1 x52_2).f1)] 43 (0, 0)) (by (with_reducible repeat (first | refine kN ?_ _ | refine kD ?_ | refine kA ?_ _)); exact BK277.out)) : gb298 ≠ gb277)); have n20_ := aM ((by rw [hg]; exact Nat.ne_of_lt (blk_lt (g := gb278) (o := .cells #[.int .i64 x279000_3, .int .i64 x279001_3, .int .i64 x279002_3, .int .i64 x279003_3, .int .i64 x279004_3, .int .i64 x279005_3, .int .i64 x279006_3, .slice Ao72 x279007_3.length co72, .slice Ao73 x279008_3.length co73] 28 (0, 0)) (by (with_reducible repeat (first | refine kN ?_ _ | refine kD ?_ | refine kA ?_ _)); exact BK278.out)) : gb278 ≠ gb298)); have n21_ := aM ((by rw [hg]; exact Nat.ne_of_gt (blk_lt (g := gb278) (o := .cells #[.int .i64 x279000_3, .int .i64 x279001_3, .int .i64 x279002_3, .int .i64 x279003_3, .int .i64 x279004_3, .int .i64 x279005_3, .int .i64 x279006_3, .slice Ao72 x279007_3.length co72, .slice Ao73 x279008_3.length co73] 28 (0, 0)) (by (with_reducible repeat (first | refine kN ?_ _ | refine kD ?_ | refine kA ?_ _)); exact BK278.out)) : gb298 ≠ gb278)); have n22_ := aM ((by rw [hg]; exact Nat.ne_of_lt (blk_lt (g := gb296) (o := .cells #[.int .i64 t279, .int .i64 t280, .int .i64 t281, .int .i64 t282, .int .i64 t283, .int .i64 t284, .int .i64 t285, .slice Ao80 t286.length co80, .slice Ao81 t289.length co81] 28 (0, 0)) (by (with_reducible repeat (first | refine kN ?_ _ | refine kD ?_ | refine kA ?_ _)); exact BK296.out)) : gb296 ≠ gb298)); have n23_ := aM ((by rw [hg]; exact Nat.ne_of_gt (blk_lt (g := gb296) (o := .cells #[.int .i64 t279, .int .i64 t280, .int .i64 t281, .int .i64 t282, .int .i64 t283, .int .i64 t284, .int .i64 t285, .slice Ao80 t286.length co80, .slice Ao81 t289.length co81] 28 (0, 0)) (by (with_reducible repeat (first | refine kN ?_ _ | refine kD ?_ | refine kA ?_ _)); exact BK296.out)) : gb298 ≠ gb296)); clear HO_50; clear HO_85; clear HO_256007; clear HO_256008; clear HO_279007; clear HO_279008; clear HO_297007; clear HO_297008; clear BK255; clear BK277; clear BK278; clear BK296; clear HB; have HO_50 := n0_; have HO_85 := n1_; have HO_256007 := n2_; have HO_256008 := n3_; have HO_279007 := n4_; have HO_279008 := n5_; have HO_297007 := n6_; have HO_297008 := n7_; have BK255 := n8_; have BK277 := n9_; have BK278 := n10_; have BK296 := n11_; have HB := n12_; have BK298 := n13_; have GW298 := n14_; have GE298 := n15_; have NB255_298 := n16_; have NB298_255 := n17_; have NB277_298 := n18_; have NB298_277 := n19_; have NB278_298 := n20_; have NB298_278 := n21_; have NB296_298 := n22_; have NB298_296 := n23_; clear n0_ n1_ n2_ n3_ n4_ n5_ n6_ n7_ n8_ n9_ n10_ n11_ n12_ n13_ n14_ n15_ n16_ n17_ n18_ n19_ n20_ n21_ n22_ n23_; clear hb hbox hg; have hnb95 := NB298_255.out; have hnc95 := NB255_298.out; have hnb96 := NB298_277.out; have hnc96 := NB277_298.out; have hnb97 := NB298_278.out; have hnc97 := NB278_298.out; have hnb98 := NB298_296.out; have hnc98 := NB296_298.out; obtain ⟨hcz99_0, hcz99_1, hcz99_2, hcz99_3⟩ := cells4 BK298.out; obtain ⟨hfz99_0, hfz99_1, hfz99_2, hfz99_3⟩ := froz4 BK298.out; have hnb100 := NB277_255.out; have hnc100 := NB255_277.out; have hnb101 := NB277_278.out; have hnc101 := NB278_277.out; have hnb102 := NB277_296.out; have hnc102 := NB296_277.out; obtain ⟨hcz103_0, hcz103_1⟩ := cells2 BK277.out; obtain ⟨hfz103_0, hfz103_1⟩ := froz2 BK277.out))
                       go_roundg k5
                       case measure => have := HK1.out; have := HK2.out; have := HK3.out; have := HJ63.out; have := HK5.out; omega
                       case rel => exact ⟨((((rd_T38 t292 x87_5).f1) == ((rd_T43 x256007_1 x52_2).f0))), (wrap64 (x87_5 + 1)), (by first | rfl | (simp; done) | (simp [*]; done)), (by first | rfl | (simp; done) | (simp [*]; done)), H', ⟨by have := HK1.out; have := HK2.out; have := HK3.out; have := HJ63.out; have := HK5.out; omega⟩, ⟨by (with_reducible repeat (first | apply Kd.V_alloc | apply Kd.V_drewN | apply Kd.V_drew)); exact Kd.V_mono (Kd.V_far4 (g := gb298) (Kd.V_mono HO_50.out (fun k_ hk => (⟨hk, hk.2⟩ : _ ∧ k_ ≠ gb298))) (fun _ hk => hk.2) (.int .i64 ((rd_T38 t292 x87_5).f0)) (.int .i64 ((rd_T38 t292 x87_5).f1)) (.int .i64 ((rd_T38 t292 x87_5).f2)) (.int .i64 ((rd_T38 t292 x87_5).f3))) (fun _ hk => ⟨hk.1.1.1, ⟨hk.1.1.2.1, ⟨hk.1.1.2.2.1, ⟨hk.1.1.2.2.2.1, hk.1.1.2.2.2.2⟩⟩⟩⟩)⟩, ⟨by (with_reducible repeat (first | apply Kd.R_alloc | apply Kd.R_drewN | apply Kd.R_drew)); exact Kd.R_mono (Kd.R_far4 (g := gb298) (Kd.R_mono HO_85.out (fun k_ hk => (⟨hk, hk.2⟩ : _ ∧ k_ ≠ gb298))) (fun _ hk => hk.2) (.int .i64 ((rd_T38 t292 x87_5).f0)) (.int .i64 ((rd_T38 t292 x87_5).f1)) (.int .i64 ((rd_T38 t292 x87_5).f2)) (.int .i64 ((rd_T38 t292 x87_5).f3))) (fun _ hk => trivial)⟩, ⟨by (with_reducible repeat (first | apply Kd.V_alloc | apply Kd.V_drewN | apply Kd.V_drew)); exact Kd.V_mono (Kd.V_far4 (g := gb298) (Kd.V_mono HO_256007.out (fun k_ hk => (⟨hk, hk.2⟩ : _ ∧ k_ ≠ gb298))) (fun _ hk => hk.2) (.int .i64 ((rd_T38 t292 x87_5).f0)) (.int .i64 ((rd_T38 t292 x87_5).f1)) (.int .i64 ((rd_T38 t292 x87_5).f2)) (.int .i64 ((rd_T38 t292 x87_5).f3))) (fun _ hk => ⟨hk.1.1.1, ⟨hk.1.1.2.1, ⟨hk.1.1.2.2.1, ⟨hk.1.1.2.2.2.1, hk.1.1.2.2.2.2⟩⟩⟩⟩)⟩, ⟨by (with_reducible repeat (first | apply Kd.V_alloc | apply Kd.V_drewN | apply Kd.V_drew)); exact Kd.V_mono (Kd.V_far4 (g := gb298) (Kd.V_mono HO_256008.out (fun k_ hk => (⟨hk, hk.2⟩ : _ ∧ k_ ≠ gb298))) (fun _ hk => hk.2) (.int .i64 ((rd_T38 t292 x87_5).f0)) (.int .i64 ((rd_T38 t292 x87_5).f1)) (.int .i64 ((rd_T38 t292 x87_5).f2)) (.int .i64 ((rd_T38 t292 x87_5).f3))) (fun _ hk => ⟨hk.1.1.1, ⟨hk.1.1.2.1, ⟨hk.1.1.2.2.1, ⟨hk.1.1.2.2.2.1, hk.1.1.2.2.2.2⟩⟩⟩⟩)⟩, ⟨by (with_reducible repeat (first | apply Kd.V_alloc | apply Kd.V_drewN | apply Kd.V_drew)); exact Kd.V_mono (Kd.V_far4 (g := gb298) (Kd.V_mono HO_279007.out (fun k_ hk => (⟨hk, hk.2⟩ : _ ∧ k_ ≠ gb298))) (fun _ hk => hk.2) (.int .i64 ((rd_T38 t292 x87_5).f0)) (.int .i64 ((rd_T38 t292 x87_5).f1)) (.int .i64 ((rd_T38 t292 x87_5).f2)) (.int .i64 ((rd_T38 t292 x87_5).f3))) (fun _ hk => ⟨hk.1.1.1, ⟨hk.1.1.2.1, ⟨hk.1.1.2.2.1, ⟨hk.1.1.2.2.2.1, hk.1.1.2.2.2.2⟩⟩⟩⟩)⟩, ⟨by (with_reducible repeat (first | apply Kd.V_alloc | apply Kd.V_drewN | apply Kd.V_drew)); exact Kd.V_mono (Kd.V_far4 (g := gb298) (Kd.V_mono HO_279008.out (fun k_ hk => (⟨hk, hk.2⟩ : _ ∧ k_ ≠ gb298))) (fun _ hk => hk.2) (.int .i64 ((rd_T38 t292 x87_5).f0)) (.int .i64 ((rd_T38 t292 x87_5).f1)) (.int .i64 ((rd_T38 t292 x87_5).f2)) (.int .i64 ((rd_T38 t292 x87_5).f3))) (fun _ hk => ⟨hk.1.1.1, ⟨hk.1.1.2.1, ⟨hk.1.1.2.2.1, ⟨hk.1.1.2.2.2.1, hk.1.1.2.2.2.2⟩⟩⟩⟩)⟩, ⟨by (with_reducible repeat (first | apply Kd.V_alloc | apply Kd.V_drewN | apply Kd.V_drew)); exact Kd.V_mono (Kd.V_far4 (g := gb298) (Kd.V_mono HO_297007.out (fun k_ hk => (⟨hk, hk.2⟩ : _ ∧ k_ ≠ gb298))) (fun _ hk => hk.2) (.int .i64 ((rd_T38 t292 x87_5).f0)) (.int .i64 ((rd_T38 t292 x87_5).f1)) (.int .i64 ((rd_T38 t292 x87_5).f2)) (.int .i64 ((rd_T38 t292 x87_5).f3))) (fun _ hk => ⟨hk.1.1.1, ⟨hk.1.1.2.1, ⟨hk.1.1.2.2.1, ⟨hk.1.1.2.2.2.1, hk.1.1.2.2.2.2⟩⟩⟩⟩)⟩, ⟨by (with_reducible repeat (first | apply Kd.V_alloc | apply Kd.V_drewN | apply Kd.V_drew)); exact Kd.V_mono (Kd.V_far4 (g := gb298) (Kd.V_mono HO_297008.out (fun k_ hk => (⟨hk, hk.2⟩ : _ ∧ k_ ≠ gb298))) (fun _ hk => hk.2) (.int .i64 ((rd_T38 t292 x87_5).f0)) (.int .i64 ((rd_T38 t292 x87_5).f1)) (.int .i64 ((rd_T38 t292 x87_5).f2)) (.int .i64 ((rd_T38 t292 x87_5).f3))) (fun _ hk => ⟨hk.1.1.1, ⟨hk.1.1.2.1, ⟨hk.1.1.2.2.1, ⟨hk.1.1.2.2.2.1, hk.1.1.2.2.2.2⟩⟩⟩⟩)⟩, ⟨by (with_reducible repeat (first | refine kN ?_ _ | refine kD ?_ | refine kA ?_ _)); refine blk_far ?_ NB255_298.out _; (with_reducible repeat (first | refine kN ?_ _ | refine kD ?_ | refine kA ?_ _)); refine blk_far ?_ NB255_298.out _; (with_reducible repeat (first | refine kN ?_ _ | refine kD ?_ | refine kA ?_ _)); refine blk_far ?_ NB255_298.out _; (with_reducible repeat (first | refine kN ?_ _ | refine kD ?_ | refine kA ?_ _)); refine blk_far ?_ NB255_298.out _; (with_reducible repeat (first | refine kN ?_ _ | refine kD ?_ | refine kA ?_ _)); exact BK255.out⟩, ⟨by (with_reducible repeat (first | refine kN ?_ _ | refine kD ?_ | refine kA ?_ _)); refine blk_far ?_ NB277_298.out _; (with_reducible repeat (first | refine kN ?_ _ | refine kD ?_ | refine kA ?_ _)); refine blk_far ?_ NB277_298.out _; (with_reducible repeat (first | refine kN ?_ _ | refine kD ?_ | refine kA ?_ _)); refine blk_far ?_ NB277_298.out _; (with_reducible repeat (first | refine kN ?_ _ | refine kD ?_ | refine kA ?_ _)); refine blk_far ?_ NB277_298.out _; (with_reducible repeat (first | refine kN ?_ _ | refine kD ?_ | refine kA ?_ _)); exact BK277.out⟩, ⟨by (with_reducible repeat (first | refine kN ?_ _ | refine kD ?_ | refine kA ?_ _)); refine blk_far ?_ NB278_298.out _; (with_reducible repeat (first | refine kN ?_ _ | refine kD ?_ | refine kA ?_ _)); refine blk_far ?_ NB278_298.out _; (with_reducible repeat (first | refine kN ?_ _ | refine kD ?_ | refine kA ?_ _)); refine blk_far ?_ NB278_298.out _; (with_reducible repeat (first | refine kN ?_ _ | refine kD ?_ | refine kA ?_ _)); refine blk_far ?_ NB278_298.out _; (with_reducible repeat (first | refine kN ?_ _ | refine kD ?_ | refine kA ?_ _)); exact BK278.out⟩, ⟨by (with_reducible repeat (first | refine kN ?_ _ | refine kD ?_ | refine kA ?_ _)); refine blk_far ?_ NB296_298.out _; (with_reducible repeat (first | refine kN ?_ _ | refine kD ?_ | refine kA ?_ _)); refine blk_far ?_ NB296_298.out _; (with_reducible repeat (first | refine kN ?_ _ | refine kD ?_ | refine kA ?_ _)); refine blk_far ?_ NB296_298.out _; (with_reducible repeat (first | refine kN ?_ _ | refine kD ?_ | refine kA ?_ _)); refine blk_far ?_ NB296_298.out _; (with_reducible repeat (first | refine kN ?_ _ | refine kD ?_ | refine kA ?_ _)); exact BK296.out⟩, ⟨by repeat (first | (with_reducible first | exact HB.out | apply bA | apply bN | apply bD | refine bS ?_ GE255.out | refine bS ?_ GE277.out | refine bS ?_ GE278.out | refine bS ?_ GE296.out | refine bS ?_ GE298.out) | exact HB.out)⟩⟩
                      ·rw [if_neg c93] at H
                       have c93b0 : (((rd_T38 t292 x87_5).f0) == 5) = false := beq_eq_false_iff_ne.mpr c93
                       have c93b1 : (((rd_T38 t292 x87_5).f0) != 5) = true := bne_iff_ne.mpr c93
                       have H' := aM H
                       clear H
                       have p297 : 0 ≤ (x87_5 : Int) := of_decide_eq_true (by first | (with_reducible assumption) | assumption)
                       have q297 : x87_5 < (t292.length : Int) := of_decide_eq_true (by first | (with_reducible assumption) | assumption)
                       obtain ⟨ad297, e297, hx297_0, hx297_1, hx297_2, hx297_3⟩ := at_T38 (Kd.R_reads' HO_85.out).2.2 x87_5 p297 q297
                       cases e297
                       replace p297 := eq_true p297
                       replace q297 := eq_true q297
                       go_wp2_with (first | ((with_reducible refine gate_dst (N := 20) rfl ?_); refine box_event ?hg (N := 20) ?hd (cs := #[.int .i64 0, .int .i64 0, .int .i64 0, .int .i64 0]) (t := 38) ?hr ?_; (case hd => rfl); (case hg => rfl); (case hr => first | (go_simp; done) | (go_simp; rfl)); intro gb298 hg w104 hbox hb; have n0_ := aM (Kd.V_below (Kd.V_elderB (by (with_reducible repeat (first | apply Kd.V_alloc | apply Kd.V_drewN | apply Kd.V_drew)); exact HO_50.out) gb298 (Nat.le_of_eq hg.symm)) hb); have n1_ := aM (Kd.R_below (Kd.R_elderB (by (with_reducible repeat (first | apply Kd.R_alloc | apply Kd.R_drewN | apply Kd.R_drew)); exact HO_85.out) gb298 (Nat.le_of_eq hg.symm)) hb); have n2_ := aM (Kd.V_below (Kd.V_elderB (by (with_reducible repeat (first | apply Kd.V_alloc | apply Kd.V_drewN | apply Kd.V_drew)); exact HO_256007.out) gb298 (Nat.le_of_eq hg.symm)) hb); have n3_ := aM (Kd.V_below (Kd.V_elderB (by (with_reducible repeat (first | apply Kd.V_alloc | apply Kd.V_drewN | apply Kd.V_drew)); exact HO_256008.out) gb298 (Nat.le_of_eq hg.symm)) hb); have n4_ := aM (Kd.V_below (Kd.V_elderB (by (with_reducible repeat (first | apply Kd.V_alloc | apply Kd.V_drewN | apply Kd.V_drew)); exact HO_279007.out) gb298 (Nat.le_of_eq hg.symm)) hb); have n5_ := aM (Kd.V_below (Kd.V_elderB (by (with_reducible repeat (first | apply Kd.V_alloc | apply Kd.V_drewN | apply Kd.V_drew)); exact HO_279008.out) gb298 (Nat.le_of_eq hg.symm)) hb); have n6_ := aM (Kd.V_below (Kd.V_elderB (by (with_reducible repeat (first | apply Kd.V_alloc | apply Kd.V_drewN | apply Kd.V_drew)); exact HO_297007.out) gb298 (Nat.le_of_eq hg.symm)) hb); have n7_ := aM (Kd.V_below (Kd.V_elderB (by (with_reducible repeat (first | apply Kd.V_alloc | apply Kd.V_drewN | apply Kd.V_drew)); exact HO_297008.out) gb298 (Nat.le_of_eq hg.symm)) hb); have n8_ := aM (blk_below (g := gb255) (o := .cells #[.int .i64 x256000_1, .int .i64 x256001_1, .int .i64 x256002_1, .int .i64 x256003_1, .int .i64 x256004_1, .int .i64 x256005_1, .int .i64 x256006_1, .slice (some ad276) x256007_1.length co50, .slice Ao62 x256008_1.length co62] 28 (0, 0)) (by (with_reducible repeat (first | refine kN ?_ _ | refine kD ?_ | refine kA ?_ _)); exact BK255.out) hb); have n9_ := aM (blk_below (g := gb277) (o := .cells #[.int .i64 ((rd_T43 x256007_1 x52_2).f0), .int .i64 ((rd_T43 x256007_1 x52_2).f1)] 43 (0, 0)) (by (with_reducible repeat (first | refine kN ?_ _ | refine kD ?_ | refine kA ?_ _)); exact BK277.out) hb); have n10_ := aM (blk_below (g := gb278) (o := .cells #[.int .i64 x279000_3, .int .i64 x279001_3, .int .i64 x279002_3, .int .i64 x279003_3, .int .i64 x279004_3, .int .i64 x279005_3, .int .i64 x279006_3, .slice Ao72 x279007_3.length co72, .slice Ao73 x279008_3.length co73] 28 (0, 0)) (by (with_reducible repeat (first | refine kN ?_ _ | refine kD ?_ | refine kA ?_ _)); exact BK278.out) hb); have n11_ := aM (blk_below (g := gb296) (o := .cells #[.int .i64 t279, .int .i64 t280, .int .i64 t281, .int .i64 t282, .int .i64 t283, .int .i64 t284, .int .i64 t285, .slice Ao80 t286.length co80, .slice Ao81 t289.length co81] 28 (0, 0)) (by (with_reducible repeat (first | refine kN ?_ _ | refine kD ?_ | refine kA ?_ _)); exact BK296.out) hb); have n12_ := aM (below_step (by repeat (first | (with_reducible first | exact HB.out | apply bA | apply bN | apply bD | refine bS ?_ GE255.out | refine bS ?_ GE277.out | refine bS ?_ GE278.out | refine bS ?_ GE296.out) | exact HB.out)) hb); have n13_ := aM (hbox); have n14_ := aM ((by rw [hg]; exact (below_size (by repeat (first | (with_reducible first | exact HB.out | apply bA | apply bN | apply bD | refine bS ?_ GE255.out | refine bS ?_ GE277.out | refine bS ?_ GE278.out | refine bS ?_ GE296.out) | exact HB.out))) : w.heap.size ≤ gb298)); have n15_ := aM ((by rw [hg]; exact (below_size (by repeat (first | (with_reducible first | exact HB.out | apply bA | apply bN | apply bD | refine bS ?_ GE255.out | refine bS ?_ GE277.out | refine bS ?_ GE278.out | refine bS ?_ GE296.out) | exact HB.out))) : w.heap.size ≤ gb298)); have n16_ := aM ((by rw [hg]; exact Nat.ne_of_lt (blk_lt (g := gb255) (o := .cells #[.int .i64 x256000_1, .int .i64 x256001_1, .int .i64 x256002_1, .int .i64 x256003_1, .int .i64 x256004_1, .int .i64 x256005_1, .int .i64 x256006_1, .slice (some ad276) x256007_1.length co50, .slice Ao62 x256008_1.length co62] 28 (0, 0)) (by (with_reducible repeat (first | refine kN ?_ _ | refine kD ?_ | refine kA ?_ _)); exact BK255.out)) : gb255 ≠ gb298)); have n17_ := aM ((by rw [hg]; exact Nat.ne_of_gt (blk_lt (g := gb255) (o := .cells #[.int .i64 x256000_1, .int .i64 x256001_1, .int .i64 x256002_1, .int .i64 x256003_1, .int .i64 x256004_1, .int .i64 x256005_1, .int .i64 x256006_1, .slice (some ad276) x256007_1.length co50, .slice Ao62 x256008_1.length co62] 28 (0, 0)) (by (with_reducible repeat (first | refine kN ?_ _ | refine kD ?_ | refine kA ?_ _)); exact BK255.out)) : gb298 ≠ gb255)); have n18_ := aM ((by rw [hg]; exact Nat.ne_of_lt (blk_lt (g := gb277) (o := .cells #[.int .i64 ((rd_T43 x256007_1 x52_2).f0), .int .i64 ((rd_T43 x256007_1 x52_2).f1)] 43 (0, 0)) (by (with_reducible repeat (first | refine kN ?_ _ | refine kD ?_ | refine kA ?_ _)); exact BK277.out)) : gb277 ≠ gb298)); have n19_ := aM ((by rw [hg]; exact Nat.ne_of_gt (blk_lt (g := gb277) (o := .cells #[.int .i64 ((rd_T43 x256007_1 x52_2).f0), .int .i64 ((rd_T43 x256007_1 x52_2).f1)] 43 (0, 0)) (by (with_reducible repeat (first | refine kN ?_ _ | refine kD ?_ | refine kA ?_ _)); exact BK277.out)) : gb298 ≠ gb277)); have n20_ := aM ((by rw [hg]; exact Nat.ne_of_lt (blk_lt (g := gb278) (o := .cells #[.int .i64 x279000_3, .int .i64 x279001_3, .int .i64 x279002_3, .int .i64 x279003_3, .int .i64 x279004_3, .int .i64 x279005_3, .int .i64 x279006_3, .slice Ao72 x279007_3.length co72, .slice Ao73 x279008_3.length co73] 28 (0, 0)) (by (with_reducible repeat (first | refine kN ?_ _ | refine kD ?_ | refine kA ?_ _)); exact BK278.out)) : gb278 ≠ gb298)); have n21_ := aM ((by rw [hg]; exact Nat.ne_of_gt (blk_lt (g := gb278) (o := .cells #[.int .i64 x279000_3, .int .i64 x279001_3, .int .i64 x279002_3, .int .i64 x279003_3, .int .i64 x279004_3, .int .i64 x279005_3, .int .i64 x279006_3, .slice Ao72 x279007_3.length co72, .slice Ao73 x279008_3.length co73] 28 (0, 0)) (by (with_reducible repeat (first | refine kN ?_ _ | refine kD ?_ | refine kA ?_ _)); exact BK278.out)) : gb298 ≠ gb278)); have n22_ := aM ((by rw [hg]; exact Nat.ne_of_lt (blk_lt (g := gb296) (o := .cells #[.int .i64 t279, .int .i64 t280, .int .i64 t281, .int .i64 t282, .int .i64 t283, .int .i64 t284, .int .i64 t285, .slice Ao80 t286.length co80, .slice Ao81 t289.length co81] 28 (0, 0)) (by (with_reducible repeat (first | refine kN ?_ _ | refine kD ?_ | refine kA ?_ _)); exact BK296.out)) : gb296 ≠ gb298)); have n23_ := aM ((by rw [hg]; exact Nat.ne_of_gt (blk_lt (g := gb296) (o := .cells #[.int .i64 t279, .int .i64 t280, .int .i64 t281, .int .i64 t282, .int .i64 t283, .int .i64 t284, .int .i64 t285, .slice Ao80 t286.length co80, .slice Ao81 t289.length co81] 28 (0, 0)) (by (with_reducible repeat (first | refine kN ?_ _ | refine kD ?_ | refine kA ?_ _)); exact BK296.out)) : gb298 ≠ gb296)); clear HO_50; clear HO_85; clear HO_256007; clear HO_256008; clear HO_279007; clear HO_279008; clear HO_297007; clear HO_297008; clear BK255; clear BK277; clear BK278; clear BK296; clear HB; have HO_50 := n0_; have HO_85 := n1_; have HO_256007 := n2_; have HO_256008 := n3_; have HO_279007 := n4_; have HO_279008 := n5_; have HO_297007 := n6_; have HO_297008 := n7_; have BK255 := n8_; have BK277 := n9_; have BK278 := n10_; have BK296 := n11_; have HB := n12_; have BK298 := n13_; have GW298 := n14_; have GE298 := n15_; have NB255_298 := n16_; have NB298_255 := n17_; have NB277_298 := n18_; have NB298_277 := n19_; have NB278_298 := n20_; have NB298_278 := n21_; have NB296_298 := n22_; have NB298_296 := n23_; clear n0_ n1_ n2_ n3_ n4_ n5_ n6_ n7_ n8_ n9_ n10_ n11_ n12_ n13_ n14_ n15_ n16_ n17_ n18_ n19_ n20_ n21_ n22_ n23_; clear hb hbox hg; have hnb105 := NB298_255.out; have hnc105 := NB255_298.out; have hnb106 := NB298_277.out; have hnc106 := NB277_298.out; have hnb107 := NB298_278.out; have hnc107 := NB278_298.out; have hnb108 := NB298_296.out; have hnc108 := NB296_298.out; obtain ⟨hcz109_0, hcz109_1, hcz109_2, hcz109_3⟩ := cells4 BK298.out; obtain ⟨hfz109_0, hfz109_1, hfz109_2, hfz109_3⟩ := froz4 BK298.out))
                       go_roundg k5
                       case measure => have := HK1.out; have := HK2.out; have := HK3.out; have := HJ63.out; have := HK5.out; omega
                       case rel => exact ⟨(false), (wrap64 (x87_5 + 1)), (by first | rfl | (simp; done) | (simp [*]; done)), (by first | rfl | (simp; done) | (simp [*]; done)), H', ⟨by have := HK1.out; have := HK2.out; have := HK3.out; have := HJ63.out; have := HK5.out; omega⟩, ⟨by (with_reducible repeat (first | apply Kd.V_alloc | apply Kd.V_drewN | apply Kd.V_drew)); exact Kd.V_mono (Kd.V_far4 (g := gb298) (Kd.V_mono HO_50.out (fun k_ hk => (⟨hk, hk.2⟩ : _ ∧ k_ ≠ gb298))) (fun _ hk => hk.2) (.int .i64 ((rd_T38 t292 x87_5).f0)) (.int .i64 ((rd_T38 t292 x87_5).f1)) (.int .i64 ((rd_T38 t292 x87_5).f2)) (.int .i64 ((rd_T38 t292 x87_5).f3))) (fun _ hk => ⟨hk.1.1.1, ⟨hk.1.1.2.1, ⟨hk.1.1.2.2.1, ⟨hk.1.1.2.2.2.1, hk.1.1.2.2.2.2⟩⟩⟩⟩)⟩, ⟨by (with_reducible repeat (first | apply Kd.R_alloc | apply Kd.R_drewN | apply Kd.R_drew)); exact Kd.R_mono (Kd.R_far4 (g := gb298) (Kd.R_mono HO_85.out (fun k_ hk => (⟨hk, hk.2⟩ : _ ∧ k_ ≠ gb298))) (fun _ hk => hk.2) (.int .i64 ((rd_T38 t292 x87_5).f0)) (.int .i64 ((rd_T38 t292 x87_5).f1)) (.int .i64 ((rd_T38 t292 x87_5).f2)) (.int .i64 ((rd_T38 t292 x87_5).f3))) (fun _ hk => trivial)⟩, ⟨by (with_reducible repeat (first | apply Kd.V_alloc | apply Kd.V_drewN | apply Kd.V_drew)); exact Kd.V_mono (Kd.V_far4 (g := gb298) (Kd.V_mono HO_256007.out (fun k_ hk => (⟨hk, hk.2⟩ : _ ∧ k_ ≠ gb298))) (fun _ hk => hk.2) (.int .i64 ((rd_T38 t292 x87_5).f0)) (.int .i64 ((rd_T38 t292 x87_5).f1)) (.int .i64 ((rd_T38 t292 x87_5).f2)) (.int .i64 ((rd_T38 t292 x87_5).f3))) (fun _ hk => ⟨hk.1.1.1, ⟨hk.1.1.2.1, ⟨hk.1.1.2.2.1, ⟨hk.1.1.2.2.2.1, hk.1.1.2.2.2.2⟩⟩⟩⟩)⟩, ⟨by (with_reducible repeat (first | apply Kd.V_alloc | apply Kd.V_drewN | apply Kd.V_drew)); exact Kd.V_mono (Kd.V_far4 (g := gb298) (Kd.V_mono HO_256008.out (fun k_ hk => (⟨hk, hk.2⟩ : _ ∧ k_ ≠ gb298))) (fun _ hk => hk.2) (.int .i64 ((rd_T38 t292 x87_5).f0)) (.int .i64 ((rd_T38 t292 x87_5).f1)) (.int .i64 ((rd_T38 t292 x87_5).f2)) (.int .i64 ((rd_T38 t292 x87_5).f3))) (fun _ hk => ⟨hk.1.1.1, ⟨hk.1.1.2.1, ⟨hk.1.1.2.2.1, ⟨hk.1.1.2.2.2.1, hk.1.1.2.2.2.2⟩⟩⟩⟩)⟩, ⟨by (with_reducible repeat (first | apply Kd.V_alloc | apply Kd.V_drewN | apply Kd.V_drew)); exact Kd.V_mono (Kd.V_far4 (g := gb298) (Kd.V_mono HO_279007.out (fun k_ hk => (⟨hk, hk.2⟩ : _ ∧ k_ ≠ gb298))) (fun _ hk => hk.2) (.int .i64 ((rd_T38 t292 x87_5).f0)) (.int .i64 ((rd_T38 t292 x87_5).f1)) (.int .i64 ((rd_T38 t292 x87_5).f2)) (.int .i64 ((rd_T38 t292 x87_5).f3))) (fun _ hk => ⟨hk.1.1.1, ⟨hk.1.1.2.1, ⟨hk.1.1.2.2.1, ⟨hk.1.1.2.2.2.1, hk.1.1.2.2.2.2⟩⟩⟩⟩)⟩, ⟨by (with_reducible repeat (first | apply Kd.V_alloc | apply Kd.V_drewN | apply Kd.V_drew)); exact Kd.V_mono (Kd.V_far4 (g := gb298) (Kd.V_mono HO_279008.out (fun k_ hk => (⟨hk, hk.2⟩ : _ ∧ k_ ≠ gb298))) (fun _ hk => hk.2) (.int .i64 ((rd_T38 t292 x87_5).f0)) (.int .i64 ((rd_T38 t292 x87_5).f1)) (.int .i64 ((rd_T38 t292 x87_5).f2)) (.int .i64 ((rd_T38 t292 x87_5).f3))) (fun _ hk => ⟨hk.1.1.1, ⟨hk.1.1.2.1, ⟨hk.1.1.2.2.1, ⟨hk.1.1.2.2.2.1, hk.1.1.2.2.2.2⟩⟩⟩⟩)⟩, ⟨by (with_reducible repeat (first | apply Kd.V_alloc | apply Kd.V_drewN | apply Kd.V_drew)); exact Kd.V_mono (Kd.V_far4 (g := gb298) (Kd.V_mono HO_297007.out (fun k_ hk => (⟨hk, hk.2⟩ : _ ∧ k_ ≠ gb298))) (fun _ hk => hk.2) (.int .i64 ((rd_T38 t292 x87_5).f0)) (.int .i64 ((rd_T38 t292 x87_5).f1)) (.int .i64 ((rd_T38 t292 x87_5).f2)) (.int .i64 ((rd_T38 t292 x87_5).f3))) (fun _ hk => ⟨hk.1.1.1, ⟨hk.1.1.2.1, ⟨hk.1.1.2.2.1, ⟨hk.1.1.2.2.2.1, hk.1.1.2.2.2.2⟩⟩⟩⟩)⟩, ⟨by (with_reducible repeat (first | apply Kd.V_alloc | apply Kd.V_drewN | apply Kd.V_drew)); exact Kd.V_mono (Kd.V_far4 (g := gb298) (Kd.V_mono HO_297008.out (fun k_ hk => (⟨hk, hk.2⟩ : _ ∧ k_ ≠ gb298))) (fun _ hk => hk.2) (.int .i64 ((rd_T38 t292 x87_5).f0)) (.int .i64 ((rd_T38 t292 x87_5).f1)) (.int .i64 ((rd_T38 t292 x87_5).f2)) (.int .i64 ((rd_T38 t292 x87_5).f3))) (fun _ hk => ⟨hk.1.1.1, ⟨hk.1.1.2.1, ⟨hk.1.1.2.2.1, ⟨hk.1.1.2.2.2.1, hk.1.1.2.2.2.2⟩⟩⟩⟩)⟩, ⟨by (with_reducible repeat (first | refine kN ?_ _ | refine kD ?_ | refine kA ?_ _)); refine blk_far ?_ NB255_298.out _; (with_reducible repeat (first | refine kN ?_ _ | refine kD ?_ | refine kA ?_ _)); refine blk_far ?_ NB255_298.out _; (with_reducible repeat (first | refine kN ?_ _ | refine kD ?_ | refine kA ?_ _)); refine blk_far ?_ NB255_298.out _; (with_reducible repeat (first | refine kN ?_ _ | refine kD ?_ | refine kA ?_ _)); refine blk_far ?_ NB255_298.out _; (with_reducible repeat (first | refine kN ?_ _ | refine kD ?_ | refine kA ?_ _)); exact BK255.out⟩, ⟨by (with_reducible repeat (first | refine kN ?_ _ | refine kD ?_ | refine kA ?_ _)); refine blk_far ?_ NB277_298.out _; (with_reducible repeat (first | refine kN ?_ _ | refine kD ?_ | refine kA ?_ _)); refine blk_far ?_ NB277_298.out _; (with_reducible repeat (first | refine kN ?_ _ | refine kD ?_ | refine kA ?_ _)); refine blk_far ?_ NB277_298.out _; (with_reducible repeat (first | refine kN ?_ _ | refine kD ?_ | refine kA ?_ _)); refine blk_far ?_ NB277_298.out _; (with_reducible repeat (first | refine kN ?_ _ | refine kD ?_ | refine kA ?_ _)); exact BK277.out⟩, ⟨by (with_reducible repeat (first | refine kN ?_ _ | refine kD ?_ | refine kA ?_ _)); refine blk_far ?_ NB278_298.out _; (with_reducible repeat (first | refine kN ?_ _ | refine kD ?_ | refine kA ?_ _)); refine blk_far ?_ NB278_298.out _; (with_reducible repeat (first | refine kN ?_ _ | refine kD ?_ | refine kA ?_ _)); refine blk_far ?_ NB278_298.out _; (with_reducible repeat (first | refine kN ?_ _ | refine kD ?_ | refine kA ?_ _)); refine blk_far ?_ NB278_298.out _; (with_reducible repeat (first | refine kN ?_ _ | refine kD ?_ | refine kA ?_ _)); exact BK278.out⟩, ⟨by (with_reducible repeat (first | refine kN ?_ _ | refine kD ?_ | refine kA ?_ _)); refine blk_far ?_ NB296_298.out _; (with_reducible repeat (first | refine kN ?_ _ | refine kD ?_ | refine kA ?_ _)); refine blk_far ?_ NB296_298.out _; (with_reducible repeat (first | refine kN ?_ _ | refine kD ?_ | refine kA ?_ _)); refine blk_far ?_ NB296_298.out _; (with_reducible repeat (first | refine kN ?_ _ | refine kD ?_ | refine kA ?_ _)); refine blk_far ?_ NB296_298.out _; (with_reducible repeat (first | refine kN ?_ _ | refine kD ?_ | refine kA ?_ _)); exact BK296.out⟩, ⟨by repeat (first | (with_reducible first | exact HB.out | apply bA | apply bN | apply bD | refine bS ?_ GE255.out | refine bS ?_ GE277.out | refine bS ?_ GE278.out | refine bS ?_ GE296.out | refine bS ?_ GE298.out) | exact HB.out)⟩⟩
                    ·rw [if_neg c85] at H
                     exact absurd H (by simp)
                   ·rw [if_neg c84] at H
                    exact absurd H (by simp)
                  ·rw [if_neg c83] at H
                   have c83b0 : decide (x87_5 < (t292.length : Int)) = false := decide_eq_false c83
                   clear c83
                   have H' := aM H
                   clear H
                   have hnb110 := NB296_255.out
                   have hnc110 := NB255_296.out
                   have hnb111 := NB296_277.out
                   have hnc111 := NB277_296.out
                   have hnb112 := NB296_278.out
                   have hnc112 := NB278_296.out
                   obtain ⟨hcz113_0, hcz113_1, hcz113_2, hcz113_3, hcz113_4, hcz113_5, hcz113_6, hcz113_7, hcz113_8⟩ := cells9 BK296.out
                   obtain ⟨hfz113_0, hfz113_1, hfz113_2, hfz113_3, hfz113_4, hfz113_5, hfz113_6, hfz113_7, hfz113_8⟩ := froz9 BK296.out
                   have hnb114 := NB278_255.out
                   have hnc114 := NB255_278.out
                   have hnb115 := NB278_277.out
                   have hnc115 := NB277_278.out
                   obtain ⟨hcz116_0, hcz116_1, hcz116_2, hcz116_3, hcz116_4, hcz116_5, hcz116_6, hcz116_7, hcz116_8⟩ := cells9 BK278.out
                   obtain ⟨hfz116_0, hfz116_1, hfz116_2, hfz116_3, hfz116_4, hfz116_5, hfz116_6, hfz116_7, hfz116_8⟩ := froz9 BK278.out
                   go_wp2
                   go_roundg k5
                   case measure => have := HK1.out; have := HK2.out; have := HK3.out; have := HJ63.out; have := HK5.out; omega
                   case rel => exact ⟨(x14_5), (wrap64 (x15_3 + 1)), (t279), (t280), (t281), (t282), (t283), (t284), (t285), (t286), (t289), (.slice Ao80 t286.length co80), (.slice Ao81 t289.length co81), (by first | rfl | (simp; done) | (simp [*]; done)), (by first | rfl | (simp; done) | (simp [*]; done)), H', ⟨by have := HK1.out; have := HK2.out; have := HK3.out; have := HJ63.out; have := HK5.out; omega⟩, ⟨by (with_reducible repeat (first | apply Kd.V_alloc | apply Kd.V_drewN | apply Kd.V_drew)); exact Kd.V_mono (Kd.V_far9 (g := gb278) (Kd.V_mono HO_50.out (fun k_ hk => (⟨hk, hk.2.2.2.1⟩ : _ ∧ k_ ≠ gb278))) (fun _ hk => hk.2) (.int .i64 t279) (.int .i64 t280) (.int .i64 t281) (.int .i64 t282) (.int .i64 t283) (.int .i64 t284) (.int .i64 t285) (.slice Ao80 t286.length co80) (.slice Ao81 t289.length co81)) (fun _ hk => ⟨hk.1.2.1, ⟨hk.1.2.2.1, hk.1.2.2.2.1⟩⟩)⟩, ⟨by (with_reducible repeat (first | apply Kd.V_alloc | apply Kd.V_drewN | apply Kd.V_drew)); exact Kd.V_mono (Kd.V_far9 (g := gb278) (Kd.V_mono HO_256007.out (fun k_ hk => (⟨hk, hk.2.2.2.1⟩ : _ ∧ k_ ≠ gb278))) (fun _ hk => hk.2) (.int .i64 t279) (.int .i64 t280) (.int .i64 t281) (.int .i64 t282) (.int .i64 t283) (.int .i64 t284) (.int .i64 t285) (.slice Ao80 t286.length co80) (.slice Ao81 t289.length co81)) (fun _ hk => ⟨hk.1.2.1, ⟨hk.1.2.2.1, hk.1.2.2.2.1⟩⟩)⟩, ⟨by (with_reducible repeat (first | apply Kd.V_alloc | apply Kd.V_drewN | apply Kd.V_drew)); exact Kd.V_mono (Kd.V_far9 (g := gb278) (Kd.V_mono HO_256008.out (fun k_ hk => (⟨hk, hk.2.2.2.1⟩ : _ ∧ k_ ≠ gb278))) (fun _ hk => hk.2) (.int .i64 t279) (.int .i64 t280) (.int .i64 t281) (.int .i64 t282) (.int .i64 t283) (.int .i64 t284) (.int .i64 t285) (.slice Ao80 t286.length co80) (.slice Ao81 t289.length co81)) (fun _ hk => ⟨hk.1.2.1, ⟨hk.1.2.2.1, hk.1.2.2.2.1⟩⟩)⟩, ⟨by (with_reducible repeat (first | apply Kd.V_alloc | apply Kd.V_drewN | apply Kd.V_drew)); exact Kd.V_mono (Kd.V_far9 (g := gb278) (Kd.V_mono HO_297007.out (fun k_ hk => (⟨hk, hk.2.2.2.1⟩ : _ ∧ k_ ≠ gb278))) (fun _ hk => hk.2) (.int .i64 t279) (.int .i64 t280) (.int .i64 t281) (.int .i64 t282) (.int .i64 t283) (.int .i64 t284) (.int .i64 t285) (.slice Ao80 t286.length co80) (.slice Ao81 t289.length co81)) (fun _ hk => ⟨hk.1.2.1, ⟨hk.1.2.2.1, hk.1.2.2.2.1⟩⟩)⟩, ⟨by (with_reducible repeat (first | apply Kd.V_alloc | apply Kd.V_drewN | apply Kd.V_drew)); exact Kd.V_mono (Kd.V_far9 (g := gb278) (Kd.V_mono HO_297008.out (fun k_ hk => (⟨hk, hk.2.2.2.1⟩ : _ ∧ k_ ≠ gb278))) (fun _ hk => hk.2) (.int .i64 t279) (.int .i64 t280) (.int .i64 t281) (.int .i64 t282) (.int .i64 t283) (.int .i64 t284) (.int .i64 t285) (.slice Ao80 t286.length co80) (.slice Ao81 t289.length co81)) (fun _ hk => ⟨hk.1.2.1, ⟨hk.1.2.2.1, hk.1.2.2.2.1⟩⟩)⟩, ⟨by (with_reducible repeat (first | refine kN ?_ _ | refine kD ?_ | refine kA ?_ _)); refine blk_far ?_ NB255_278.out _; (with_reducible repeat (first | refine kN ?_ _ | refine kD ?_ | refine kA ?_ _)); refine blk_far ?_ NB255_278.out _; (with_reducible repeat (first | refine kN ?_ _ | refine kD ?_ | refine kA ?_ _)); refine blk_far ?_ NB255_278.out _; (with_reducible repeat (first | refine kN ?_ _ | refine kD ?_ | refine kA ?_ _)); refine blk_far ?_ NB255_278.out _; (with_reducible repeat (first | refine kN ?_ _ | refine kD ?_ | refine kA ?_ _)); refine blk_far ?_ NB255_278.out _; (with_reducible repeat (first | refine kN ?_ _ | refine kD ?_ | refine kA ?_ _)); refine blk_far ?_ NB255_278.out _; (with_reducible repeat (first | refine kN ?_ _ | refine kD ?_ | refine kA ?_ _)); refine blk_far ?_ NB255_278.out _; (with_reducible repeat (first | refine kN ?_ _ | refine kD ?_ | refine kA ?_ _)); refine blk_far ?_ NB255_278.out _; (with_reducible repeat (first | refine kN ?_ _ | refine kD ?_ | refine kA ?_ _)); refine blk_far ?_ NB255_278.out _; (with_reducible repeat (first | refine kN ?_ _ | refine kD ?_ | refine kA ?_ _)); exact BK255.out⟩, ⟨by (with_reducible repeat (first | refine kN ?_ _ | refine kD ?_ | refine kA ?_ _)); refine blk_far ?_ NB277_278.out _; (with_reducible repeat (first | refine kN ?_ _ | refine kD ?_ | refine kA ?_ _)); refine blk_far ?_ NB277_278.out _; (with_reducible repeat (first | refine kN ?_ _ | refine kD ?_ | refine kA ?_ _)); refine blk_far ?_ NB277_278.out _; (with_reducible repeat (first | refine kN ?_ _ | refine kD ?_ | refine kA ?_ _)); refine blk_far ?_ NB277_278.out _; (with_reducible repeat (first | refine kN ?_ _ | refine kD ?_ | refine kA ?_ _)); refine blk_far ?_ NB277_278.out _; (with_reducible repeat (first | refine kN ?_ _ | refine kD ?_ | refine kA ?_ _)); refine blk_far ?_ NB277_278.out _; (with_reducible repeat (first | refine kN ?_ _ | refine kD ?_ | refine kA ?_ _)); refine blk_far ?_ NB277_278.out _; (with_reducible repeat (first | refine kN ?_ _ | refine kD ?_ | refine kA ?_ _)); refine blk_far ?_ NB277_278.out _; (with_reducible repeat (first | refine kN ?_ _ | refine kD ?_ | refine kA ?_ _)); refine blk_far ?_ NB277_278.out _; (with_reducible repeat (first | refine kN ?_ _ | refine kD ?_ | refine kA ?_ _)); exact BK277.out⟩, ⟨by (with_reducible repeat (first | refine kN ?_ _ | refine kD ?_ | refine kA ?_ _)); refine blk_put (cs := #[.int .i64 t279, .int .i64 t280, .int .i64 t281, .int .i64 t282, .int .i64 t283, .int .i64 t284, .int .i64 t285, .slice Ao80 t286.length co80, .slice Ao73 x279008_3.length co73]) ?_ 8 _ rfl; (with_reducible repeat (first | refine kN ?_ _ | refine kD ?_ | refine kA ?_ _)); refine blk_put (cs := #[.int .i64 t279, .int .i64 t280, .int .i64 t281, .int .i64 t282, .int .i64 t283, .int .i64 t284, .int .i64 t285, .slice Ao72 x279007_3.length co72, .slice Ao73 x279008_3.length co73]) ?_ 7 _ rfl; (with_reducible repeat (first | refine kN ?_ _ | refine kD ?_ | refine kA ?_ _)); refine blk_put (cs := #[.int .i64 t279, .int .i64 t280, .int .i64 t281, .int .i64 t282, .int .i64 t283, .int .i64 t284, .int .i64 x279006_3, .slice Ao72 x279007_3.length co72, .slice Ao73 x279008_3.length co73]) ?_ 6 _ rfl; (with_reducible repeat (first | refine kN ?_ _ | refine kD ?_ | refine kA ?_ _)); refine blk_put (cs := #[.int .i64 t279, .int .i64 t280, .int .i64 t281, .int .i64 t282, .int .i64 t283, .int .i64 x279005_3, .int .i64 x279006_3, .slice Ao72 x279007_3.length co72, .slice Ao73 x279008_3.length co73]) ?_ 5 _ rfl; (with_reducible repeat (first | refine kN ?_ _ | refine kD ?_ | refine kA ?_ _)); refine blk_put (cs := #[.int .i64 t279, .int .i64 t280, .int .i64 t281, .int .i64 t282, .int .i64 x279004_3, .int .i64 x279005_3, .int .i64 x279006_3, .slice Ao72 x279007_3.length co72, .slice Ao73 x279008_3.length co73]) ?_ 4 _ rfl; (with_reducible repeat (first | refine kN ?_ _ | refine kD ?_ | refine kA ?_ _)); refine blk_put (cs := #[.int .i64 t279, .int .i64 t280, .int .i64 t281, .int .i64 x279003_3, .int .i64 x279004_3, .int .i64 x279005_3, .int .i64 x279006_3, .slice Ao72 x279007_3.length co72, .slice Ao73 x279008_3.length co73]) ?_ 3 _ rfl; (with_reducible repeat (first | refine kN ?_ _ | refine kD ?_ | refine kA ?_ _)); refine blk_put (cs := #[.int .i64 t279, .int .i64 t280, .int .i64 x279002_3, .int .i64 x279003_3, .int .i64 x279004_3, .int .i64 x279005_3, .int .i64 x279006_3, .slice Ao72 x279007_3.length co72, .slice Ao73 x279008_3.length co73]) ?_ 2 _ rfl; (with_reducible repeat (first | refine kN ?_ _ | refine kD ?_ | refine kA ?_ _)); refine blk_put (cs := #[.int .i64 t279, .int .i64 x279001_3, .int .i64 x279002_3, .int .i64 x279003_3, .int .i64 x279004_3, .int .i64 x279005_3, .int .i64 x279006_3, .slice Ao72 x279007_3.length co72, .slice Ao73 x279008_3.length co73]) ?_ 1 _ rfl; (with_reducible repeat (first | refine kN ?_ _ | refine kD ?_ | refine kA ?_ _)); refine blk_put (cs := #[.int .i64 x279000_3, .int .i64 x279001_3, .int .i64 x279002_3, .int .i64 x279003_3, .int .i64 x279004_3, .int .i64 x279005_3, .int .i64 x279006_3, .slice Ao72 x279007_3.length co72, .slice Ao73 x279008_3.length co73]) ?_ 0 _ rfl; (with_reducible repeat (first | refine kN ?_ _ | refine kD ?_ | refine kA ?_ _)); exact BK278.out⟩, ⟨by repeat (first | (with_reducible first | exact HB.out | apply bA | apply bN | apply bD | refine bS ?_ GE255.out | refine bS ?_ GE277.out | refine bS ?_ GE278.out | refine bS ?_ GE296.out) | exact HB.out)⟩⟩
               ·rw [if_neg c68] at H
                have c68b0 : (t295 == 0) = false := beq_eq_false_iff_ne.mpr c68
                have c68b1 : (t295 != 0) = true := bne_iff_ne.mpr c68
                obtain rfl := Option.some.inj H
                exact absurd HR_.out (by simp)
              ·replace c66 := Bool.eq_false_iff.mpr c66
               subst c66
               have H1 : (if x14_3 = true then (squelchlaw18_FloorServes.l1 kj63 t240 x256007_1 (x256007_1.length : Int) (wrap64 (x52_2 + 1)) x256000_1 x256001_1 x256002_1 x256003_1 x256004_1 x256005_1 x256006_1 x256007_1 x256008_1) else (some false)) = some r := by rw [if_neg (show ¬ (false = true) by decide)] at H; exact H
               clear H
               have H := H1
               clear H1
               by_cases c117 : x14_3 = true
               ·subst c117
                have H1 : (squelchlaw18_FloorServes.l1 kj63 t240 x256007_1 (x256007_1.length : Int) (wrap64 (x52_2 + 1)) x256000_1 x256001_1 x256002_1 x256003_1 x256004_1 x256005_1 x256006_1 x256007_1 x256008_1) = some r := by rw [if_pos rfl] at H; exact H
                clear H
                have H := H1
                clear H1
                have H' := aM H
                clear H
                go_wp2
                go_roundg kj63
                case measure => have := HK1.out; have := HK2.out; have := HK3.out; have := HJ63.out; omega
                case rel => exact ⟨(wrap64 (x52_2 + 1)), (by first | rfl | (simp; done) | (simp [*]; done)), H', ⟨by have := HK1.out; have := HK2.out; have := HK3.out; have := HJ63.out; omega⟩, ⟨by (with_reducible repeat (first | apply Kd.V_alloc | apply Kd.V_drewN | apply Kd.V_drew)); exact Kd.V_mono HO_50.out (fun _ hk => hk.1)⟩, ⟨by (with_reducible repeat (first | apply Kd.V_alloc | apply Kd.V_drewN | apply Kd.V_drew)); exact Kd.V_mono HO_256007.out (fun _ hk => hk.1)⟩, ⟨by (with_reducible repeat (first | apply Kd.V_alloc | apply Kd.V_drewN | apply Kd.V_drew)); exact Kd.V_mono HO_256008.out (fun _ hk => hk.1)⟩, ⟨by (with_reducible repeat (first | refine kN ?_ _ | refine kD ?_ | refine kA ?_ _)); exact BK255.out⟩, ⟨by repeat (first | (with_reducible first | exact HB.out | apply bA | apply bN | apply bD | refine bS ?_ GE255.out | refine bS ?_ GE277.out | refine bS ?_ GE278.out) | exact HB.out)⟩⟩
               ·replace c117 := Bool.eq_false_iff.mpr c117
                subst c117
                have H1 : (some false) = some r := by rw [if_neg (show ¬ (false = true) by decide)] at H; exact H
                clear H
                have H := H1
                clear H1
                obtain rfl := Option.some.inj H
                exact absurd HR_.out (by simp)
         ·rw [if_neg c53] at H
          exact absurd H (by simp)
        ·rw [if_neg c52] at H
         exact absurd H (by simp)
       ·rw [if_neg c51] at H
        have c51b0 : decide (x52_2 < (x256007_1.length : Int)) = false := decide_eq_false c51
        clear c51
        obtain rfl := Option.some.inj H
        go_wp2
        go_ret
        exact ⟨by first | rfl | (simp [errW_none, errW_some] <;> rfl) | (simp [*, errW_none, errW_some] <;> rfl), by repeat (first | (with_reducible first | exact HB.out | apply bA | apply bN | apply bD | refine bS ?_ GE255.out) | exact HB.out)⟩
 ·replace c4 := Bool.eq_false_iff.mpr c4
  subst c4
  have H1 : (some t240) = some r := by rw [if_neg (show ¬ (false = true) by decide)] at H; exact H
  clear H
  have H := H1
  clear H1
  obtain rfl := Option.some.inj H
  go_enter Try.func5, Try.ntmps5
  go_wp2_with (first | ((with_reducible refine gate_callee (f := 11) rfl ?_); refine goesL_ (some 21) rfl rfl Try.func11 (by kernel_rfl) rfl #[] rfl (by (try simp only [List.map_toArray, List.map_cons, List.map_nil]); first | done | rfl | (simp only [List.length_drop, List.length_take]; rfl)) ?_; (with_reducible refine (squelchlaw18_live.calls k  t240 _ A2.out).mono ?_); rintro e w118 ⟨rfl, hb⟩; refine ⟨_, rfl, ?_⟩; have n0_ := aM (below_step (by repeat (first | (with_reducible first | exact HB.out | apply bA | apply bN | apply bD) | exact HB.out)) hb); clear HB; have HB := n0_; clear n0_; (try clear hb); ) | ((with_reducible refine gate_callee (f := 12) rfl ?_); refine goesL_ (some 24) rfl rfl Try.func12 (by kernel_rfl) rfl #[.agg #[.int .i64 0, .int .i64 0, .int .i64 0, .int .i64 0, .int .i64 0, .int .i64 0, .int .i64 0, .slice none 0 0, .slice none 0 0], .slice A0 l0.length c0] rfl (by (try simp only [List.map_toArray, List.map_cons, List.map_nil]); first | done | rfl | (simp only [List.length_drop, List.length_take]; rfl)) ?_; (refine (squelchlaw18_few.calls 0 0 0 0 0 0 0 _ _ ([] : List (S43)) _ _ ([] : List Int) _ _ l0 false _ ?side1 ?side2 ?side3 ?side4 ?side5 ?side6 A3.out).mono ?_); (case side1 => exact Kd.C_nil _ _); (case side2 => exact Nat.le_refl _); (case side3 => exact Kd.C_nil _ _); (case side4 => exact Nat.le_refl _); (case side5 => repeat (first | exact (Kd.C_below HR0.out HB.out) | (with_reducible refine Kd.C_alloc ?_ _) | (with_reducible refine Kd.C_drewN ?_ _) | (with_reducible refine Kd.C_drew ?_))); (case side6 => exact HC0.out); rintro e w119 ⟨rfl, hb⟩; refine ⟨_, rfl, ?_⟩; have n0_ := aM (below_step (by repeat (first | (with_reducible first | exact HB.out | apply bA | apply bN | apply bD) | exact HB.out)) hb); clear HB; have HB := n0_; clear n0_; (try clear hb); ))
  go_ret
  exact ⟨by first | rfl | (simp [errW_none, errW_some] <;> rfl) | (simp [*, errW_none, errW_some] <;> rfl), by repeat (first | (with_reducible first | exact HB.out | apply bA | apply bN | apply bD) | exact HB.out)⟩

def squelchlaw18_FloorServes.Pure : Prop := ∀ (l0 : List (S32)), (l0.length * 40 ≤ 140737488351232 ∧ l0.length ≤ 9223372036854775807 ∧ ∀ y0_ ∈ l0, ((Lit.int .i64 y0_.f0).wf = true ∧ (Lit.int .i64 y0_.f1).wf = true ∧ (Lit.int .i64 y0_.f2).wf = true ∧ (Lit.int .i64 y0_.f3).wf = true ∧ (Lit.int .i64 y0_.f4).wf = true)) → ∃ k, squelchlaw18_FloorServes.f k l0 = some true

end Go.Proofs.Ytflfmpfmnhpbmaa.PA
-- slim


