-- Written for this claim by this session's own printer (wip/patch_print.py over the kit's print).
import Derived.Test.YtflfmpfmnhpbmaaPAx0
import Derived.Test.YtflfmpfmnhpbmaaPAx2
import Derived.Test.YtflfmpfmnhpbmaaPAx13
namespace Go.Proofs.Ytflfmpfmnhpbmaa.PA
open Go.RowKit Go.Proofs.YtflfmpfmnhpbmaaW.PrintWords Go.Proofs.YtflfmpfmnhpbmaaW.PrintLast Go.Proofs.YtflfmpfmnhpbmaaW.PrintMore
attribute [local go_sem] max2_int min2_int max_two min_two max_three min_three max_four min_four   -- for this text's walks alone
set_option linter.unusedVariables false
set_option linter.unusedSimpArgs false

attribute [local go_sem high] eqA43
/-! ### squelchref18_Equal: function 17 -/
mutual
def squelchref18_Equal.j0 : Nat → Bool → Int → Int → Int → Int → Int → Int → Int → List (S43) → List Int → Int → Int → Int → Int → Int → Int → Int → List (S43) → List Int → Option (Bool)
 | 0, _, _, _, _, _, _, _, _, _, _, _, _, _, _, _, _, _, _, _ => none
 | k + 1, x69, x390000, x390001, x390002, x390003, x390004, x390005, x390006, x390007, x390008, x391000, x391001, x391002, x391003, x391004, x391005, x391006, x391007, x391008 => if x69 = true then (some false) else (squelchref18_Equal.l0 k (x390007.length : Int) 0 x390000 x390001 x390002 x390003 x390004 x390005 x390006 x390007 x390008 x391000 x391001 x391002 x391003 x391004 x391005 x391006 x391007 x391008)
def squelchref18_Equal.l0 : Nat → Int → Int → Int → Int → Int → Int → Int → Int → Int → List (S43) → List Int → Int → Int → Int → Int → Int → Int → Int → List (S43) → List Int → Option (Bool)
 | 0, _, _, _, _, _, _, _, _, _, _, _, _, _, _, _, _, _, _, _, _ => none
 | k + 1, x72, x73, x390000, x390001, x390002, x390003, x390004, x390005, x390006, x390007, x390008, x391000, x391001, x391002, x391003, x391004, x391005, x391006, x391007, x391008 => if x73 < x72 then (if 0 ≤ x73 then (if x73 < (x390007.length : Int) then (if x73 < (x391007.length : Int) then (if (!(((rd_T43 x390007 x73).f0) == ((rd_T43 x391007 x73).f0)) || (!(((rd_T43 x390007 x73).f1) == ((rd_T43 x391007 x73).f1)))) = true then (some false) else (squelchref18_Equal.l0 k x72 (wrap64 (x73 + 1)) x390000 x390001 x390002 x390003 x390004 x390005 x390006 x390007 x390008 x391000 x391001 x391002 x391003 x391004 x391005 x391006 x391007 x391008)) else (none)) else (none)) else (none)) else (some true)
end
def squelchref18_Equal.f (k : Nat) (a0_0 : Int) (a0_1 : Int) (a0_2 : Int) (a0_3 : Int) (a0_4 : Int) (a0_5 : Int) (a0_6 : Int) (l0_7 : List (S43)) (l0_8 : List Int) (a1_0 : Int) (a1_1 : Int) (a1_2 : Int) (a1_3 : Int) (a1_4 : Int) (a1_5 : Int) (a1_6 : Int) (l1_7 : List (S43)) (l1_8 : List Int) : Option (Bool) := if a0_0 = a1_0 then (if a0_1 = a1_1 then (if a0_2 = a1_2 then (if a0_3 = a1_3 then (if a0_4 = a1_4 then (if a0_5 = a1_5 then (if a0_6 = a1_6 then ((squelchref03_Equal.f k l0_8 l1_8).bind fun t391 => (if t391 = true then (squelchref18_Equal.j0 k ((l0_7.length : Int) != (l1_7.length : Int)) a0_0 a0_1 a0_2 a0_3 a0_4 a0_5 a0_6 l0_7 l0_8 a1_0 a1_1 a1_2 a1_3 a1_4 a1_5 a1_6 l1_7 l1_8) else (squelchref18_Equal.j0 k true a0_0 a0_1 a0_2 a0_3 a0_4 a0_5 a0_6 l0_7 l0_8 a1_0 a1_1 a1_2 a1_3 a1_4 a1_5 a1_6 l1_7 l1_8))) else (squelchref18_Equal.j0 k true a0_0 a0_1 a0_2 a0_3 a0_4 a0_5 a0_6 l0_7 l0_8 a1_0 a1_1 a1_2 a1_3 a1_4 a1_5 a1_6 l1_7 l1_8)) else (squelchref18_Equal.j0 k true a0_0 a0_1 a0_2 a0_3 a0_4 a0_5 a0_6 l0_7 l0_8 a1_0 a1_1 a1_2 a1_3 a1_4 a1_5 a1_6 l1_7 l1_8)) else (squelchref18_Equal.j0 k true a0_0 a0_1 a0_2 a0_3 a0_4 a0_5 a0_6 l0_7 l0_8 a1_0 a1_1 a1_2 a1_3 a1_4 a1_5 a1_6 l1_7 l1_8)) else (squelchref18_Equal.j0 k true a0_0 a0_1 a0_2 a0_3 a0_4 a0_5 a0_6 l0_7 l0_8 a1_0 a1_1 a1_2 a1_3 a1_4 a1_5 a1_6 l1_7 l1_8)) else (squelchref18_Equal.j0 k true a0_0 a0_1 a0_2 a0_3 a0_4 a0_5 a0_6 l0_7 l0_8 a1_0 a1_1 a1_2 a1_3 a1_4 a1_5 a1_6 l1_7 l1_8)) else (squelchref18_Equal.j0 k true a0_0 a0_1 a0_2 a0_3 a0_4 a0_5 a0_6 l0_7 l0_8 a1_0 a1_1 a1_2 a1_3 a1_4 a1_5 a1_6 l1_7 l1_8)) else (squelchref18_Equal.j0 k true a0_0 a0_1 a0_2 a0_3 a0_4 a0_5 a0_6 l0_7 l0_8 a1_0 a1_1 a1_2 a1_3 a1_4 a1_5 a1_6 l1_7 l1_8)
theorem squelchref18_Equal.mono_l : ∀ k, (∀ y0 y1 y2 y3 y4 y5 y6 y7 y8 y9 y10 y11 y12 y13 y14 y15 y16 y17 y18, LeO (squelchref18_Equal.j0 k y0 y1 y2 y3 y4 y5 y6 y7 y8 y9 y10 y11 y12 y13 y14 y15 y16 y17 y18) (squelchref18_Equal.j0 (k + 1) y0 y1 y2 y3 y4 y5 y6 y7 y8 y9 y10 y11 y12 y13 y14 y15 y16 y17 y18)) ∧ (∀ y0 y1 y2 y3 y4 y5 y6 y7 y8 y9 y10 y11 y12 y13 y14 y15 y16 y17 y18 y19, LeO (squelchref18_Equal.l0 k y0 y1 y2 y3 y4 y5 y6 y7 y8 y9 y10 y11 y12 y13 y14 y15 y16 y17 y18 y19) (squelchref18_Equal.l0 (k + 1) y0 y1 y2 y3 y4 y5 y6 y7 y8 y9 y10 y11 y12 y13 y14 y15 y16 y17 y18 y19))
 | 0 => ⟨fun _ _ _ _ _ _ _ _ _ _ _ _ _ _ _ _ _ _ _ r h => by simp [squelchref18_Equal.j0] at h, fun _ _ _ _ _ _ _ _ _ _ _ _ _ _ _ _ _ _ _ _ r h => by simp [squelchref18_Equal.l0] at h⟩
 | k + 1 => by
  obtain ⟨ih0, ih1⟩ := squelchref18_Equal.mono_l k
  refine ⟨?_, ?_⟩
  ·intro y0 y1 y2 y3 y4 y5 y6 y7 y8 y9 y10 y11 y12 y13 y14 y15 y16 y17 y18
   unfold squelchref18_Equal.j0
   repeat' first
   | (with_reducible exact ih0 _ _ _ _ _ _ _ _ _ _ _ _ _ _ _ _ _ _ _)
   | (with_reducible exact ih1 _ _ _ _ _ _ _ _ _ _ _ _ _ _ _ _ _ _ _ _)
   | (with_reducible exact squelchref03_Equal.mono _ _ _)
   | (with_reducible exact LeO.refl _)
   | (with_reducible exact LeO.none _)
   | (with_reducible refine LeO.ite ?_ ?_)
   | (with_reducible refine LeO.bind ?_ (fun _ => ?_))
   | exact ih0 _ _ _ _ _ _ _ _ _ _ _ _ _ _ _ _ _ _ _
   | exact ih1 _ _ _ _ _ _ _ _ _ _ _ _ _ _ _ _ _ _ _ _
   | exact squelchref03_Equal.mono _ _ _
   | exact LeO.none _
   | refine LeO.ite ?_ ?_
   | refine LeO.bind ?_ (fun _ => ?_)
  ·intro y0 y1 y2 y3 y4 y5 y6 y7 y8 y9 y10 y11 y12 y13 y14 y15 y16 y17 y18 y19
   unfold squelchref18_Equal.l0
   repeat' first
   | (with_reducible exact ih0 _ _ _ _ _ _ _ _ _ _ _ _ _ _ _ _ _ _ _)
   | (with_reducible exact ih1 _ _ _ _ _ _ _ _ _ _ _ _ _ _ _ _ _ _ _ _)
   | (with_reducible exact squelchref03_Equal.mono _ _ _)
   | (with_reducible exact LeO.refl _)
   | (with_reducible exact LeO.none _)
   | (with_reducible refine LeO.ite ?_ ?_)
   | (with_reducible refine LeO.bind ?_ (fun _ => ?_))
   | exact ih0 _ _ _ _ _ _ _ _ _ _ _ _ _ _ _ _ _ _ _
   | exact ih1 _ _ _ _ _ _ _ _ _ _ _ _ _ _ _ _ _ _ _ _
   | exact squelchref03_Equal.mono _ _ _
   | exact LeO.none _
   | refine LeO.ite ?_ ?_
   | refine LeO.bind ?_ (fun _ => ?_)
theorem squelchref18_Equal.mono : ∀ a0 a1 a2 a3 a4 a5 a6 a7 a8 a9 a10 a11 a12 a13 a14 a15 a16 a17 k, LeO (squelchref18_Equal.f k a0 a1 a2 a3 a4 a5 a6 a7 a8 a9 a10 a11 a12 a13 a14 a15 a16 a17) (squelchref18_Equal.f (k + 1) a0 a1 a2 a3 a4 a5 a6 a7 a8 a9 a10 a11 a12 a13 a14 a15 a16 a17) := by
 intro a0 a1 a2 a3 a4 a5 a6 a7 a8 a9 a10 a11 a12 a13 a14 a15 a16 a17 k
 obtain ⟨ih0, ih1⟩ := squelchref18_Equal.mono_l k
 unfold squelchref18_Equal.f
 repeat' first
   | (with_reducible exact ih0 _ _ _ _ _ _ _ _ _ _ _ _ _ _ _ _ _ _ _)
   | (with_reducible exact ih1 _ _ _ _ _ _ _ _ _ _ _ _ _ _ _ _ _ _ _ _)
   | (with_reducible exact squelchref03_Equal.mono _ _ _)
   | (with_reducible exact LeO.refl _)
   | (with_reducible exact LeO.none _)
   | (with_reducible refine LeO.ite ?_ ?_)
   | (with_reducible refine LeO.bind ?_ (fun _ => ?_))
   | exact ih0 _ _ _ _ _ _ _ _ _ _ _ _ _ _ _ _ _ _ _
   | exact ih1 _ _ _ _ _ _ _ _ _ _ _ _ _ _ _ _ _ _ _ _
   | exact squelchref03_Equal.mono _ _ _
   | exact LeO.none _
   | refine LeO.ite ?_ ?_
   | refine LeO.bind ?_ (fun _ => ?_)
set_option maxHeartbeats 8000000 in
set_option maxRecDepth 100000 in
theorem squelchref18_Equal.calls (k : Nat) (a0_0 : Int) (a0_1 : Int) (a0_2 : Int) (a0_3 : Int) (a0_4 : Int) (a0_5 : Int) (a0_6 : Int) (A0_7 : Option Addr) (c0_7 : Nat) (l0_7 : List (S43)) (A0_8 : Option Addr) (c0_8 : Nat) (l0_8 : List Int) (a1_0 : Int) (a1_1 : Int) (a1_2 : Int) (a1_3 : Int) (a1_4 : Int) (a1_5 : Int) (a1_6 : Int) (A1_7 : Option Addr) (c1_7 : Nat) (l1_7 : List (S43)) (A1_8 : Option Addr) (c1_8 : Nat) (l1_8 : List Int) (r : Bool) (w : World) (hr0_7 : Kd.C k43 w A0_7 l0_7.length l0_7) (hc0_7 : l0_7.length ≤ c0_7) (hr0_8 : Kd.C (Kd.int .i64) w A0_8 l0_8.length l0_8) (hc0_8 : l0_8.length ≤ c0_8) (hr1_7 : Kd.C k43 w A1_7 l1_7.length l1_7) (hc1_7 : l1_7.length ≤ c1_7) (hr1_8 : Kd.C (Kd.int .i64) w A1_8 l1_8.length l1_8) (hc1_8 : l1_8.length ≤ c1_8) (h : squelchref18_Equal.f k a0_0 a0_1 a0_2 a0_3 a0_4 a0_5 a0_6 l0_7 l0_8 a1_0 a1_1 a1_2 a1_3 a1_4 a1_5 a1_6 l1_7 l1_8 = some r) :
  Calls Try.prog 17 #[.agg #[.int .i64 a0_0, .int .i64 a0_1, .int .i64 a0_2, .int .i64 a0_3, .int .i64 a0_4, .int .i64 a0_5, .int .i64 a0_6, .slice A0_7 l0_7.length c0_7, .slice A0_8 l0_8.length c0_8], .agg #[.int .i64 a1_0, .int .i64 a1_1, .int .i64 a1_2, .int .i64 a1_3, .int .i64 a1_4, .int .i64 a1_5, .int .i64 a1_6, .slice A1_7 l1_7.length c1_7, .slice A1_8 l1_8.length c1_8]] w fun e w' => e = .returned (.bool r) ∧ Below w.heap.size w w' := by
 have hu28 := Try.underlying28
 have hu43 := Try.underlying43
 have HR0_7 := Aside0.mk hr0_7
 have HC0_7 := Aside0.mk hc0_7
 clear hr0_7 hc0_7
 have HR0_8 := Aside0.mk hr0_8
 have HC0_8 := Aside0.mk hc0_8
 clear hr0_8 hc0_8
 have HR1_7 := Aside0.mk hr1_7
 have HC1_7 := Aside0.mk hc1_7
 clear hr1_7 hc1_7
 have HR1_8 := Aside0.mk hr1_8
 have HC1_8 := Aside0.mk hc1_8
 clear hr1_8 hc1_8
 have HB := Aside0.mk (Below.refl w.heap.size w)
 have H : (if a0_0 = a1_0 then (if a0_1 = a1_1 then (if a0_2 = a1_2 then (if a0_3 = a1_3 then (if a0_4 = a1_4 then (if a0_5 = a1_5 then (if a0_6 = a1_6 then ((squelchref03_Equal.f k l0_8 l1_8).bind fun t391 => (if t391 = true then (squelchref18_Equal.j0 k ((l0_7.length : Int) != (l1_7.length : Int)) a0_0 a0_1 a0_2 a0_3 a0_4 a0_5 a0_6 l0_7 l0_8 a1_0 a1_1 a1_2 a1_3 a1_4 a1_5 a1_6 l1_7 l1_8) else (squelchref18_Equal.j0 k true a0_0 a0_1 a0_2 a0_3 a0_4 a0_5 a0_6 l0_7 l0_8 a1_0 a1_1 a1_2 a1_3 a1_4 a1_5 a1_6 l1_7 l1_8))) else (squelchref18_Equal.j0 k true a0_0 a0_1 a0_2 a0_3 a0_4 a0_5 a0_6 l0_7 l0_8 a1_0 a1_1 a1_2 a1_3 a1_4 a1_5 a1_6 l1_7 l1_8)) else (squelchref18_Equal.j0 k true a0_0 a0_1 a0_2 a0_3 a0_4 a0_5 a0_6 l0_7 l0_8 a1_0 a1_1 a1_2 a1_3 a1_4 a1_5 a1_6 l1_7 l1_8)) else (squelchref18_Equal.j0 k true a0_0 a0_1 a0_2 a0_3 a0_4 a0_5 a0_6 l0_7 l0_8 a1_0 a1_1 a1_2 a1_3 a1_4 a1_5 a1_6 l1_7 l1_8)) else (squelchref18_Equal.j0 k true a0_0 a0_1 a0_2 a0_3 a0_4 a0_5 a0_6 l0_7 l0_8 a1_0 a1_1 a1_2 a1_3 a1_4 a1_5 a1_6 l1_7 l1_8)) else (squelchref18_Equal.j0 k true a0_0 a0_1 a0_2 a0_3 a0_4 a0_5 a0_6 l0_7 l0_8 a1_0 a1_1 a1_2 a1_3 a1_4 a1_5 a1_6 l1_7 l1_8)) else (squelchref18_Equal.j0 k true a0_0 a0_1 a0_2 a0_3 a0_4 a0_5 a0_6 l0_7 l0_8 a1_0 a1_1 a1_2 a1_3 a1_4 a1_5 a1_6 l1_7 l1_8)) else (squelchref18_Equal.j0 k true a0_0 a0_1 a0_2 a0_3 a0_4 a0_5 a0_6 l0_7 l0_8 a1_0 a1_1 a1_2 a1_3 a1_4 a1_5 a1_6 l1_7 l1_8)) = some r := h
 clear h
 have HC3 := Aside0.mk H
 clear H
 go_enter Try.func17, Try.ntmps17
 go_upto_region 1 with (first | ((with_reducible refine gate_dst (N := 2) rfl ?_); (try (refine gate_guard (by rfl) ?_; dsimp only)); refine box_event ?hg (N := 2) ?hd (cs := #[.int .i64 a0_0, .int .i64 a0_1, .int .i64 a0_2, .int .i64 a0_3, .int .i64 a0_4, .int .i64 a0_5, .int .i64 a0_6, .slice A0_7 l0_7.length c0_7, .slice A0_8 l0_8.length c0_8]) (t := 28) ?hr ?_; (case hd => rfl); (case hg => rfl); (case hr => first | (go_simp; done) | (go_simp; rfl)); intro gb389 hg w4 hbox hb; have n0_ := Aside0.mk (below_step (by repeat (first | (with_reducible first | exact HB.out | apply below_alloc | apply pw_below_drewN | apply below_drew1) | exact HB.out)) hb); have n1_ := Aside0.mk (hbox); have n2_ := Aside0.mk ((by rw [hg]; exact (below_size (by repeat (first | (with_reducible first | exact HB.out | apply below_alloc | apply pw_below_drewN | apply below_drew1) | exact HB.out))) : w.heap.size ≤ gb389)); have n3_ := Aside0.mk ((by rw [hg]; exact (below_size (by repeat (first | (with_reducible first | exact HB.out | apply below_alloc | apply pw_below_drewN | apply below_drew1) | exact HB.out))) : w.heap.size ≤ gb389)); clear HB; have HB := n0_; have BK389 := n1_; have GW389 := n2_; have GE389 := n3_; clear n0_ n1_ n2_ n3_; clear hb hbox hg) | ((with_reducible refine gate_dst (N := 3) rfl ?_); (try (refine gate_guard (by rfl) ?_; dsimp only)); refine box_event ?hg (N := 3) ?hd (cs := #[.int .i64 a1_0, .int .i64 a1_1, .int .i64 a1_2, .int .i64 a1_3, .int .i64 a1_4, .int .i64 a1_5, .int .i64 a1_6, .slice A1_7 l1_7.length c1_7, .slice A1_8 l1_8.length c1_8]) (t := 28) ?hr ?_; (case hd => rfl); (case hg => rfl); (case hr => first | (go_simp; done) | (go_simp; rfl)); intro gb390 hg w5 hbox hb; have n0_ := Aside0.mk (blk_below (g := gb389) (o := .cells #[.int .i64 a0_0, .int .i64 a0_1, .int .i64 a0_2, .int .i64 a0_3, .int .i64 a0_4, .int .i64 a0_5, .int .i64 a0_6, .slice A0_7 l0_7.length c0_7, .slice A0_8 l0_8.length c0_8] 28 (0, 0)) (by (with_reducible repeat (first | refine blk_drewN ?_ _ | refine blk_drew ?_ | refine blk_alloc ?_ _)); exact BK389.out) hb); have n1_ := Aside0.mk (below_step (by repeat (first | (with_reducible first | exact HB.out | apply below_alloc | apply pw_below_drewN | apply below_drew1 | refine below_set ?_ GE389.out) | exact HB.out)) hb); have n2_ := Aside0.mk (hbox); have n3_ := Aside0.mk ((by rw [hg]; exact (below_size (by repeat (first | (with_reducible first | exact HB.out | apply below_alloc | apply pw_below_drewN | apply below_drew1 | refine below_set ?_ GE389.out) | exact HB.out))) : w.heap.size ≤ gb390)); have n4_ := Aside0.mk ((by rw [hg]; exact (below_size (by repeat (first | (with_reducible first | exact HB.out | apply below_alloc | apply pw_below_drewN | apply below_drew1 | refine below_set ?_ GE389.out) | exact HB.out))) : w.heap.size ≤ gb390)); have n5_ := Aside0.mk ((by rw [hg]; exact Nat.ne_of_lt (blk_lt (g := gb389) (o := .cells #[.int .i64 a0_0, .int .i64 a0_1, .int .i64 a0_2, .int .i64 a0_3, .int .i64 a0_4, .int .i64 a0_5, .int .i64 a0_6, .slice A0_7 l0_7.length c0_7, .slice A0_8 l0_8.length c0_8] 28 (0, 0)) (by (with_reducible repeat (first | refine blk_drewN ?_ _ | refine blk_drew ?_ | refine blk_alloc ?_ _)); exact BK389.out)) : gb389 ≠ gb390)); have n6_ := Aside0.mk ((by rw [hg]; exact Nat.ne_of_gt (blk_lt (g := gb389) (o := .cells #[.int .i64 a0_0, .int .i64 a0_1, .int .i64 a0_2, .int .i64 a0_3, .int .i64 a0_4, .int .i64 a0_5, .int .i64 a0_6, .slice A0_7 l0_7.length c0_7, .slice A0_8 l0_8.length c0_8] 28 (0, 0)) (by (with_reducible repeat (first | refine blk_drewN ?_ _ | refine blk_drew ?_ | refine blk_alloc ?_ _)); exact BK389.out)) : gb390 ≠ gb389)); clear BK389; clear HB; have BK389 := n0_; have HB := n1_; have BK390 := n2_; have GW390 := n3_; have GE390 := n4_; have NB389_390 := n5_; have NB390_389 := n6_; clear n0_ n1_ n2_ n3_ n4_ n5_ n6_; clear hb hbox hg))
 repeat (go_quiet (first | ((with_reducible refine gate_dst (N := 2) rfl ?_); (try (refine gate_guard (by rfl) ?_; dsimp only)); refine box_event ?hg (N := 2) ?hd (cs := #[.int .i64 a0_0, .int .i64 a0_1, .int .i64 a0_2, .int .i64 a0_3, .int .i64 a0_4, .int .i64 a0_5, .int .i64 a0_6, .slice A0_7 l0_7.length c0_7, .slice A0_8 l0_8.length c0_8]) (t := 28) ?hr ?_; (case hd => rfl); (case hg => rfl); (case hr => first | (go_simp; done) | (go_simp; rfl)); intro gb389 hg w4 hbox hb; have n0_ := Aside0.mk (below_step (by repeat (first | (with_reducible first | exact HB.out | apply below_alloc | apply pw_below_drewN | apply below_drew1) | exact HB.out)) hb); have n1_ := Aside0.mk (hbox); have n2_ := Aside0.mk ((by rw [hg]; exact (below_size (by repeat (first | (with_reducible first | exact HB.out | apply below_alloc | apply pw_below_drewN | apply below_drew1) | exact HB.out))) : w.heap.size ≤ gb389)); have n3_ := Aside0.mk ((by rw [hg]; exact (below_size (by repeat (first | (with_reducible first | exact HB.out | apply below_alloc | apply pw_below_drewN | apply below_drew1) | exact HB.out))) : w.heap.size ≤ gb389)); clear HB; have HB := n0_; have BK389 := n1_; have GW389 := n2_; have GE389 := n3_; clear n0_ n1_ n2_ n3_; clear hb hbox hg) | ((with_reducible refine gate_dst (N := 3) rfl ?_); (try (refine gate_guard (by rfl) ?_; dsimp only)); refine box_event ?hg (N := 3) ?hd (cs := #[.int .i64 a1_0, .int .i64 a1_1, .int .i64 a1_2, .int .i64 a1_3, .int .i64 a1_4, .int .i64 a1_5, .int .i64 a1_6, .slice A1_7 l1_7.length c1_7, .slice A1_8 l1_8.length c1_8]) (t := 28) ?hr ?_; (case hd => rfl); (case hg => rfl); (case hr => first | (go_simp; done) | (go_simp; rfl)); intro gb390 hg w5 hbox hb; have n0_ := Aside0.mk (blk_below (g := gb389) (o := .cells #[.int .i64 a0_0, .int .i64 a0_1, .int .i64 a0_2, .int .i64 a0_3, .int .i64 a0_4, .int .i64 a0_5, .int .i64 a0_6, .slice A0_7 l0_7.length c0_7, .slice A0_8 l0_8.length c0_8] 28 (0, 0)) (by (with_reducible repeat (first | refine blk_drewN ?_ _ | refine blk_drew ?_ | refine blk_alloc ?_ _)); exact BK389.out) hb); have n1_ := Aside0.mk (below_step (by repeat (first | (with_reducible first | exact HB.out | apply below_alloc | apply pw_below_drewN | apply below_drew1 | refine below_set ?_ GE389.out) | exact HB.out)) hb); have n2_ := Aside0.mk (hbox); have n3_ := Aside0.mk ((by rw [hg]; exact (below_size (by repeat (first | (with_reducible first | exact HB.out | apply below_alloc | apply pw_below_drewN | apply below_drew1 | refine below_set ?_ GE389.out) | exact HB.out))) : w.heap.size ≤ gb390)); have n4_ := Aside0.mk ((by rw [hg]; exact (below_size (by repeat (first | (with_reducible first | exact HB.out | apply below_alloc | apply pw_below_drewN | apply below_drew1 | refine below_set ?_ GE389.out) | exact HB.out))) : w.heap.size ≤ gb390)); have n5_ := Aside0.mk ((by rw [hg]; exact Nat.ne_of_lt (blk_lt (g := gb389) (o := .cells #[.int .i64 a0_0, .int .i64 a0_1, .int .i64 a0_2, .int .i64 a0_3, .int .i64 a0_4, .int .i64 a0_5, .int .i64 a0_6, .slice A0_7 l0_7.length c0_7, .slice A0_8 l0_8.length c0_8] 28 (0, 0)) (by (with_reducible repeat (first | refine blk_drewN ?_ _ | refine blk_drew ?_ | refine blk_alloc ?_ _)); exact BK389.out)) : gb389 ≠ gb390)); have n6_ := Aside0.mk ((by rw [hg]; exact Nat.ne_of_gt (blk_lt (g := gb389) (o := .cells #[.int .i64 a0_0, .int .i64 a0_1, .int .i64 a0_2, .int .i64 a0_3, .int .i64 a0_4, .int .i64 a0_5, .int .i64 a0_6, .slice A0_7 l0_7.length c0_7, .slice A0_8 l0_8.length c0_8] 28 (0, 0)) (by (with_reducible repeat (first | refine blk_drewN ?_ _ | refine blk_drew ?_ | refine blk_alloc ?_ _)); exact BK389.out)) : gb390 ≠ gb389)); clear BK389; clear HB; have BK389 := n0_; have HB := n1_; have BK390 := n2_; have GW390 := n3_; have GE390 := n4_; have NB389_390 := n5_; have NB390_389 := n6_; clear n0_ n1_ n2_ n3_ n4_ n5_ n6_; clear hb hbox hg)); go_upto_region 1 with (first | ((with_reducible refine gate_dst (N := 2) rfl ?_); (try (refine gate_guard (by rfl) ?_; dsimp only)); refine box_event ?hg (N := 2) ?hd (cs := #[.int .i64 a0_0, .int .i64 a0_1, .int .i64 a0_2, .int .i64 a0_3, .int .i64 a0_4, .int .i64 a0_5, .int .i64 a0_6, .slice A0_7 l0_7.length c0_7, .slice A0_8 l0_8.length c0_8]) (t := 28) ?hr ?_; (case hd => rfl); (case hg => rfl); (case hr => first | (go_simp; done) | (go_simp; rfl)); intro gb389 hg w4 hbox hb; have n0_ := Aside0.mk (below_step (by repeat (first | (with_reducible first | exact HB.out | apply below_alloc | apply pw_below_drewN | apply below_drew1) | exact HB.out)) hb); have n1_ := Aside0.mk (hbox); have n2_ := Aside0.mk ((by rw [hg]; exact (below_size (by repeat (first | (with_reducible first | exact HB.out | apply below_alloc | apply pw_below_drewN | apply below_drew1) | exact HB.out))) : w.heap.size ≤ gb389)); have n3_ := Aside0.mk ((by rw [hg]; exact (below_size (by repeat (first | (with_reducible first | exact HB.out | apply below_alloc | apply pw_below_drewN | apply below_drew1) | exact HB.out))) : w.heap.size ≤ gb389)); clear HB; have HB := n0_; have BK389 := n1_; have GW389 := n2_; have GE389 := n3_; clear n0_ n1_ n2_ n3_; clear hb hbox hg) | ((with_reducible refine gate_dst (N := 3) rfl ?_); (try (refine gate_guard (by rfl) ?_; dsimp only)); refine box_event ?hg (N := 3) ?hd (cs := #[.int .i64 a1_0, .int .i64 a1_1, .int .i64 a1_2, .int .i64 a1_3, .int .i64 a1_4, .int .i64 a1_5, .int .i64 a1_6, .slice A1_7 l1_7.length c1_7, .slice A1_8 l1_8.length c1_8]) (t := 28) ?hr ?_; (case hd => rfl); (case hg => rfl); (case hr => first | (go_simp; done) | (go_simp; rfl)); intro gb390 hg w5 hbox hb; have n0_ := Aside0.mk (blk_below (g := gb389) (o := .cells #[.int .i64 a0_0, .int .i64 a0_1, .int .i64 a0_2, .int .i64 a0_3, .int .i64 a0_4, .int .i64 a0_5, .int .i64 a0_6, .slice A0_7 l0_7.length c0_7, .slice A0_8 l0_8.length c0_8] 28 (0, 0)) (by (with_reducible repeat (first | refine blk_drewN ?_ _ | refine blk_drew ?_ | refine blk_alloc ?_ _)); exact BK389.out) hb); have n1_ := Aside0.mk (below_step (by repeat (first | (with_reducible first | exact HB.out | apply below_alloc | apply pw_below_drewN | apply below_drew1 | refine below_set ?_ GE389.out) | exact HB.out)) hb); have n2_ := Aside0.mk (hbox); have n3_ := Aside0.mk ((by rw [hg]; exact (below_size (by repeat (first | (with_reducible first | exact HB.out | apply below_alloc | apply pw_below_drewN | apply below_drew1 | refine below_set ?_ GE389.out) | exact HB.out))) : w.heap.size ≤ gb390)); have n4_ := Aside0.mk ((by rw [hg]; exact (below_size (by repeat (first | (with_reducible first | exact HB.out | apply below_alloc | apply pw_below_drewN | apply below_drew1 | refine below_set ?_ GE389.out) | exact HB.out))) : w.heap.size ≤ gb390)); have n5_ := Aside0.mk ((by rw [hg]; exact Nat.ne_of_lt (blk_lt (g := gb389) (o := .cells #[.int .i64 a0_0, .int .i64 a0_1, .int .i64 a0_2, .int .i64 a0_3, .int .i64 a0_4, .int .i64 a0_5, .int .i64 a0_6, .slice A0_7 l0_7.length c0_7, .slice A0_8 l0_8.length c0_8] 28 (0, 0)) (by (with_reducible repeat (first | refine blk_drewN ?_ _ | refine blk_drew ?_ | refine blk_alloc ?_ _)); exact BK389.out)) : gb389 ≠ gb390)); have n6_ := Aside0.mk ((by rw [hg]; exact Nat.ne_of_gt (blk_lt (g := gb389) (o := .cells #[.int .i64 a0_0, .int .i64 a0_1, .int .i64 a0_2, .int .i64 a0_3, .int .i64 a0_4, .int .i64 a0_5, .int .i64 a0_6, .slice A0_7 l0_7.length c0_7, .slice A0_8 l0_8.length c0_8] 28 (0, 0)) (by (with_reducible repeat (first | refine blk_drewN ?_ _ | refine blk_drew ?_ | refine blk_alloc ?_ _)); exact BK389.out)) : gb390 ≠ gb389)); clear BK389; clear HB; have BK389 := n0_; have HB := n1_; have BK390 := n2_; have GW390 := n3_; have GE390 := n4_; have NB389_390 := n5_; have NB390_389 := n6_; clear n0_ n1_ n2_ n3_ n4_ n5_ n6_; clear hb hbox hg)))
 (try simp only [Act.put, sA, sZ, sS])
 go_cut [69] (fun v69 wc => ∃ (kq : Nat) (x69_2 : Bool), v69 = .bool x69_2 ∧ Aside0 (squelchref18_Equal.j0 kq x69_2 a0_0 a0_1 a0_2 a0_3 a0_4 a0_5 a0_6 l0_7 l0_8 a1_0 a1_1 a1_2 a1_3 a1_4 a1_5 a1_6 l1_7 l1_8 = some r) ∧ Aside0 (kq ≤ k) ∧ Aside0 (wc.heap[gb389]? = some (.cells #[.int .i64 a0_0, .int .i64 a0_1, .int .i64 a0_2, .int .i64 a0_3, .int .i64 a0_4, .int .i64 a0_5, .int .i64 a0_6, (.slice A0_7 l0_7.length c0_7), (.slice A0_8 l0_8.length c0_8)] 28 (0, 0))) ∧ Aside0 (wc.heap[gb390]? = some (.cells #[.int .i64 a1_0, .int .i64 a1_1, .int .i64 a1_2, .int .i64 a1_3, .int .i64 a1_4, .int .i64 a1_5, .int .i64 a1_6, (.slice A1_7 l1_7.length c1_7), (.slice A1_8 l1_8.length c1_8)] 28 (0, 0))) ∧ Aside0 (Below w.heap.size w wc))
 case first =>
  have H := HC3.out
  clear HC3
  by_cases c6 : a0_0 = a1_0
  ·rw [if_pos c6] at H
   have c6b0 : (a0_0 == a1_0) = true := beq_iff_eq.mpr c6
   have c6b1 : (a0_0 != a1_0) = false := bne_eq_false_iff_eq.mpr c6
   clear c6
   (first | rw [c6b0] | (simp only [i64_w, i32_w]; rw [c6b0]) | skip)
   by_cases c7 : a0_1 = a1_1
   ·rw [if_pos c7] at H
    have c7b0 : (a0_1 == a1_1) = true := beq_iff_eq.mpr c7
    have c7b1 : (a0_1 != a1_1) = false := bne_eq_false_iff_eq.mpr c7
    clear c7
    by_cases c8 : a0_2 = a1_2
    ·rw [if_pos c8] at H
     have c8b0 : (a0_2 == a1_2) = true := beq_iff_eq.mpr c8
     have c8b1 : (a0_2 != a1_2) = false := bne_eq_false_iff_eq.mpr c8
     clear c8
     by_cases c9 : a0_3 = a1_3
     ·rw [if_pos c9] at H
      have c9b0 : (a0_3 == a1_3) = true := beq_iff_eq.mpr c9
      have c9b1 : (a0_3 != a1_3) = false := bne_eq_false_iff_eq.mpr c9
      clear c9
      by_cases c10 : a0_4 = a1_4
      ·rw [if_pos c10] at H
       have c10b0 : (a0_4 == a1_4) = true := beq_iff_eq.mpr c10
       have c10b1 : (a0_4 != a1_4) = false := bne_eq_false_iff_eq.mpr c10
       clear c10
       by_cases c11 : a0_5 = a1_5
       ·rw [if_pos c11] at H
        have c11b0 : (a0_5 == a1_5) = true := beq_iff_eq.mpr c11
        have c11b1 : (a0_5 != a1_5) = false := bne_eq_false_iff_eq.mpr c11
        clear c11
        by_cases c12 : a0_6 = a1_6
        ·rw [if_pos c12] at H
         have c12b0 : (a0_6 == a1_6) = true := beq_iff_eq.mpr c12
         have c12b1 : (a0_6 != a1_6) = false := bne_eq_false_iff_eq.mpr c12
         clear c12
         replace H := Option.bind_eq_some_iff.mp H
         obtain ⟨t391, A130, H⟩ := H
         replace H : (if t391 = true then (squelchref18_Equal.j0 k ((l0_7.length : Int) != (l1_7.length : Int)) a0_0 a0_1 a0_2 a0_3 a0_4 a0_5 a0_6 l0_7 l0_8 a1_0 a1_1 a1_2 a1_3 a1_4 a1_5 a1_6 l1_7 l1_8) else (squelchref18_Equal.j0 k true a0_0 a0_1 a0_2 a0_3 a0_4 a0_5 a0_6 l0_7 l0_8 a1_0 a1_1 a1_2 a1_3 a1_4 a1_5 a1_6 l1_7 l1_8)) = some r := H
         have A13 := Aside0.mk A130
         clear A130
         by_cases c14 : t391 = true
         ·subst c14
          have H1 : (squelchref18_Equal.j0 k ((l0_7.length : Int) != (l1_7.length : Int)) a0_0 a0_1 a0_2 a0_3 a0_4 a0_5 a0_6 l0_7 l0_8 a1_0 a1_1 a1_2 a1_3 a1_4 a1_5 a1_6 l1_7 l1_8) = some r := by rw [if_pos rfl] at H; exact H
          clear H
          have H := H1
          clear H1
          have H' := Aside0.mk H
          clear H
          have hnb15 := NB389_390.out
          have hnc15 := NB390_389.out
          have hcz16_0 : w5.cell? ⟨gb389, 0, none⟩ = some (.int .i64 a0_0) := (blk_cell BK389.out 0).trans rfl
          have hcz16_1 : w5.cell? ⟨gb389, 1, none⟩ = some (.int .i64 a0_1) := (blk_cell BK389.out 1).trans rfl
          have hcz16_2 : w5.cell? ⟨gb389, 2, none⟩ = some (.int .i64 a0_2) := (blk_cell BK389.out 2).trans rfl
          have hcz16_3 : w5.cell? ⟨gb389, 3, none⟩ = some (.int .i64 a0_3) := (blk_cell BK389.out 3).trans rfl
          have hcz16_4 : w5.cell? ⟨gb389, 4, none⟩ = some (.int .i64 a0_4) := (blk_cell BK389.out 4).trans rfl
          have hcz16_5 : w5.cell? ⟨gb389, 5, none⟩ = some (.int .i64 a0_5) := (blk_cell BK389.out 5).trans rfl
          have hcz16_6 : w5.cell? ⟨gb389, 6, none⟩ = some (.int .i64 a0_6) := (blk_cell BK389.out 6).trans rfl
          have hcz16_7 : w5.cell? ⟨gb389, 7, none⟩ = some (.slice A0_7 l0_7.length c0_7) := (blk_cell BK389.out 7).trans rfl
          have hcz16_8 : w5.cell? ⟨gb389, 8, none⟩ = some (.slice A0_8 l0_8.length c0_8) := (blk_cell BK389.out 8).trans rfl
          have hfz16_0 := blk_frozen BK389.out 0
          have hfz16_1 := blk_frozen BK389.out 1
          have hfz16_2 := blk_frozen BK389.out 2
          have hfz16_3 := blk_frozen BK389.out 3
          have hfz16_4 := blk_frozen BK389.out 4
          have hfz16_5 := blk_frozen BK389.out 5
          have hfz16_6 := blk_frozen BK389.out 6
          have hfz16_7 := blk_frozen BK389.out 7
          have hfz16_8 := blk_frozen BK389.out 8
          have hcz17_0 : w5.cell? ⟨gb390, 0, none⟩ = some (.int .i64 a1_0) := (blk_cell BK390.out 0).trans rfl
          have hcz17_1 : w5.cell? ⟨gb390, 1, none⟩ = some (.int .i64 a1_1) := (blk_cell BK390.out 1).trans rfl
          have hcz17_2 : w5.cell? ⟨gb390, 2, none⟩ = some (.int .i64 a1_2) := (blk_cell BK390.out 2).trans rfl
          have hcz17_3 : w5.cell? ⟨gb390, 3, none⟩ = some (.int .i64 a1_3) := (blk_cell BK390.out 3).trans rfl
          have hcz17_4 : w5.cell? ⟨gb390, 4, none⟩ = some (.int .i64 a1_4) := (blk_cell BK390.out 4).trans rfl
          have hcz17_5 : w5.cell? ⟨gb390, 5, none⟩ = some (.int .i64 a1_5) := (blk_cell BK390.out 5).trans rfl
          have hcz17_6 : w5.cell? ⟨gb390, 6, none⟩ = some (.int .i64 a1_6) := (blk_cell BK390.out 6).trans rfl
          have hcz17_7 : w5.cell? ⟨gb390, 7, none⟩ = some (.slice A1_7 l1_7.length c1_7) := (blk_cell BK390.out 7).trans rfl
          have hcz17_8 : w5.cell? ⟨gb390, 8, none⟩ = some (.slice A1_8 l1_8.length c1_8) := (blk_cell BK390.out 8).trans rfl
          have hfz17_0 := blk_frozen BK390.out 0
          have hfz17_1 := blk_frozen BK390.out 1
          have hfz17_2 := blk_frozen BK390.out 2
          have hfz17_3 := blk_frozen BK390.out 3
          have hfz17_4 := blk_frozen BK390.out 4
          have hfz17_5 := blk_frozen BK390.out 5
          have hfz17_6 := blk_frozen BK390.out 6
          have hfz17_7 := blk_frozen BK390.out 7
          have hfz17_8 := blk_frozen BK390.out 8
          go_wp2_with (first | (go_at_call 43; (with_reducible refine (squelchref03_Equal.calls k _ _ l0_8 _ _ l1_8 true _ ?side1 ?side2 ?side3 ?side4 A13.out).mono ?_); (case side1 => repeat (first | exact (Kd.C_below HR0_8.out HB.out) | (with_reducible refine Kd.C_alloc ?_ _) | (with_reducible refine Kd.C_drewN ?_ _) | (with_reducible refine Kd.C_drew ?_))); (case side2 => exact HC0_8.out); (case side3 => repeat (first | exact (Kd.C_below HR1_8.out HB.out) | (with_reducible refine Kd.C_alloc ?_ _) | (with_reducible refine Kd.C_drewN ?_ _) | (with_reducible refine Kd.C_drew ?_))); (case side4 => exact HC1_8.out); rintro e w' ⟨rfl, ⟨nd, rfl⟩⟩; (try first | exact ⟨rfl, _, World.drewN_drewN _ _ _⟩ | exact ⟨rfl, _, Eq.trans (World.drewN_drewN _ _ _) (congrArg (World.drewN _) (Nat.add_assoc _ _ _))⟩)))
          repeat (go_quiet (first | (go_at_call 43; (with_reducible refine (squelchref03_Equal.calls k _ _ l0_8 _ _ l1_8 true _ ?side1 ?side2 ?side3 ?side4 A13.out).mono ?_); (case side1 => repeat (first | exact (Kd.C_below HR0_8.out HB.out) | (with_reducible refine Kd.C_alloc ?_ _) | (with_reducible refine Kd.C_drewN ?_ _) | (with_reducible refine Kd.C_drew ?_))); (case side2 => exact HC0_8.out); (case side3 => repeat (first | exact (Kd.C_below HR1_8.out HB.out) | (with_reducible refine Kd.C_alloc ?_ _) | (with_reducible refine Kd.C_drewN ?_ _) | (with_reducible refine Kd.C_drew ?_))); (case side4 => exact HC1_8.out); rintro e w' ⟨rfl, ⟨nd, rfl⟩⟩; (try first | exact ⟨rfl, _, World.drewN_drewN _ _ _⟩ | exact ⟨rfl, _, Eq.trans (World.drewN_drewN _ _ _) (congrArg (World.drewN _) (Nat.add_assoc _ _ _))⟩))); try go_wp2_with (first | (go_at_call 43; (with_reducible refine (squelchref03_Equal.calls k _ _ l0_8 _ _ l1_8 true _ ?side1 ?side2 ?side3 ?side4 A13.out).mono ?_); (case side1 => repeat (first | exact (Kd.C_below HR0_8.out HB.out) | (with_reducible refine Kd.C_alloc ?_ _) | (with_reducible refine Kd.C_drewN ?_ _) | (with_reducible refine Kd.C_drew ?_))); (case side2 => exact HC0_8.out); (case side3 => repeat (first | exact (Kd.C_below HR1_8.out HB.out) | (with_reducible refine Kd.C_alloc ?_ _) | (with_reducible refine Kd.C_drewN ?_ _) | (with_reducible refine Kd.C_drew ?_))); (case side4 => exact HC1_8.out); rintro e w' ⟨rfl, ⟨nd, rfl⟩⟩; (try first | exact ⟨rfl, _, World.drewN_drewN _ _ _⟩ | exact ⟨rfl, _, Eq.trans (World.drewN_drewN _ _ _) (congrArg (World.drewN _) (Nat.add_assoc _ _ _))⟩))))
          go_meet
          case rel => exact ⟨_, (((l0_7.length : Int) != (l1_7.length : Int))), (by first | rfl | (simp; done) | (simp [*]; done)), H', ⟨by first | omega | exact Nat.le_refl _⟩, ⟨by (with_reducible repeat (first | refine blk_drewN ?_ _ | refine blk_drew ?_ | refine blk_alloc ?_ _)); exact BK389.out⟩, ⟨by (with_reducible repeat (first | refine blk_drewN ?_ _ | refine blk_drew ?_ | refine blk_alloc ?_ _)); exact BK390.out⟩, ⟨by repeat (first | (with_reducible first | exact HB.out | apply below_alloc | apply pw_below_drewN | apply below_drew1 | refine below_set ?_ GE389.out | refine below_set ?_ GE390.out) | exact HB.out)⟩⟩
         ·replace c14 := Bool.eq_false_iff.mpr c14
          subst c14
          have H1 : (squelchref18_Equal.j0 k true a0_0 a0_1 a0_2 a0_3 a0_4 a0_5 a0_6 l0_7 l0_8 a1_0 a1_1 a1_2 a1_3 a1_4 a1_5 a1_6 l1_7 l1_8) = some r := by rw [if_neg (show ¬ (false = true) by decide)] at H; exact H
          clear H
          have H := H1
          clear H1
          have H' := Aside0.mk H
          clear H
          have hnb18 := NB389_390.out
          have hnc18 := NB390_389.out
          have hcz19_0 : w5.cell? ⟨gb389, 0, none⟩ = some (.int .i64 a0_0) := (blk_cell BK389.out 0).trans rfl
          have hcz19_1 : w5.cell? ⟨gb389, 1, none⟩ = some (.int .i64 a0_1) := (blk_cell BK389.out 1).trans rfl
          have hcz19_2 : w5.cell? ⟨gb389, 2, none⟩ = some (.int .i64 a0_2) := (blk_cell BK389.out 2).trans rfl
          have hcz19_3 : w5.cell? ⟨gb389, 3, none⟩ = some (.int .i64 a0_3) := (blk_cell BK389.out 3).trans rfl
          have hcz19_4 : w5.cell? ⟨gb389, 4, none⟩ = some (.int .i64 a0_4) := (blk_cell BK389.out 4).trans rfl
          have hcz19_5 : w5.cell? ⟨gb389, 5, none⟩ = some (.int .i64 a0_5) := (blk_cell BK389.out 5).trans rfl
          have hcz19_6 : w5.cell? ⟨gb389, 6, none⟩ = some (.int .i64 a0_6) := (blk_cell BK389.out 6).trans rfl
          have hcz19_7 : w5.cell? ⟨gb389, 7, none⟩ = some (.slice A0_7 l0_7.length c0_7) := (blk_cell BK389.out 7).trans rfl
          have hcz19_8 : w5.cell? ⟨gb389, 8, none⟩ = some (.slice A0_8 l0_8.length c0_8) := (blk_cell BK389.out 8).trans rfl
          have hfz19_0 := blk_frozen BK389.out 0
          have hfz19_1 := blk_frozen BK389.out 1
          have hfz19_2 := blk_frozen BK389.out 2
          have hfz19_3 := blk_frozen BK389.out 3
          have hfz19_4 := blk_frozen BK389.out 4
          have hfz19_5 := blk_frozen BK389.out 5
          have hfz19_6 := blk_frozen BK389.out 6
          have hfz19_7 := blk_frozen BK389.out 7
          have hfz19_8 := blk_frozen BK389.out 8
          have hcz20_0 : w5.cell? ⟨gb390, 0, none⟩ = some (.int .i64 a1_0) := (blk_cell BK390.out 0).trans rfl
          have hcz20_1 : w5.cell? ⟨gb390, 1, none⟩ = some (.int .i64 a1_1) := (blk_cell BK390.out 1).trans rfl
          have hcz20_2 : w5.cell? ⟨gb390, 2, none⟩ = some (.int .i64 a1_2) := (blk_cell BK390.out 2).trans rfl
          have hcz20_3 : w5.cell? ⟨gb390, 3, none⟩ = some (.int .i64 a1_3) := (blk_cell BK390.out 3).trans rfl
          have hcz20_4 : w5.cell? ⟨gb390, 4, none⟩ = some (.int .i64 a1_4) := (blk_cell BK390.out 4).trans rfl
          have hcz20_5 : w5.cell? ⟨gb390, 5, none⟩ = some (.int .i64 a1_5) := (blk_cell BK390.out 5).trans rfl
          have hcz20_6 : w5.cell? ⟨gb390, 6, none⟩ = some (.int .i64 a1_6) := (blk_cell BK390.out 6).trans rfl
          have hcz20_7 : w5.cell? ⟨gb390, 7, none⟩ = some (.slice A1_7 l1_7.length c1_7) := (blk_cell BK390.out 7).trans rfl
          have hcz20_8 : w5.cell? ⟨gb390, 8, none⟩ = some (.slice A1_8 l1_8.length c1_8) := (blk_cell BK390.out 8).trans rfl
          have hfz20_0 := blk_frozen BK390.out 0
          have hfz20_1 := blk_frozen BK390.out 1
          have hfz20_2 := blk_frozen BK390.out 2
          have hfz20_3 := blk_frozen BK390.out 3
          have hfz20_4 := blk_frozen BK390.out 4
          have hfz20_5 := blk_frozen BK390.out 5
          have hfz20_6 := blk_frozen BK390.out 6
          have hfz20_7 := blk_frozen BK390.out 7
          have hfz20_8 := blk_frozen BK390.out 8
          go_wp2_with (first | (go_at_call 43; (with_reducible refine (squelchref03_Equal.calls k _ _ l0_8 _ _ l1_8 false _ ?side1 ?side2 ?side3 ?side4 A13.out).mono ?_); (case side1 => repeat (first | exact (Kd.C_below HR0_8.out HB.out) | (with_reducible refine Kd.C_alloc ?_ _) | (with_reducible refine Kd.C_drewN ?_ _) | (with_reducible refine Kd.C_drew ?_))); (case side2 => exact HC0_8.out); (case side3 => repeat (first | exact (Kd.C_below HR1_8.out HB.out) | (with_reducible refine Kd.C_alloc ?_ _) | (with_reducible refine Kd.C_drewN ?_ _) | (with_reducible refine Kd.C_drew ?_))); (case side4 => exact HC1_8.out); rintro e w' ⟨rfl, ⟨nd, rfl⟩⟩; (try first | exact ⟨rfl, _, World.drewN_drewN _ _ _⟩ | exact ⟨rfl, _, Eq.trans (World.drewN_drewN _ _ _) (congrArg (World.drewN _) (Nat.add_assoc _ _ _))⟩)))
          repeat (go_quiet (first | (go_at_call 43; (with_reducible refine (squelchref03_Equal.calls k _ _ l0_8 _ _ l1_8 false _ ?side1 ?side2 ?side3 ?side4 A13.out).mono ?_); (case side1 => repeat (first | exact (Kd.C_below HR0_8.out HB.out) | (with_reducible refine Kd.C_alloc ?_ _) | (with_reducible refine Kd.C_drewN ?_ _) | (with_reducible refine Kd.C_drew ?_))); (case side2 => exact HC0_8.out); (case side3 => repeat (first | exact (Kd.C_below HR1_8.out HB.out) | (with_reducible refine Kd.C_alloc ?_ _) | (with_reducible refine Kd.C_drewN ?_ _) | (with_reducible refine Kd.C_drew ?_))); (case side4 => exact HC1_8.out); rintro e w' ⟨rfl, ⟨nd, rfl⟩⟩; (try first | exact ⟨rfl, _, World.drewN_drewN _ _ _⟩ | exact ⟨rfl, _, Eq.trans (World.drewN_drewN _ _ _) (congrArg (World.drewN _) (Nat.add_assoc _ _ _))⟩))); try go_wp2_with (first | (go_at_call 43; (with_reducible refine (squelchref03_Equal.calls k _ _ l0_8 _ _ l1_8 false _ ?side1 ?side2 ?side3 ?side4 A13.out).mono ?_); (case side1 => repeat (first | exact (Kd.C_below HR0_8.out HB.out) | (with_reducible refine Kd.C_alloc ?_ _) | (with_reducible refine Kd.C_drewN ?_ _) | (with_reducible refine Kd.C_drew ?_))); (case side2 => exact HC0_8.out); (case side3 => repeat (first | exact (Kd.C_below HR1_8.out HB.out) | (with_reducible refine Kd.C_alloc ?_ _) | (with_reducible refine Kd.C_drewN ?_ _) | (with_reducible refine Kd.C_drew ?_))); (case side4 => exact HC1_8.out); rintro e w' ⟨rfl, ⟨nd, rfl⟩⟩; (try first | exact ⟨rfl, _, World.drewN_drewN _ _ _⟩ | exact ⟨rfl, _, Eq.trans (World.drewN_drewN _ _ _) (congrArg (World.drewN _) (Nat.add_assoc _ _ _))⟩))))
          go_meet
          case rel => exact ⟨_, (true), (by first | rfl | (simp; done) | (simp [*]; done)), H', ⟨by first | omega | exact Nat.le_refl _⟩, ⟨by (with_reducible repeat (first | refine blk_drewN ?_ _ | refine blk_drew ?_ | refine blk_alloc ?_ _)); exact BK389.out⟩, ⟨by (with_reducible repeat (first | refine blk_drewN ?_ _ | refine blk_drew ?_ | refine blk_alloc ?_ _)); exact BK390.out⟩, ⟨by repeat (first | (with_reducible first | exact HB.out | apply below_alloc | apply pw_below_drewN | apply below_drew1 | refine below_set ?_ GE389.out | refine below_set ?_ GE390.out) | exact HB.out)⟩⟩
        ·rw [if_neg c12] at H
         have c12b0 : (a0_6 == a1_6) = false := beq_eq_false_iff_ne.mpr c12
         have c12b1 : (a0_6 != a1_6) = true := bne_iff_ne.mpr c12
         have H' := Aside0.mk H
         clear H
         have hnb21 := NB389_390.out
         have hnc21 := NB390_389.out
         have hcz22_0 : w5.cell? ⟨gb389, 0, none⟩ = some (.int .i64 a0_0) := (blk_cell BK389.out 0).trans rfl
         have hcz22_1 : w5.cell? ⟨gb389, 1, none⟩ = some (.int .i64 a0_1) := (blk_cell BK389.out 1).trans rfl
         have hcz22_2 : w5.cell? ⟨gb389, 2, none⟩ = some (.int .i64 a0_2) := (blk_cell BK389.out 2).trans rfl
         have hcz22_3 : w5.cell? ⟨gb389, 3, none⟩ = some (.int .i64 a0_3) := (blk_cell BK389.out 3).trans rfl
         have hcz22_4 : w5.cell? ⟨gb389, 4, none⟩ = some (.int .i64 a0_4) := (blk_cell BK389.out 4).trans rfl
         have hcz22_5 : w5.cell? ⟨gb389, 5, none⟩ = some (.int .i64 a0_5) := (blk_cell BK389.out 5).trans rfl
         have hcz22_6 : w5.cell? ⟨gb389, 6, none⟩ = some (.int .i64 a0_6) := (blk_cell BK389.out 6).trans rfl
         have hcz22_7 : w5.cell? ⟨gb389, 7, none⟩ = some (.slice A0_7 l0_7.length c0_7) := (blk_cell BK389.out 7).trans rfl
         have hcz22_8 : w5.cell? ⟨gb389, 8, none⟩ = some (.slice A0_8 l0_8.length c0_8) := (blk_cell BK389.out 8).trans rfl
         have hfz22_0 := blk_frozen BK389.out 0
         have hfz22_1 := blk_frozen BK389.out 1
         have hfz22_2 := blk_frozen BK389.out 2
         have hfz22_3 := blk_frozen BK389.out 3
         have hfz22_4 := blk_frozen BK389.out 4
         have hfz22_5 := blk_frozen BK389.out 5
         have hfz22_6 := blk_frozen BK389.out 6
         have hfz22_7 := blk_frozen BK389.out 7
         have hfz22_8 := blk_frozen BK389.out 8
         have hcz23_0 : w5.cell? ⟨gb390, 0, none⟩ = some (.int .i64 a1_0) := (blk_cell BK390.out 0).trans rfl
         have hcz23_1 : w5.cell? ⟨gb390, 1, none⟩ = some (.int .i64 a1_1) := (blk_cell BK390.out 1).trans rfl
         have hcz23_2 : w5.cell? ⟨gb390, 2, none⟩ = some (.int .i64 a1_2) := (blk_cell BK390.out 2).trans rfl
         have hcz23_3 : w5.cell? ⟨gb390, 3, none⟩ = some (.int .i64 a1_3) := (blk_cell BK390.out 3).trans rfl
         have hcz23_4 : w5.cell? ⟨gb390, 4, none⟩ = some (.int .i64 a1_4) := (blk_cell BK390.out 4).trans rfl
         have hcz23_5 : w5.cell? ⟨gb390, 5, none⟩ = some (.int .i64 a1_5) := (blk_cell BK390.out 5).trans rfl
         have hcz23_6 : w5.cell? ⟨gb390, 6, none⟩ = some (.int .i64 a1_6) := (blk_cell BK390.out 6).trans rfl
         have hcz23_7 : w5.cell? ⟨gb390, 7, none⟩ = some (.slice A1_7 l1_7.length c1_7) := (blk_cell BK390.out 7).trans rfl
         have hcz23_8 : w5.cell? ⟨gb390, 8, none⟩ = some (.slice A1_8 l1_8.length c1_8) := (blk_cell BK390.out 8).trans rfl
         have hfz23_0 := blk_frozen BK390.out 0
         have hfz23_1 := blk_frozen BK390.out 1
         have hfz23_2 := blk_frozen BK390.out 2
         have hfz23_3 := blk_frozen BK390.out 3
         have hfz23_4 := blk_frozen BK390.out 4
         have hfz23_5 := blk_frozen BK390.out 5
         have hfz23_6 := blk_frozen BK390.out 6
         have hfz23_7 := blk_frozen BK390.out 7
         have hfz23_8 := blk_frozen BK390.out 8
         go_wp2
         repeat (go_quiet (fail); try go_wp2)
         go_meet
         case rel => exact ⟨_, (true), (by first | rfl | (simp; done) | (simp [*]; done)), H', ⟨by first | omega | exact Nat.le_refl _⟩, ⟨by (with_reducible repeat (first | refine blk_drewN ?_ _ | refine blk_drew ?_ | refine blk_alloc ?_ _)); exact BK389.out⟩, ⟨by (with_reducible repeat (first | refine blk_drewN ?_ _ | refine blk_drew ?_ | refine blk_alloc ?_ _)); exact BK390.out⟩, ⟨by repeat (first | (with_reducible first | exact HB.out | apply below_alloc | apply pw_below_drewN | apply below_drew1 | refine below_set ?_ GE389.out | refine below_set ?_ GE390.out) | exact HB.out)⟩⟩
       ·rw [if_neg c11] at H
        have c11b0 : (a0_5 == a1_5) = false := beq_eq_false_iff_ne.mpr c11
        have c11b1 : (a0_5 != a1_5) = true := bne_iff_ne.mpr c11
        have H' := Aside0.mk H
        clear H
        have hnb24 := NB389_390.out
        have hnc24 := NB390_389.out
        have hcz25_0 : w5.cell? ⟨gb389, 0, none⟩ = some (.int .i64 a0_0) := (blk_cell BK389.out 0).trans rfl
        have hcz25_1 : w5.cell? ⟨gb389, 1, none⟩ = some (.int .i64 a0_1) := (blk_cell BK389.out 1).trans rfl
        have hcz25_2 : w5.cell? ⟨gb389, 2, none⟩ = some (.int .i64 a0_2) := (blk_cell BK389.out 2).trans rfl
        have hcz25_3 : w5.cell? ⟨gb389, 3, none⟩ = some (.int .i64 a0_3) := (blk_cell BK389.out 3).trans rfl
        have hcz25_4 : w5.cell? ⟨gb389, 4, none⟩ = some (.int .i64 a0_4) := (blk_cell BK389.out 4).trans rfl
        have hcz25_5 : w5.cell? ⟨gb389, 5, none⟩ = some (.int .i64 a0_5) := (blk_cell BK389.out 5).trans rfl
        have hcz25_6 : w5.cell? ⟨gb389, 6, none⟩ = some (.int .i64 a0_6) := (blk_cell BK389.out 6).trans rfl
        have hcz25_7 : w5.cell? ⟨gb389, 7, none⟩ = some (.slice A0_7 l0_7.length c0_7) := (blk_cell BK389.out 7).trans rfl
        have hcz25_8 : w5.cell? ⟨gb389, 8, none⟩ = some (.slice A0_8 l0_8.length c0_8) := (blk_cell BK389.out 8).trans rfl
        have hfz25_0 := blk_frozen BK389.out 0
        have hfz25_1 := blk_frozen BK389.out 1
        have hfz25_2 := blk_frozen BK389.out 2
        have hfz25_3 := blk_frozen BK389.out 3
        have hfz25_4 := blk_frozen BK389.out 4
        have hfz25_5 := blk_frozen BK389.out 5
        have hfz25_6 := blk_frozen BK389.out 6
        have hfz25_7 := blk_frozen BK389.out 7
        have hfz25_8 := blk_frozen BK389.out 8
        have hcz26_0 : w5.cell? ⟨gb390, 0, none⟩ = some (.int .i64 a1_0) := (blk_cell BK390.out 0).trans rfl
        have hcz26_1 : w5.cell? ⟨gb390, 1, none⟩ = some (.int .i64 a1_1) := (blk_cell BK390.out 1).trans rfl
        have hcz26_2 : w5.cell? ⟨gb390, 2, none⟩ = some (.int .i64 a1_2) := (blk_cell BK390.out 2).trans rfl
        have hcz26_3 : w5.cell? ⟨gb390, 3, none⟩ = some (.int .i64 a1_3) := (blk_cell BK390.out 3).trans rfl
        have hcz26_4 : w5.cell? ⟨gb390, 4, none⟩ = some (.int .i64 a1_4) := (blk_cell BK390.out 4).trans rfl
        have hcz26_5 : w5.cell? ⟨gb390, 5, none⟩ = some (.int .i64 a1_5) := (blk_cell BK390.out 5).trans rfl
        have hcz26_6 : w5.cell? ⟨gb390, 6, none⟩ = some (.int .i64 a1_6) := (blk_cell BK390.out 6).trans rfl
        have hcz26_7 : w5.cell? ⟨gb390, 7, none⟩ = some (.slice A1_7 l1_7.length c1_7) := (blk_cell BK390.out 7).trans rfl
        have hcz26_8 : w5.cell? ⟨gb390, 8, none⟩ = some (.slice A1_8 l1_8.length c1_8) := (blk_cell BK390.out 8).trans rfl
        have hfz26_0 := blk_frozen BK390.out 0
        have hfz26_1 := blk_frozen BK390.out 1
        have hfz26_2 := blk_frozen BK390.out 2
        have hfz26_3 := blk_frozen BK390.out 3
        have hfz26_4 := blk_frozen BK390.out 4
        have hfz26_5 := blk_frozen BK390.out 5
        have hfz26_6 := blk_frozen BK390.out 6
        have hfz26_7 := blk_frozen BK390.out 7
        have hfz26_8 := blk_frozen BK390.out 8
        go_wp2
        repeat (go_quiet (fail); try go_wp2)
        go_meet
        case rel => exact ⟨_, (true), (by first | rfl | (simp; done) | (simp [*]; done)), H', ⟨by first | omega | exact Nat.le_refl _⟩, ⟨by (with_reducible repeat (first | refine blk_drewN ?_ _ | refine blk_drew ?_ | refine blk_alloc ?_ _)); exact BK389.out⟩, ⟨by (with_reducible repeat (first | refine blk_drewN ?_ _ | refine blk_drew ?_ | refine blk_alloc ?_ _)); exact BK390.out⟩, ⟨by repeat (first | (with_reducible first | exact HB.out | apply below_alloc | apply pw_below_drewN | apply below_drew1 | refine below_set ?_ GE389.out | refine below_set ?_ GE390.out) | exact HB.out)⟩⟩
      ·rw [if_neg c10] at H
       have c10b0 : (a0_4 == a1_4) = false := beq_eq_false_iff_ne.mpr c10
       have c10b1 : (a0_4 != a1_4) = true := bne_iff_ne.mpr c10
       have H' := Aside0.mk H
       clear H
       have hnb27 := NB389_390.out
       have hnc27 := NB390_389.out
       have hcz28_0 : w5.cell? ⟨gb389, 0, none⟩ = some (.int .i64 a0_0) := (blk_cell BK389.out 0).trans rfl
       have hcz28_1 : w5.cell? ⟨gb389, 1, none⟩ = some (.int .i64 a0_1) := (blk_cell BK389.out 1).trans rfl
       have hcz28_2 : w5.cell? ⟨gb389, 2, none⟩ = some (.int .i64 a0_2) := (blk_cell BK389.out 2).trans rfl
       have hcz28_3 : w5.cell? ⟨gb389, 3, none⟩ = some (.int .i64 a0_3) := (blk_cell BK389.out 3).trans rfl
       have hcz28_4 : w5.cell? ⟨gb389, 4, none⟩ = some (.int .i64 a0_4) := (blk_cell BK389.out 4).trans rfl
       have hcz28_5 : w5.cell? ⟨gb389, 5, none⟩ = some (.int .i64 a0_5) := (blk_cell BK389.out 5).trans rfl
       have hcz28_6 : w5.cell? ⟨gb389, 6, none⟩ = some (.int .i64 a0_6) := (blk_cell BK389.out 6).trans rfl
       have hcz28_7 : w5.cell? ⟨gb389, 7, none⟩ = some (.slice A0_7 l0_7.length c0_7) := (blk_cell BK389.out 7).trans rfl
       have hcz28_8 : w5.cell? ⟨gb389, 8, none⟩ = some (.slice A0_8 l0_8.length c0_8) := (blk_cell BK389.out 8).trans rfl
       have hfz28_0 := blk_frozen BK389.out 0
       have hfz28_1 := blk_frozen BK389.out 1
       have hfz28_2 := blk_frozen BK389.out 2
       have hfz28_3 := blk_frozen BK389.out 3
       have hfz28_4 := blk_frozen BK389.out 4
       have hfz28_5 := blk_frozen BK389.out 5
       have hfz28_6 := blk_frozen BK389.out 6
       have hfz28_7 := blk_frozen BK389.out 7
       have hfz28_8 := blk_frozen BK389.out 8
       have hcz29_0 : w5.cell? ⟨gb390, 0, none⟩ = some (.int .i64 a1_0) := (blk_cell BK390.out 0).trans rfl
       have hcz29_1 : w5.cell? ⟨gb390, 1, none⟩ = some (.int .i64 a1_1) := (blk_cell BK390.out 1).trans rfl
       have hcz29_2 : w5.cell? ⟨gb390, 2, none⟩ = some (.int .i64 a1_2) := (blk_cell BK390.out 2).trans rfl
       have hcz29_3 : w5.cell? ⟨gb390, 3, none⟩ = some (.int .i64 a1_3) := (blk_cell BK390.out 3).trans rfl
       have hcz29_4 : w5.cell? ⟨gb390, 4, none⟩ = some (.int .i64 a1_4) := (blk_cell BK390.out 4).trans rfl
       have hcz29_5 : w5.cell? ⟨gb390, 5, none⟩ = some (.int .i64 a1_5) := (blk_cell BK390.out 5).trans rfl
       have hcz29_6 : w5.cell? ⟨gb390, 6, none⟩ = some (.int .i64 a1_6) := (blk_cell BK390.out 6).trans rfl
       have hcz29_7 : w5.cell? ⟨gb390, 7, none⟩ = some (.slice A1_7 l1_7.length c1_7) := (blk_cell BK390.out 7).trans rfl
       have hcz29_8 : w5.cell? ⟨gb390, 8, none⟩ = some (.slice A1_8 l1_8.length c1_8) := (blk_cell BK390.out 8).trans rfl
       have hfz29_0 := blk_frozen BK390.out 0
       have hfz29_1 := blk_frozen BK390.out 1
       have hfz29_2 := blk_frozen BK390.out 2
       have hfz29_3 := blk_frozen BK390.out 3
       have hfz29_4 := blk_frozen BK390.out 4
       have hfz29_5 := blk_frozen BK390.out 5
       have hfz29_6 := blk_frozen BK390.out 6
       have hfz29_7 := blk_frozen BK390.out 7
       have hfz29_8 := blk_frozen BK390.out 8
       go_wp2
       repeat (go_quiet (fail); try go_wp2)
       go_meet
       case rel => exact ⟨_, (true), (by first | rfl | (simp; done) | (simp [*]; done)), H', ⟨by first | omega | exact Nat.le_refl _⟩, ⟨by (with_reducible repeat (first | refine blk_drewN ?_ _ | refine blk_drew ?_ | refine blk_alloc ?_ _)); exact BK389.out⟩, ⟨by (with_reducible repeat (first | refine blk_drewN ?_ _ | refine blk_drew ?_ | refine blk_alloc ?_ _)); exact BK390.out⟩, ⟨by repeat (first | (with_reducible first | exact HB.out | apply below_alloc | apply pw_below_drewN | apply below_drew1 | refine below_set ?_ GE389.out | refine below_set ?_ GE390.out) | exact HB.out)⟩⟩
     ·rw [if_neg c9] at H
      have c9b0 : (a0_3 == a1_3) = false := beq_eq_false_iff_ne.mpr c9
      have c9b1 : (a0_3 != a1_3) = true := bne_iff_ne.mpr c9
      have H' := Aside0.mk H
      clear H
      have hnb30 := NB389_390.out
      have hnc30 := NB390_389.out
      have hcz31_0 : w5.cell? ⟨gb389, 0, none⟩ = some (.int .i64 a0_0) := (blk_cell BK389.out 0).trans rfl
      have hcz31_1 : w5.cell? ⟨gb389, 1, none⟩ = some (.int .i64 a0_1) := (blk_cell BK389.out 1).trans rfl
      have hcz31_2 : w5.cell? ⟨gb389, 2, none⟩ = some (.int .i64 a0_2) := (blk_cell BK389.out 2).trans rfl
      have hcz31_3 : w5.cell? ⟨gb389, 3, none⟩ = some (.int .i64 a0_3) := (blk_cell BK389.out 3).trans rfl
      have hcz31_4 : w5.cell? ⟨gb389, 4, none⟩ = some (.int .i64 a0_4) := (blk_cell BK389.out 4).trans rfl
      have hcz31_5 : w5.cell? ⟨gb389, 5, none⟩ = some (.int .i64 a0_5) := (blk_cell BK389.out 5).trans rfl
      have hcz31_6 : w5.cell? ⟨gb389, 6, none⟩ = some (.int .i64 a0_6) := (blk_cell BK389.out 6).trans rfl
      have hcz31_7 : w5.cell? ⟨gb389, 7, none⟩ = some (.slice A0_7 l0_7.length c0_7) := (blk_cell BK389.out 7).trans rfl
      have hcz31_8 : w5.cell? ⟨gb389, 8, none⟩ = some (.slice A0_8 l0_8.length c0_8) := (blk_cell BK389.out 8).trans rfl
      have hfz31_0 := blk_frozen BK389.out 0
      have hfz31_1 := blk_frozen BK389.out 1
      have hfz31_2 := blk_frozen BK389.out 2
      have hfz31_3 := blk_frozen BK389.out 3
      have hfz31_4 := blk_frozen BK389.out 4
      have hfz31_5 := blk_frozen BK389.out 5
      have hfz31_6 := blk_frozen BK389.out 6
      have hfz31_7 := blk_frozen BK389.out 7
      have hfz31_8 := blk_frozen BK389.out 8
      have hcz32_0 : w5.cell? ⟨gb390, 0, none⟩ = some (.int .i64 a1_0) := (blk_cell BK390.out 0).trans rfl
      have hcz32_1 : w5.cell? ⟨gb390, 1, none⟩ = some (.int .i64 a1_1) := (blk_cell BK390.out 1).trans rfl
      have hcz32_2 : w5.cell? ⟨gb390, 2, none⟩ = some (.int .i64 a1_2) := (blk_cell BK390.out 2).trans rfl
      have hcz32_3 : w5.cell? ⟨gb390, 3, none⟩ = some (.int .i64 a1_3) := (blk_cell BK390.out 3).trans rfl
      have hcz32_4 : w5.cell? ⟨gb390, 4, none⟩ = some (.int .i64 a1_4) := (blk_cell BK390.out 4).trans rfl
      have hcz32_5 : w5.cell? ⟨gb390, 5, none⟩ = some (.int .i64 a1_5) := (blk_cell BK390.out 5).trans rfl
      have hcz32_6 : w5.cell? ⟨gb390, 6, none⟩ = some (.int .i64 a1_6) := (blk_cell BK390.out 6).trans rfl
      have hcz32_7 : w5.cell? ⟨gb390, 7, none⟩ = some (.slice A1_7 l1_7.length c1_7) := (blk_cell BK390.out 7).trans rfl
      have hcz32_8 : w5.cell? ⟨gb390, 8, none⟩ = some (.slice A1_8 l1_8.length c1_8) := (blk_cell BK390.out 8).trans rfl
      have hfz32_0 := blk_frozen BK390.out 0
      have hfz32_1 := blk_frozen BK390.out 1
      have hfz32_2 := blk_frozen BK390.out 2
      have hfz32_3 := blk_frozen BK390.out 3
      have hfz32_4 := blk_frozen BK390.out 4
      have hfz32_5 := blk_frozen BK390.out 5
      have hfz32_6 := blk_frozen BK390.out 6
      have hfz32_7 := blk_frozen BK390.out 7
      have hfz32_8 := blk_frozen BK390.out 8
      go_wp2
      repeat (go_quiet (fail); try go_wp2)
      go_meet
      case rel => exact ⟨_, (true), (by first | rfl | (simp; done) | (simp [*]; done)), H', ⟨by first | omega | exact Nat.le_refl _⟩, ⟨by (with_reducible repeat (first | refine blk_drewN ?_ _ | refine blk_drew ?_ | refine blk_alloc ?_ _)); exact BK389.out⟩, ⟨by (with_reducible repeat (first | refine blk_drewN ?_ _ | refine blk_drew ?_ | refine blk_alloc ?_ _)); exact BK390.out⟩, ⟨by repeat (first | (with_reducible first | exact HB.out | apply below_alloc | apply pw_below_drewN | apply below_drew1 | refine below_set ?_ GE389.out | refine below_set ?_ GE390.out) | exact HB.out)⟩⟩
    ·rw [if_neg c8] at H
     have c8b0 : (a0_2 == a1_2) = false := beq_eq_false_iff_ne.mpr c8
     have c8b1 : (a0_2 != a1_2) = true := bne_iff_ne.mpr c8
     have H' := Aside0.mk H
     clear H
     have hnb33 := NB389_390.out
     have hnc33 := NB390_389.out
     have hcz34_0 : w5.cell? ⟨gb389, 0, none⟩ = some (.int .i64 a0_0) := (blk_cell BK389.out 0).trans rfl
     have hcz34_1 : w5.cell? ⟨gb389, 1, none⟩ = some (.int .i64 a0_1) := (blk_cell BK389.out 1).trans rfl
     have hcz34_2 : w5.cell? ⟨gb389, 2, none⟩ = some (.int .i64 a0_2) := (blk_cell BK389.out 2).trans rfl
     have hcz34_3 : w5.cell? ⟨gb389, 3, none⟩ = some (.int .i64 a0_3) := (blk_cell BK389.out 3).trans rfl
     have hcz34_4 : w5.cell? ⟨gb389, 4, none⟩ = some (.int .i64 a0_4) := (blk_cell BK389.out 4).trans rfl
     have hcz34_5 : w5.cell? ⟨gb389, 5, none⟩ = some (.int .i64 a0_5) := (blk_cell BK389.out 5).trans rfl
     have hcz34_6 : w5.cell? ⟨gb389, 6, none⟩ = some (.int .i64 a0_6) := (blk_cell BK389.out 6).trans rfl
     have hcz34_7 : w5.cell? ⟨gb389, 7, none⟩ = some (.slice A0_7 l0_7.length c0_7) := (blk_cell BK389.out 7).trans rfl
     have hcz34_8 : w5.cell? ⟨gb389, 8, none⟩ = some (.slice A0_8 l0_8.length c0_8) := (blk_cell BK389.out 8).trans rfl
     have hfz34_0 := blk_frozen BK389.out 0
     have hfz34_1 := blk_frozen BK389.out 1
     have hfz34_2 := blk_frozen BK389.out 2
     have hfz34_3 := blk_frozen BK389.out 3
     have hfz34_4 := blk_frozen BK389.out 4
     have hfz34_5 := blk_frozen BK389.out 5
     have hfz34_6 := blk_frozen BK389.out 6
     have hfz34_7 := blk_frozen BK389.out 7
     have hfz34_8 := blk_frozen BK389.out 8
     have hcz35_0 : w5.cell? ⟨gb390, 0, none⟩ = some (.int .i64 a1_0) := (blk_cell BK390.out 0).trans rfl
     have hcz35_1 : w5.cell? ⟨gb390, 1, none⟩ = some (.int .i64 a1_1) := (blk_cell BK390.out 1).trans rfl
     have hcz35_2 : w5.cell? ⟨gb390, 2, none⟩ = some (.int .i64 a1_2) := (blk_cell BK390.out 2).trans rfl
     have hcz35_3 : w5.cell? ⟨gb390, 3, none⟩ = some (.int .i64 a1_3) := (blk_cell BK390.out 3).trans rfl
     have hcz35_4 : w5.cell? ⟨gb390, 4, none⟩ = some (.int .i64 a1_4) := (blk_cell BK390.out 4).trans rfl
     have hcz35_5 : w5.cell? ⟨gb390, 5, none⟩ = some (.int .i64 a1_5) := (blk_cell BK390.out 5).trans rfl
     have hcz35_6 : w5.cell? ⟨gb390, 6, none⟩ = some (.int .i64 a1_6) := (blk_cell BK390.out 6).trans rfl
     have hcz35_7 : w5.cell? ⟨gb390, 7, none⟩ = some (.slice A1_7 l1_7.length c1_7) := (blk_cell BK390.out 7).trans rfl
     have hcz35_8 : w5.cell? ⟨gb390, 8, none⟩ = some (.slice A1_8 l1_8.length c1_8) := (blk_cell BK390.out 8).trans rfl
     have hfz35_0 := blk_frozen BK390.out 0
     have hfz35_1 := blk_frozen BK390.out 1
     have hfz35_2 := blk_frozen BK390.out 2
     have hfz35_3 := blk_frozen BK390.out 3
     have hfz35_4 := blk_frozen BK390.out 4
     have hfz35_5 := blk_frozen BK390.out 5
     have hfz35_6 := blk_frozen BK390.out 6
     have hfz35_7 := blk_frozen BK390.out 7
     have hfz35_8 := blk_frozen BK390.out 8
     go_wp2
     repeat (go_quiet (fail); try go_wp2)
     go_meet
     case rel => exact ⟨_, (true), (by first | rfl | (simp; done) | (simp [*]; done)), H', ⟨by first | omega | exact Nat.le_refl _⟩, ⟨by (with_reducible repeat (first | refine blk_drewN ?_ _ | refine blk_drew ?_ | refine blk_alloc ?_ _)); exact BK389.out⟩, ⟨by (with_reducible repeat (first | refine blk_drewN ?_ _ | refine blk_drew ?_ | refine blk_alloc ?_ _)); exact BK390.out⟩, ⟨by repeat (first | (with_reducible first | exact HB.out | apply below_alloc | apply pw_below_drewN | apply below_drew1 | refine below_set ?_ GE389.out | refine below_set ?_ GE390.out) | exact HB.out)⟩⟩
   ·rw [if_neg c7] at H
    have c7b0 : (a0_1 == a1_1) = false := beq_eq_false_iff_ne.mpr c7
    have c7b1 : (a0_1 != a1_1) = true := bne_iff_ne.mpr c7
    have H' := Aside0.mk H
    clear H
    have hnb36 := NB389_390.out
    have hnc36 := NB390_389.out
    have hcz37_0 : w5.cell? ⟨gb389, 0, none⟩ = some (.int .i64 a0_0) := (blk_cell BK389.out 0).trans rfl
    have hcz37_1 : w5.cell? ⟨gb389, 1, none⟩ = some (.int .i64 a0_1) := (blk_cell BK389.out 1).trans rfl
    have hcz37_2 : w5.cell? ⟨gb389, 2, none⟩ = some (.int .i64 a0_2) := (blk_cell BK389.out 2).trans rfl
    have hcz37_3 : w5.cell? ⟨gb389, 3, none⟩ = some (.int .i64 a0_3) := (blk_cell BK389.out 3).trans rfl
    have hcz37_4 : w5.cell? ⟨gb389, 4, none⟩ = some (.int .i64 a0_4) := (blk_cell BK389.out 4).trans rfl
    have hcz37_5 : w5.cell? ⟨gb389, 5, none⟩ = some (.int .i64 a0_5) := (blk_cell BK389.out 5).trans rfl
    have hcz37_6 : w5.cell? ⟨gb389, 6, none⟩ = some (.int .i64 a0_6) := (blk_cell BK389.out 6).trans rfl
    have hcz37_7 : w5.cell? ⟨gb389, 7, none⟩ = some (.slice A0_7 l0_7.length c0_7) := (blk_cell BK389.out 7).trans rfl
    have hcz37_8 : w5.cell? ⟨gb389, 8, none⟩ = some (.slice A0_8 l0_8.length c0_8) := (blk_cell BK389.out 8).trans rfl
    have hfz37_0 := blk_frozen BK389.out 0
    have hfz37_1 := blk_frozen BK389.out 1
    have hfz37_2 := blk_frozen BK389.out 2
    have hfz37_3 := blk_frozen BK389.out 3
    have hfz37_4 := blk_frozen BK389.out 4
    have hfz37_5 := blk_frozen BK389.out 5
    have hfz37_6 := blk_frozen BK389.out 6
    have hfz37_7 := blk_frozen BK389.out 7
    have hfz37_8 := blk_frozen BK389.out 8
    have hcz38_0 : w5.cell? ⟨gb390, 0, none⟩ = some (.int .i64 a1_0) := (blk_cell BK390.out 0).trans rfl
    have hcz38_1 : w5.cell? ⟨gb390, 1, none⟩ = some (.int .i64 a1_1) := (blk_cell BK390.out 1).trans rfl
    have hcz38_2 : w5.cell? ⟨gb390, 2, none⟩ = some (.int .i64 a1_2) := (blk_cell BK390.out 2).trans rfl
    have hcz38_3 : w5.cell? ⟨gb390, 3, none⟩ = some (.int .i64 a1_3) := (blk_cell BK390.out 3).trans rfl
    have hcz38_4 : w5.cell? ⟨gb390, 4, none⟩ = some (.int .i64 a1_4) := (blk_cell BK390.out 4).trans rfl
    have hcz38_5 : w5.cell? ⟨gb390, 5, none⟩ = some (.int .i64 a1_5) := (blk_cell BK390.out 5).trans rfl
    have hcz38_6 : w5.cell? ⟨gb390, 6, none⟩ = some (.int .i64 a1_6) := (blk_cell BK390.out 6).trans rfl
    have hcz38_7 : w5.cell? ⟨gb390, 7, none⟩ = some (.slice A1_7 l1_7.length c1_7) := (blk_cell BK390.out 7).trans rfl
    have hcz38_8 : w5.cell? ⟨gb390, 8, none⟩ = some (.slice A1_8 l1_8.length c1_8) := (blk_cell BK390.out 8).trans rfl
    have hfz38_0 := blk_frozen BK390.out 0
    have hfz38_1 := blk_frozen BK390.out 1
    have hfz38_2 := blk_frozen BK390.out 2
    have hfz38_3 := blk_frozen BK390.out 3
    have hfz38_4 := blk_frozen BK390.out 4
    have hfz38_5 := blk_frozen BK390.out 5
    have hfz38_6 := blk_frozen BK390.out 6
    have hfz38_7 := blk_frozen BK390.out 7
    have hfz38_8 := blk_frozen BK390.out 8
    go_wp2
    repeat (go_quiet (fail); try go_wp2)
    go_meet
    case rel => exact ⟨_, (true), (by first | rfl | (simp; done) | (simp [*]; done)), H', ⟨by first | omega | exact Nat.le_refl _⟩, ⟨by (with_reducible repeat (first | refine blk_drewN ?_ _ | refine blk_drew ?_ | refine blk_alloc ?_ _)); exact BK389.out⟩, ⟨by (with_reducible repeat (first | refine blk_drewN ?_ _ | refine blk_drew ?_ | refine blk_alloc ?_ _)); exact BK390.out⟩, ⟨by repeat (first | (with_reducible first | exact HB.out | apply below_alloc | apply pw_below_drewN | apply below_drew1 | refine below_set ?_ GE389.out | refine below_set ?_ GE390.out) | exact HB.out)⟩⟩
  ·rw [if_neg c6] at H
   have c6b0 : (a0_0 == a1_0) = false := beq_eq_false_iff_ne.mpr c6
   have c6b1 : (a0_0 != a1_0) = true := bne_iff_ne.mpr c6
   (first | rw [c6b0] | (simp only [i64_w, i32_w]; rw [c6b0]) | skip)
   have H' := Aside0.mk H
   clear H
   have hnb39 := NB389_390.out
   have hnc39 := NB390_389.out
   have hcz40_0 : w5.cell? ⟨gb389, 0, none⟩ = some (.int .i64 a0_0) := (blk_cell BK389.out 0).trans rfl
   have hcz40_1 : w5.cell? ⟨gb389, 1, none⟩ = some (.int .i64 a0_1) := (blk_cell BK389.out 1).trans rfl
   have hcz40_2 : w5.cell? ⟨gb389, 2, none⟩ = some (.int .i64 a0_2) := (blk_cell BK389.out 2).trans rfl
   have hcz40_3 : w5.cell? ⟨gb389, 3, none⟩ = some (.int .i64 a0_3) := (blk_cell BK389.out 3).trans rfl
   have hcz40_4 : w5.cell? ⟨gb389, 4, none⟩ = some (.int .i64 a0_4) := (blk_cell BK389.out 4).trans rfl
   have hcz40_5 : w5.cell? ⟨gb389, 5, none⟩ = some (.int .i64 a0_5) := (blk_cell BK389.out 5).trans rfl
   have hcz40_6 : w5.cell? ⟨gb389, 6, none⟩ = some (.int .i64 a0_6) := (blk_cell BK389.out 6).trans rfl
   have hcz40_7 : w5.cell? ⟨gb389, 7, none⟩ = some (.slice A0_7 l0_7.length c0_7) := (blk_cell BK389.out 7).trans rfl
   have hcz40_8 : w5.cell? ⟨gb389, 8, none⟩ = some (.slice A0_8 l0_8.length c0_8) := (blk_cell BK389.out 8).trans rfl
   have hfz40_0 := blk_frozen BK389.out 0
   have hfz40_1 := blk_frozen BK389.out 1
   have hfz40_2 := blk_frozen BK389.out 2
   have hfz40_3 := blk_frozen BK389.out 3
   have hfz40_4 := blk_frozen BK389.out 4
   have hfz40_5 := blk_frozen BK389.out 5
   have hfz40_6 := blk_frozen BK389.out 6
   have hfz40_7 := blk_frozen BK389.out 7
   have hfz40_8 := blk_frozen BK389.out 8
   have hcz41_0 : w5.cell? ⟨gb390, 0, none⟩ = some (.int .i64 a1_0) := (blk_cell BK390.out 0).trans rfl
   have hcz41_1 : w5.cell? ⟨gb390, 1, none⟩ = some (.int .i64 a1_1) := (blk_cell BK390.out 1).trans rfl
   have hcz41_2 : w5.cell? ⟨gb390, 2, none⟩ = some (.int .i64 a1_2) := (blk_cell BK390.out 2).trans rfl
   have hcz41_3 : w5.cell? ⟨gb390, 3, none⟩ = some (.int .i64 a1_3) := (blk_cell BK390.out 3).trans rfl
   have hcz41_4 : w5.cell? ⟨gb390, 4, none⟩ = some (.int .i64 a1_4) := (blk_cell BK390.out 4).trans rfl
   have hcz41_5 : w5.cell? ⟨gb390, 5, none⟩ = some (.int .i64 a1_5) := (blk_cell BK390.out 5).trans rfl
   have hcz41_6 : w5.cell? ⟨gb390, 6, none⟩ = some (.int .i64 a1_6) := (blk_cell BK390.out 6).trans rfl
   have hcz41_7 : w5.cell? ⟨gb390, 7, none⟩ = some (.slice A1_7 l1_7.length c1_7) := (blk_cell BK390.out 7).trans rfl
   have hcz41_8 : w5.cell? ⟨gb390, 8, none⟩ = some (.slice A1_8 l1_8.length c1_8) := (blk_cell BK390.out 8).trans rfl
   have hfz41_0 := blk_frozen BK390.out 0
   have hfz41_1 := blk_frozen BK390.out 1
   have hfz41_2 := blk_frozen BK390.out 2
   have hfz41_3 := blk_frozen BK390.out 3
   have hfz41_4 := blk_frozen BK390.out 4
   have hfz41_5 := blk_frozen BK390.out 5
   have hfz41_6 := blk_frozen BK390.out 6
   have hfz41_7 := blk_frozen BK390.out 7
   have hfz41_8 := blk_frozen BK390.out 8
   go_wp2
   repeat (go_quiet (fail); try go_wp2)
   go_meet
   case rel => exact ⟨_, (true), (by first | rfl | (simp; done) | (simp [*]; done)), H', ⟨by first | omega | exact Nat.le_refl _⟩, ⟨by (with_reducible repeat (first | refine blk_drewN ?_ _ | refine blk_drew ?_ | refine blk_alloc ?_ _)); exact BK389.out⟩, ⟨by (with_reducible repeat (first | refine blk_drewN ?_ _ | refine blk_drew ?_ | refine blk_alloc ?_ _)); exact BK390.out⟩, ⟨by repeat (first | (with_reducible first | exact HB.out | apply below_alloc | apply pw_below_drewN | apply below_drew1 | refine below_set ?_ GE389.out | refine below_set ?_ GE390.out) | exact HB.out)⟩⟩
 case rest =>
  clear HC3
  try clear c1
  try clear c2
  try clear p2
  try clear c3
  try clear c6
  try clear c6b0
  try clear c6b1
  try clear c7
  try clear c7b0
  try clear c7b1
  try clear c8
  try clear c8b0
  try clear c8b1
  try clear c9
  try clear c9b0
  try clear c9b1
  try clear c10
  try clear c10b0
  try clear c10b1
  try clear c11
  try clear c11b0
  try clear c11b1
  try clear c12
  try clear c12b0
  try clear c12b1
  try clear c14
  try clear c15
  try clear c17
  try clear c18
  try clear c21
  try clear c24
  try clear c27
  try clear c30
  try clear c33
  try clear c36
  try clear c39
  try clear hcz16_0
  try clear hcz16_1
  try clear hcz16_2
  try clear hcz16_3
  try clear hcz16_4
  try clear hcz16_5
  try clear hcz16_6
  try clear hcz16_7
  try clear hcz16_8
  try clear hcz17_0
  try clear hcz17_1
  try clear hcz17_2
  try clear hcz17_3
  try clear hcz17_4
  try clear hcz17_5
  try clear hcz17_6
  try clear hcz17_7
  try clear hcz17_8
  try clear hcz19_0
  try clear hcz19_1
  try clear hcz19_2
  try clear hcz19_3
  try clear hcz19_4
  try clear hcz19_5
  try clear hcz19_6
  try clear hcz19_7
  try clear hcz19_8
  try clear hcz20_0
  try clear hcz20_1
  try clear hcz20_2
  try clear hcz20_3
  try clear hcz20_4
  try clear hcz20_5
  try clear hcz20_6
  try clear hcz20_7
  try clear hcz20_8
  try clear hcz22_0
  try clear hcz22_1
  try clear hcz22_2
  try clear hcz22_3
  try clear hcz22_4
  try clear hcz22_5
  try clear hcz22_6
  try clear hcz22_7
  try clear hcz22_8
  try clear hcz23_0
  try clear hcz23_1
  try clear hcz23_2
  try clear hcz23_3
  try clear hcz23_4
  try clear hcz23_5
  try clear hcz23_6
  try clear hcz23_7
  try clear hcz23_8
  try clear hcz25_0
  try clear hcz25_1
  try clear hcz25_2
  try clear hcz25_3
  try clear hcz25_4
  try clear hcz25_5
  try clear hcz25_6
  try clear hcz25_7
  try clear hcz25_8
  try clear hcz26_0
  try clear hcz26_1
  try clear hcz26_2
  try clear hcz26_3
  try clear hcz26_4
  try clear hcz26_5
  try clear hcz26_6
  try clear hcz26_7
  try clear hcz26_8
  try clear hcz28_0
  try clear hcz28_1
  try clear hcz28_2
  try clear hcz28_3
  try clear hcz28_4
  try clear hcz28_5
  try clear hcz28_6
  try clear hcz28_7
  try clear hcz28_8
  try clear hcz29_0
  try clear hcz29_1
  try clear hcz29_2
  try clear hcz29_3
  try clear hcz29_4
  try clear hcz29_5
  try clear hcz29_6
  try clear hcz29_7
  try clear hcz29_8
  try clear hcz31_0
  try clear hcz31_1
  try clear hcz31_2
  try clear hcz31_3
  try clear hcz31_4
  try clear hcz31_5
  try clear hcz31_6
  try clear hcz31_7
  try clear hcz31_8
  try clear hcz32_0
  try clear hcz32_1
  try clear hcz32_2
  try clear hcz32_3
  try clear hcz32_4
  try clear hcz32_5
  try clear hcz32_6
  try clear hcz32_7
  try clear hcz32_8
  try clear hcz34_0
  try clear hcz34_1
  try clear hcz34_2
  try clear hcz34_3
  try clear hcz34_4
  try clear hcz34_5
  try clear hcz34_6
  try clear hcz34_7
  try clear hcz34_8
  try clear hcz35_0
  try clear hcz35_1
  try clear hcz35_2
  try clear hcz35_3
  try clear hcz35_4
  try clear hcz35_5
  try clear hcz35_6
  try clear hcz35_7
  try clear hcz35_8
  try clear hcz37_0
  try clear hcz37_1
  try clear hcz37_2
  try clear hcz37_3
  try clear hcz37_4
  try clear hcz37_5
  try clear hcz37_6
  try clear hcz37_7
  try clear hcz37_8
  try clear hcz38_0
  try clear hcz38_1
  try clear hcz38_2
  try clear hcz38_3
  try clear hcz38_4
  try clear hcz38_5
  try clear hcz38_6
  try clear hcz38_7
  try clear hcz38_8
  try clear hcz40_0
  try clear hcz40_1
  try clear hcz40_2
  try clear hcz40_3
  try clear hcz40_4
  try clear hcz40_5
  try clear hcz40_6
  try clear hcz40_7
  try clear hcz40_8
  try clear hcz41_0
  try clear hcz41_1
  try clear hcz41_2
  try clear hcz41_3
  try clear hcz41_4
  try clear hcz41_5
  try clear hcz41_6
  try clear hcz41_7
  try clear hcz41_8
  try clear hfz16_0
  try clear hfz16_1
  try clear hfz16_2
  try clear hfz16_3
  try clear hfz16_4
  try clear hfz16_5
  try clear hfz16_6
  try clear hfz16_7
  try clear hfz16_8
  try clear hfz17_0
  try clear hfz17_1
  try clear hfz17_2
  try clear hfz17_3
  try clear hfz17_4
  try clear hfz17_5
  try clear hfz17_6
  try clear hfz17_7
  try clear hfz17_8
  try clear hfz19_0
  try clear hfz19_1
  try clear hfz19_2
  try clear hfz19_3
  try clear hfz19_4
  try clear hfz19_5
  try clear hfz19_6
  try clear hfz19_7
  try clear hfz19_8
  try clear hfz20_0
  try clear hfz20_1
  try clear hfz20_2
  try clear hfz20_3
  try clear hfz20_4
  try clear hfz20_5
  try clear hfz20_6
  try clear hfz20_7
  try clear hfz20_8
  try clear hfz22_0
  try clear hfz22_1
  try clear hfz22_2
  try clear hfz22_3
  try clear hfz22_4
  try clear hfz22_5
  try clear hfz22_6
  try clear hfz22_7
  try clear hfz22_8
  try clear hfz23_0
  try clear hfz23_1
  try clear hfz23_2
  try clear hfz23_3
  try clear hfz23_4
  try clear hfz23_5
  try clear hfz23_6
  try clear hfz23_7
  try clear hfz23_8
  try clear hfz25_0
  try clear hfz25_1
  try clear hfz25_2
  try clear hfz25_3
  try clear hfz25_4
  try clear hfz25_5
  try clear hfz25_6
  try clear hfz25_7
  try clear hfz25_8
  try clear hfz26_0
  try clear hfz26_1
  try clear hfz26_2
  try clear hfz26_3
  try clear hfz26_4
  try clear hfz26_5
  try clear hfz26_6
  try clear hfz26_7
  try clear hfz26_8
  try clear hfz28_0
  try clear hfz28_1
  try clear hfz28_2
  try clear hfz28_3
  try clear hfz28_4
  try clear hfz28_5
  try clear hfz28_6
  try clear hfz28_7
  try clear hfz28_8
  try clear hfz29_0
  try clear hfz29_1
  try clear hfz29_2
  try clear hfz29_3
  try clear hfz29_4
  try clear hfz29_5
  try clear hfz29_6
  try clear hfz29_7
  try clear hfz29_8
  try clear hfz31_0
  try clear hfz31_1
  try clear hfz31_2
  try clear hfz31_3
  try clear hfz31_4
  try clear hfz31_5
  try clear hfz31_6
  try clear hfz31_7
  try clear hfz31_8
  try clear hfz32_0
  try clear hfz32_1
  try clear hfz32_2
  try clear hfz32_3
  try clear hfz32_4
  try clear hfz32_5
  try clear hfz32_6
  try clear hfz32_7
  try clear hfz32_8
  try clear hfz34_0
  try clear hfz34_1
  try clear hfz34_2
  try clear hfz34_3
  try clear hfz34_4
  try clear hfz34_5
  try clear hfz34_6
  try clear hfz34_7
  try clear hfz34_8
  try clear hfz35_0
  try clear hfz35_1
  try clear hfz35_2
  try clear hfz35_3
  try clear hfz35_4
  try clear hfz35_5
  try clear hfz35_6
  try clear hfz35_7
  try clear hfz35_8
  try clear hfz37_0
  try clear hfz37_1
  try clear hfz37_2
  try clear hfz37_3
  try clear hfz37_4
  try clear hfz37_5
  try clear hfz37_6
  try clear hfz37_7
  try clear hfz37_8
  try clear hfz38_0
  try clear hfz38_1
  try clear hfz38_2
  try clear hfz38_3
  try clear hfz38_4
  try clear hfz38_5
  try clear hfz38_6
  try clear hfz38_7
  try clear hfz38_8
  try clear hfz40_0
  try clear hfz40_1
  try clear hfz40_2
  try clear hfz40_3
  try clear hfz40_4
  try clear hfz40_5
  try clear hfz40_6
  try clear hfz40_7
  try clear hfz40_8
  try clear hfz41_0
  try clear hfz41_1
  try clear hfz41_2
  try clear hfz41_3
  try clear hfz41_4
  try clear hfz41_5
  try clear hfz41_6
  try clear hfz41_7
  try clear hfz41_8
  obtain ⟨kq, x69_2, rfl, HA, HJ2, BK389, BK390, HB⟩ := hcut
  cases kq with
  | zero => exact absurd HA.out (by simp [squelchref18_Equal.j0])
  | succ kj2 =>
   have H := HA.out
   clear HA
   simp only [squelchref18_Equal.j0] at H
   by_cases c42 : x69_2 = true
   ·subst c42
    have H1 : (some false) = some r := by rw [if_pos rfl] at H; exact H
    clear H
    have H := H1
    clear H1
    obtain rfl := Option.some.inj H
    go_wp2
    repeat (go_quiet (fail); try go_wp2)
    go_ret
    exact ⟨by first | rfl | (simp [errW_none, errW_some] <;> rfl) | (simp [*, errW_none, errW_some] <;> rfl) | (simp [wrap64]; done), by repeat (first | (with_reducible first | exact HB.out | apply below_alloc | apply pw_below_drewN | apply below_drew1 | refine below_set ?_ GE389.out | refine below_set ?_ GE390.out) | exact HB.out)⟩
   ·replace c42 := Bool.eq_false_iff.mpr c42
    subst c42
    have H1 : (squelchref18_Equal.l0 kj2 (l0_7.length : Int) 0 a0_0 a0_1 a0_2 a0_3 a0_4 a0_5 a0_6 l0_7 l0_8 a1_0 a1_1 a1_2 a1_3 a1_4 a1_5 a1_6 l1_7 l1_8) = some r := by rw [if_neg (show ¬ (false = true) by decide)] at H; exact H
    clear H
    have H := H1
    clear H1
    have H' := Aside0.mk H
    clear H
    have hnb43 := NB389_390.out
    have hnc43 := NB390_389.out
    have hcz44_0 : wc.cell? ⟨gb389, 0, none⟩ = some (.int .i64 a0_0) := (blk_cell BK389.out 0).trans rfl
    have hcz44_1 : wc.cell? ⟨gb389, 1, none⟩ = some (.int .i64 a0_1) := (blk_cell BK389.out 1).trans rfl
    have hcz44_2 : wc.cell? ⟨gb389, 2, none⟩ = some (.int .i64 a0_2) := (blk_cell BK389.out 2).trans rfl
    have hcz44_3 : wc.cell? ⟨gb389, 3, none⟩ = some (.int .i64 a0_3) := (blk_cell BK389.out 3).trans rfl
    have hcz44_4 : wc.cell? ⟨gb389, 4, none⟩ = some (.int .i64 a0_4) := (blk_cell BK389.out 4).trans rfl
    have hcz44_5 : wc.cell? ⟨gb389, 5, none⟩ = some (.int .i64 a0_5) := (blk_cell BK389.out 5).trans rfl
    have hcz44_6 : wc.cell? ⟨gb389, 6, none⟩ = some (.int .i64 a0_6) := (blk_cell BK389.out 6).trans rfl
    have hcz44_7 : wc.cell? ⟨gb389, 7, none⟩ = some (.slice A0_7 l0_7.length c0_7) := (blk_cell BK389.out 7).trans rfl
    have hcz44_8 : wc.cell? ⟨gb389, 8, none⟩ = some (.slice A0_8 l0_8.length c0_8) := (blk_cell BK389.out 8).trans rfl
    have hfz44_0 := blk_frozen BK389.out 0
    have hfz44_1 := blk_frozen BK389.out 1
    have hfz44_2 := blk_frozen BK389.out 2
    have hfz44_3 := blk_frozen BK389.out 3
    have hfz44_4 := blk_frozen BK389.out 4
    have hfz44_5 := blk_frozen BK389.out 5
    have hfz44_6 := blk_frozen BK389.out 6
    have hfz44_7 := blk_frozen BK389.out 7
    have hfz44_8 := blk_frozen BK389.out 8
    go_wp2
    repeat (go_quiet (fail); try go_wp2)
    (try simp only [Act.put, sA, sZ, sS])
    go_loopg [73] kj2 (fun kq v73 w' => ∃ (x73_2 : Int), v73 = .int .i64 x73_2 ∧ Aside0 (squelchref18_Equal.l0 kq (l0_7.length : Int) x73_2 a0_0 a0_1 a0_2 a0_3 a0_4 a0_5 a0_6 l0_7 l0_8 a1_0 a1_1 a1_2 a1_3 a1_4 a1_5 a1_6 l1_7 l1_8 = some r) ∧ Aside0 (kq ≤ kj2) ∧ Aside0 (w'.heap[gb389]? = some (.cells #[.int .i64 a0_0, .int .i64 a0_1, .int .i64 a0_2, .int .i64 a0_3, .int .i64 a0_4, .int .i64 a0_5, .int .i64 a0_6, (.slice A0_7 l0_7.length c0_7), (.slice A0_8 l0_8.length c0_8)] 28 (0, 0))) ∧ Aside0 (w'.heap[gb390]? = some (.cells #[.int .i64 a1_0, .int .i64 a1_1, .int .i64 a1_2, .int .i64 a1_3, .int .i64 a1_4, .int .i64 a1_5, .int .i64 a1_6, (.slice A1_7 l1_7.length c1_7), (.slice A1_8 l1_8.length c1_8)] 28 (0, 0))) ∧ Aside0 (Below w.heap.size w w'))
    case atStart => exact ⟨(0), (by first | rfl | (simp; done) | (simp [*]; done)), H', ⟨Nat.le_refl _⟩, ⟨by (with_reducible repeat (first | refine blk_drewN ?_ _ | refine blk_drew ?_ | refine blk_alloc ?_ _)); exact BK389.out⟩, ⟨by (with_reducible repeat (first | refine blk_drewN ?_ _ | refine blk_drew ?_ | refine blk_alloc ?_ _)); exact BK390.out⟩, ⟨by repeat (first | (with_reducible first | exact HB.out | apply below_alloc | apply pw_below_drewN | apply below_drew1 | refine below_set ?_ GE389.out | refine below_set ?_ GE390.out) | exact HB.out)⟩⟩
    case round =>
     clear H'
     try clear c1
     try clear c2
     try clear p2
     try clear c3
     try clear c4
     try clear c6
     try clear c6b0
     try clear c6b1
     try clear c7
     try clear c7b0
     try clear c7b1
     try clear c8
     try clear c8b0
     try clear c8b1
     try clear c9
     try clear c9b0
     try clear c9b1
     try clear c10
     try clear c10b0
     try clear c10b1
     try clear c11
     try clear c11b0
     try clear c11b1
     try clear c12
     try clear c12b0
     try clear c12b1
     try clear c14
     try clear c15
     try clear c17
     try clear c18
     try clear c21
     try clear c24
     try clear c27
     try clear c30
     try clear c33
     try clear c36
     try clear c39
     try clear c42
     try clear c43
     try clear hcz16_0
     try clear hcz16_1
     try clear hcz16_2
     try clear hcz16_3
     try clear hcz16_4
     try clear hcz16_5
     try clear hcz16_6
     try clear hcz16_7
     try clear hcz16_8
     try clear hcz17_0
     try clear hcz17_1
     try clear hcz17_2
     try clear hcz17_3
     try clear hcz17_4
     try clear hcz17_5
     try clear hcz17_6
     try clear hcz17_7
     try clear hcz17_8
     try clear hcz19_0
     try clear hcz19_1
     try clear hcz19_2
     try clear hcz19_3
     try clear hcz19_4
     try clear hcz19_5
     try clear hcz19_6
     try clear hcz19_7
     try clear hcz19_8
     try clear hcz20_0
     try clear hcz20_1
     try clear hcz20_2
     try clear hcz20_3
     try clear hcz20_4
     try clear hcz20_5
     try clear hcz20_6
     try clear hcz20_7
     try clear hcz20_8
     try clear hcz22_0
     try clear hcz22_1
     try clear hcz22_2
     try clear hcz22_3
     try clear hcz22_4
     try clear hcz22_5
     try clear hcz22_6
     try clear hcz22_7
     try clear hcz22_8
     try clear hcz23_0
     try clear hcz23_1
     try clear hcz23_2
     try clear hcz23_3
     try clear hcz23_4
     try clear hcz23_5
     try clear hcz23_6
     try clear hcz23_7
     try clear hcz23_8
     try clear hcz25_0
     try clear hcz25_1
     try clear hcz25_2
     try clear hcz25_3
     try clear hcz25_4
     try clear hcz25_5
     try clear hcz25_6
     try clear hcz25_7
     try clear hcz25_8
     try clear hcz26_0
     try clear hcz26_1
     try clear hcz26_2
     try clear hcz26_3
     try clear hcz26_4
     try clear hcz26_5
     try clear hcz26_6
     try clear hcz26_7
     try clear hcz26_8
     try clear hcz28_0
     try clear hcz28_1
     try clear hcz28_2
     try clear hcz28_3
     try clear hcz28_4
     try clear hcz28_5
     try clear hcz28_6
     try clear hcz28_7
     try clear hcz28_8
     try clear hcz29_0
     try clear hcz29_1
     try clear hcz29_2
     try clear hcz29_3
     try clear hcz29_4
     try clear hcz29_5
     try clear hcz29_6
     try clear hcz29_7
     try clear hcz29_8
     try clear hcz31_0
     try clear hcz31_1
     try clear hcz31_2
     try clear hcz31_3
     try clear hcz31_4
     try clear hcz31_5
     try clear hcz31_6
     try clear hcz31_7
     try clear hcz31_8
     try clear hcz32_0
     try clear hcz32_1
     try clear hcz32_2
     try clear hcz32_3
     try clear hcz32_4
     try clear hcz32_5
     try clear hcz32_6
     try clear hcz32_7
     try clear hcz32_8
     try clear hcz34_0
     try clear hcz34_1
     try clear hcz34_2
     try clear hcz34_3
     try clear hcz34_4
     try clear hcz34_5
     try clear hcz34_6
     try clear hcz34_7
     try clear hcz34_8
     try clear hcz35_0
     try clear hcz35_1
     try clear hcz35_2
     try clear hcz35_3
     try clear hcz35_4
     try clear hcz35_5
     try clear hcz35_6
     try clear hcz35_7
     try clear hcz35_8
     try clear hcz37_0
     try clear hcz37_1
     try clear hcz37_2
     try clear hcz37_3
     try clear hcz37_4
     try clear hcz37_5
     try clear hcz37_6
     try clear hcz37_7
     try clear hcz37_8
     try clear hcz38_0
     try clear hcz38_1
     try clear hcz38_2
     try clear hcz38_3
     try clear hcz38_4
     try clear hcz38_5
     try clear hcz38_6
     try clear hcz38_7
     try clear hcz38_8
     try clear hcz40_0
     try clear hcz40_1
     try clear hcz40_2
     try clear hcz40_3
     try clear hcz40_4
     try clear hcz40_5
     try clear hcz40_6
     try clear hcz40_7
     try clear hcz40_8
     try clear hcz41_0
     try clear hcz41_1
     try clear hcz41_2
     try clear hcz41_3
     try clear hcz41_4
     try clear hcz41_5
     try clear hcz41_6
     try clear hcz41_7
     try clear hcz41_8
     try clear hcz44_0
     try clear hcz44_1
     try clear hcz44_2
     try clear hcz44_3
     try clear hcz44_4
     try clear hcz44_5
     try clear hcz44_6
     try clear hcz44_7
     try clear hcz44_8
     try clear hfz16_0
     try clear hfz16_1
     try clear hfz16_2
     try clear hfz16_3
     try clear hfz16_4
     try clear hfz16_5
     try clear hfz16_6
     try clear hfz16_7
     try clear hfz16_8
     try clear hfz17_0
     try clear hfz17_1
     try clear hfz17_2
     try clear hfz17_3
     try clear hfz17_4
     try clear hfz17_5
     try clear hfz17_6
     try clear hfz17_7
     try clear hfz17_8
     try clear hfz19_0
     try clear hfz19_1
     try clear hfz19_2
     try clear hfz19_3
     try clear hfz19_4
     try clear hfz19_5
     try clear hfz19_6
     try clear hfz19_7
     try clear hfz19_8
     try clear hfz20_0
     try clear hfz20_1
     try clear hfz20_2
     try clear hfz20_3
     try clear hfz20_4
     try clear hfz20_5
     try clear hfz20_6
     try clear hfz20_7
     try clear hfz20_8
     try clear hfz22_0
     try clear hfz22_1
     try clear hfz22_2
     try clear hfz22_3
     try clear hfz22_4
     try clear hfz22_5
     try clear hfz22_6
     try clear hfz22_7
     try clear hfz22_8
     try clear hfz23_0
     try clear hfz23_1
     try clear hfz23_2
     try clear hfz23_3
     try clear hfz23_4
     try clear hfz23_5
     try clear hfz23_6
     try clear hfz23_7
     try clear hfz23_8
     try clear hfz25_0
     try clear hfz25_1
     try clear hfz25_2
     try clear hfz25_3
     try clear hfz25_4
     try clear hfz25_5
     try clear hfz25_6
     try clear hfz25_7
     try clear hfz25_8
     try clear hfz26_0
     try clear hfz26_1
     try clear hfz26_2
     try clear hfz26_3
     try clear hfz26_4
     try clear hfz26_5
     try clear hfz26_6
     try clear hfz26_7
     try clear hfz26_8
     try clear hfz28_0
     try clear hfz28_1
     try clear hfz28_2
     try clear hfz28_3
     try clear hfz28_4
     try clear hfz28_5
     try clear hfz28_6
     try clear hfz28_7
     try clear hfz28_8
     try clear hfz29_0
     try clear hfz29_1
     try clear hfz29_2
     try clear hfz29_3
     try clear hfz29_4
     try clear hfz29_5
     try clear hfz29_6
     try clear hfz29_7
     try clear hfz29_8
     try clear hfz31_0
     try clear hfz31_1
     try clear hfz31_2
     try clear hfz31_3
     try clear hfz31_4
     try clear hfz31_5
     try clear hfz31_6
     try clear hfz31_7
     try clear hfz31_8
     try clear hfz32_0
     try clear hfz32_1
     try clear hfz32_2
     try clear hfz32_3
     try clear hfz32_4
     try clear hfz32_5
     try clear hfz32_6
     try clear hfz32_7
     try clear hfz32_8
     try clear hfz34_0
     try clear hfz34_1
     try clear hfz34_2
     try clear hfz34_3
     try clear hfz34_4
     try clear hfz34_5
     try clear hfz34_6
     try clear hfz34_7
     try clear hfz34_8
     try clear hfz35_0
     try clear hfz35_1
     try clear hfz35_2
     try clear hfz35_3
     try clear hfz35_4
     try clear hfz35_5
     try clear hfz35_6
     try clear hfz35_7
     try clear hfz35_8
     try clear hfz37_0
     try clear hfz37_1
     try clear hfz37_2
     try clear hfz37_3
     try clear hfz37_4
     try clear hfz37_5
     try clear hfz37_6
     try clear hfz37_7
     try clear hfz37_8
     try clear hfz38_0
     try clear hfz38_1
     try clear hfz38_2
     try clear hfz38_3
     try clear hfz38_4
     try clear hfz38_5
     try clear hfz38_6
     try clear hfz38_7
     try clear hfz38_8
     try clear hfz40_0
     try clear hfz40_1
     try clear hfz40_2
     try clear hfz40_3
     try clear hfz40_4
     try clear hfz40_5
     try clear hfz40_6
     try clear hfz40_7
     try clear hfz40_8
     try clear hfz41_0
     try clear hfz41_1
     try clear hfz41_2
     try clear hfz41_3
     try clear hfz41_4
     try clear hfz41_5
     try clear hfz41_6
     try clear hfz41_7
     try clear hfz41_8
     try clear hfz44_0
     try clear hfz44_1
     try clear hfz44_2
     try clear hfz44_3
     try clear hfz44_4
     try clear hfz44_5
     try clear hfz44_6
     try clear hfz44_7
     try clear hfz44_8
     try clear p2
     obtain ⟨x73_2, rfl, HA, HK2, BK389, BK390, HB⟩ := hrel
     cases gk with
     | zero => exact absurd HA.out (by simp [squelchref18_Equal.l0])
     | succ k2 =>
      have H := HA.out
      clear HA
      simp only [squelchref18_Equal.l0] at H
      by_cases c45 : x73_2 < (l0_7.length : Int)
      ·rw [if_pos c45] at H
       have c45b0 : decide (x73_2 < (l0_7.length : Int)) = true := decide_eq_true c45
       clear c45
       by_cases c46 : 0 ≤ x73_2
       ·rw [if_pos c46] at H
        have c46b0 : decide (0 ≤ x73_2) = true := decide_eq_true c46
        clear c46
        by_cases c47 : x73_2 < (l0_7.length : Int)
        ·rw [if_pos c47] at H
         have c47b0 : decide (x73_2 < (l0_7.length : Int)) = true := decide_eq_true c47
         clear c47
         by_cases c48 : x73_2 < (l1_7.length : Int)
         ·rw [if_pos c48] at H
          have c48b0 : decide (x73_2 < (l1_7.length : Int)) = true := decide_eq_true c48
          clear c48
          by_cases c49 : (!(((rd_T43 l0_7 x73_2).f0) == ((rd_T43 l1_7 x73_2).f0)) || (!(((rd_T43 l0_7 x73_2).f1) == ((rd_T43 l1_7 x73_2).f1)))) = true
          ·rw [if_pos c49] at H
           have c49b0 : (!(((rd_T43 l0_7 x73_2).f0) == ((rd_T43 l1_7 x73_2).f0)) || (!(((rd_T43 l0_7 x73_2).f1) == ((rd_T43 l1_7 x73_2).f1)))) = true := c49
           clear c49
           obtain rfl := Option.some.inj H
           have hnb50 := NB389_390.out
           have hnc50 := NB390_389.out
           have hcz51_0 : wr.cell? ⟨gb389, 0, none⟩ = some (.int .i64 a0_0) := (blk_cell BK389.out 0).trans rfl
           have hcz51_1 : wr.cell? ⟨gb389, 1, none⟩ = some (.int .i64 a0_1) := (blk_cell BK389.out 1).trans rfl
           have hcz51_2 : wr.cell? ⟨gb389, 2, none⟩ = some (.int .i64 a0_2) := (blk_cell BK389.out 2).trans rfl
           have hcz51_3 : wr.cell? ⟨gb389, 3, none⟩ = some (.int .i64 a0_3) := (blk_cell BK389.out 3).trans rfl
           have hcz51_4 : wr.cell? ⟨gb389, 4, none⟩ = some (.int .i64 a0_4) := (blk_cell BK389.out 4).trans rfl
           have hcz51_5 : wr.cell? ⟨gb389, 5, none⟩ = some (.int .i64 a0_5) := (blk_cell BK389.out 5).trans rfl
           have hcz51_6 : wr.cell? ⟨gb389, 6, none⟩ = some (.int .i64 a0_6) := (blk_cell BK389.out 6).trans rfl
           have hcz51_7 : wr.cell? ⟨gb389, 7, none⟩ = some (.slice A0_7 l0_7.length c0_7) := (blk_cell BK389.out 7).trans rfl
           have hcz51_8 : wr.cell? ⟨gb389, 8, none⟩ = some (.slice A0_8 l0_8.length c0_8) := (blk_cell BK389.out 8).trans rfl
           have hfz51_0 := blk_frozen BK389.out 0
           have hfz51_1 := blk_frozen BK389.out 1
           have hfz51_2 := blk_frozen BK389.out 2
           have hfz51_3 := blk_frozen BK389.out 3
           have hfz51_4 := blk_frozen BK389.out 4
           have hfz51_5 := blk_frozen BK389.out 5
           have hfz51_6 := blk_frozen BK389.out 6
           have hfz51_7 := blk_frozen BK389.out 7
           have hfz51_8 := blk_frozen BK389.out 8
           have p392 : 0 ≤ (x73_2 : Int) := of_decide_eq_true (by first | (with_reducible assumption) | assumption)
           have q392 : x73_2 < (l0_7.length : Int) := of_decide_eq_true (by first | (with_reducible assumption) | assumption)
           obtain ⟨ad392, e392, hx392_0, hx392_1⟩ := at_T43 HR0_7.out x73_2 p392 q392
           cases e392
           replace hx392_0 := (HB.out.cell (World.block_lt_of_cell? w _ hx392_0)).trans hx392_0
           replace hx392_1 := (HB.out.cell (World.block_lt_of_cell? w _ hx392_1)).trans hx392_1
           replace p392 := eq_true p392
           replace q392 := eq_true q392
           have hcz52_0 : wr.cell? ⟨gb390, 0, none⟩ = some (.int .i64 a1_0) := (blk_cell BK390.out 0).trans rfl
           have hcz52_1 : wr.cell? ⟨gb390, 1, none⟩ = some (.int .i64 a1_1) := (blk_cell BK390.out 1).trans rfl
           have hcz52_2 : wr.cell? ⟨gb390, 2, none⟩ = some (.int .i64 a1_2) := (blk_cell BK390.out 2).trans rfl
           have hcz52_3 : wr.cell? ⟨gb390, 3, none⟩ = some (.int .i64 a1_3) := (blk_cell BK390.out 3).trans rfl
           have hcz52_4 : wr.cell? ⟨gb390, 4, none⟩ = some (.int .i64 a1_4) := (blk_cell BK390.out 4).trans rfl
           have hcz52_5 : wr.cell? ⟨gb390, 5, none⟩ = some (.int .i64 a1_5) := (blk_cell BK390.out 5).trans rfl
           have hcz52_6 : wr.cell? ⟨gb390, 6, none⟩ = some (.int .i64 a1_6) := (blk_cell BK390.out 6).trans rfl
           have hcz52_7 : wr.cell? ⟨gb390, 7, none⟩ = some (.slice A1_7 l1_7.length c1_7) := (blk_cell BK390.out 7).trans rfl
           have hcz52_8 : wr.cell? ⟨gb390, 8, none⟩ = some (.slice A1_8 l1_8.length c1_8) := (blk_cell BK390.out 8).trans rfl
           have hfz52_0 := blk_frozen BK390.out 0
           have hfz52_1 := blk_frozen BK390.out 1
           have hfz52_2 := blk_frozen BK390.out 2
           have hfz52_3 := blk_frozen BK390.out 3
           have hfz52_4 := blk_frozen BK390.out 4
           have hfz52_5 := blk_frozen BK390.out 5
           have hfz52_6 := blk_frozen BK390.out 6
           have hfz52_7 := blk_frozen BK390.out 7
           have hfz52_8 := blk_frozen BK390.out 8
           have p393 : 0 ≤ (x73_2 : Int) := of_decide_eq_true (by first | (with_reducible assumption) | assumption)
           have q393 : x73_2 < (l1_7.length : Int) := of_decide_eq_true (by first | (with_reducible assumption) | assumption)
           obtain ⟨ad393, e393, hx393_0, hx393_1⟩ := at_T43 HR1_7.out x73_2 p393 q393
           cases e393
           replace hx393_0 := (HB.out.cell (World.block_lt_of_cell? w _ hx393_0)).trans hx393_0
           replace hx393_1 := (HB.out.cell (World.block_lt_of_cell? w _ hx393_1)).trans hx393_1
           replace p393 := eq_true p393
           replace q393 := eq_true q393
           go_wp2
           repeat (go_quiet (fail); try go_wp2)
           go_ret
           exact ⟨by first | rfl | (simp [errW_none, errW_some] <;> rfl) | (simp [*, errW_none, errW_some] <;> rfl) | (simp [wrap64]; done), by repeat (first | (with_reducible first | exact HB.out | apply below_alloc | apply pw_below_drewN | apply below_drew1 | refine below_set ?_ GE389.out | refine below_set ?_ GE390.out) | exact HB.out)⟩
          ·rw [if_neg c49] at H
           have c49b0 : (!(((rd_T43 l0_7 x73_2).f0) == ((rd_T43 l1_7 x73_2).f0)) || (!(((rd_T43 l0_7 x73_2).f1) == ((rd_T43 l1_7 x73_2).f1)))) = false := by simpa using c49
           clear c49
           have H' := Aside0.mk H
           clear H
           have hnb53 := NB389_390.out
           have hnc53 := NB390_389.out
           have hcz54_0 : wr.cell? ⟨gb389, 0, none⟩ = some (.int .i64 a0_0) := (blk_cell BK389.out 0).trans rfl
           have hcz54_1 : wr.cell? ⟨gb389, 1, none⟩ = some (.int .i64 a0_1) := (blk_cell BK389.out 1).trans rfl
           have hcz54_2 : wr.cell? ⟨gb389, 2, none⟩ = some (.int .i64 a0_2) := (blk_cell BK389.out 2).trans rfl
           have hcz54_3 : wr.cell? ⟨gb389, 3, none⟩ = some (.int .i64 a0_3) := (blk_cell BK389.out 3).trans rfl
           have hcz54_4 : wr.cell? ⟨gb389, 4, none⟩ = some (.int .i64 a0_4) := (blk_cell BK389.out 4).trans rfl
           have hcz54_5 : wr.cell? ⟨gb389, 5, none⟩ = some (.int .i64 a0_5) := (blk_cell BK389.out 5).trans rfl
           have hcz54_6 : wr.cell? ⟨gb389, 6, none⟩ = some (.int .i64 a0_6) := (blk_cell BK389.out 6).trans rfl
           have hcz54_7 : wr.cell? ⟨gb389, 7, none⟩ = some (.slice A0_7 l0_7.length c0_7) := (blk_cell BK389.out 7).trans rfl
           have hcz54_8 : wr.cell? ⟨gb389, 8, none⟩ = some (.slice A0_8 l0_8.length c0_8) := (blk_cell BK389.out 8).trans rfl
           have hfz54_0 := blk_frozen BK389.out 0
           have hfz54_1 := blk_frozen BK389.out 1
           have hfz54_2 := blk_frozen BK389.out 2
           have hfz54_3 := blk_frozen BK389.out 3
           have hfz54_4 := blk_frozen BK389.out 4
           have hfz54_5 := blk_frozen BK389.out 5
           have hfz54_6 := blk_frozen BK389.out 6
           have hfz54_7 := blk_frozen BK389.out 7
           have hfz54_8 := blk_frozen BK389.out 8
           have p392 : 0 ≤ (x73_2 : Int) := of_decide_eq_true (by first | (with_reducible assumption) | assumption)
           have q392 : x73_2 < (l0_7.length : Int) := of_decide_eq_true (by first | (with_reducible assumption) | assumption)
           obtain ⟨ad392, e392, hx392_0, hx392_1⟩ := at_T43 HR0_7.out x73_2 p392 q392
           cases e392
           replace hx392_0 := (HB.out.cell (World.block_lt_of_cell? w _ hx392_0)).trans hx392_0
           replace hx392_1 := (HB.out.cell (World.block_lt_of_cell? w _ hx392_1)).trans hx392_1
           replace p392 := eq_true p392
           replace q392 := eq_true q392
           have hcz55_0 : wr.cell? ⟨gb390, 0, none⟩ = some (.int .i64 a1_0) := (blk_cell BK390.out 0).trans rfl
           have hcz55_1 : wr.cell? ⟨gb390, 1, none⟩ = some (.int .i64 a1_1) := (blk_cell BK390.out 1).trans rfl
           have hcz55_2 : wr.cell? ⟨gb390, 2, none⟩ = some (.int .i64 a1_2) := (blk_cell BK390.out 2).trans rfl
           have hcz55_3 : wr.cell? ⟨gb390, 3, none⟩ = some (.int .i64 a1_3) := (blk_cell BK390.out 3).trans rfl
           have hcz55_4 : wr.cell? ⟨gb390, 4, none⟩ = some (.int .i64 a1_4) := (blk_cell BK390.out 4).trans rfl
           have hcz55_5 : wr.cell? ⟨gb390, 5, none⟩ = some (.int .i64 a1_5) := (blk_cell BK390.out 5).trans rfl
           have hcz55_6 : wr.cell? ⟨gb390, 6, none⟩ = some (.int .i64 a1_6) := (blk_cell BK390.out 6).trans rfl
           have hcz55_7 : wr.cell? ⟨gb390, 7, none⟩ = some (.slice A1_7 l1_7.length c1_7) := (blk_cell BK390.out 7).trans rfl
           have hcz55_8 : wr.cell? ⟨gb390, 8, none⟩ = some (.slice A1_8 l1_8.length c1_8) := (blk_cell BK390.out 8).trans rfl
           have hfz55_0 := blk_frozen BK390.out 0
           have hfz55_1 := blk_frozen BK390.out 1
           have hfz55_2 := blk_frozen BK390.out 2
           have hfz55_3 := blk_frozen BK390.out 3
           have hfz55_4 := blk_frozen BK390.out 4
           have hfz55_5 := blk_frozen BK390.out 5
           have hfz55_6 := blk_frozen BK390.out 6
           have hfz55_7 := blk_frozen BK390.out 7
           have hfz55_8 := blk_frozen BK390.out 8
           have p393 : 0 ≤ (x73_2 : Int) := of_decide_eq_true (by first | (with_reducible assumption) | assumption)
           have q393 : x73_2 < (l1_7.length : Int) := of_decide_eq_true (by first | (with_reducible assumption) | assumption)
           obtain ⟨ad393, e393, hx393_0, hx393_1⟩ := at_T43 HR1_7.out x73_2 p393 q393
           cases e393
           replace hx393_0 := (HB.out.cell (World.block_lt_of_cell? w _ hx393_0)).trans hx393_0
           replace hx393_1 := (HB.out.cell (World.block_lt_of_cell? w _ hx393_1)).trans hx393_1
           replace p393 := eq_true p393
           replace q393 := eq_true q393
           go_wp2
           repeat (go_quiet (fail); try go_wp2)
           go_roundg k2
           case measure => have := HJ2.out; have := HK2.out; omega
           case rel => exact ⟨(wrap64 (x73_2 + 1)), (by first | rfl | (simp; done) | (simp [*]; done)), H', ⟨by have := HJ2.out; have := HK2.out; omega⟩, ⟨by (with_reducible repeat (first | refine blk_drewN ?_ _ | refine blk_drew ?_ | refine blk_alloc ?_ _)); exact BK389.out⟩, ⟨by (with_reducible repeat (first | refine blk_drewN ?_ _ | refine blk_drew ?_ | refine blk_alloc ?_ _)); exact BK390.out⟩, ⟨by repeat (first | (with_reducible first | exact HB.out | apply below_alloc | apply pw_below_drewN | apply below_drew1 | refine below_set ?_ GE389.out | refine below_set ?_ GE390.out) | exact HB.out)⟩⟩
         ·rw [if_neg c48] at H
          exact absurd H (by simp)
        ·rw [if_neg c47] at H
         exact absurd H (by simp)
       ·rw [if_neg c46] at H
        exact absurd H (by simp)
      ·rw [if_neg c45] at H
       have c45b0 : decide (x73_2 < (l0_7.length : Int)) = false := decide_eq_false c45
       clear c45
       obtain rfl := Option.some.inj H
       go_wp2
       repeat (go_quiet (fail); try go_wp2)
       go_ret
       exact ⟨by first | rfl | (simp [errW_none, errW_some] <;> rfl) | (simp [*, errW_none, errW_some] <;> rfl) | (simp [wrap64]; done), by repeat (first | (with_reducible first | exact HB.out | apply below_alloc | apply pw_below_drewN | apply below_drew1 | refine below_set ?_ GE389.out | refine below_set ?_ GE390.out) | exact HB.out)⟩

end Go.Proofs.Ytflfmpfmnhpbmaa.PA
-- slim
