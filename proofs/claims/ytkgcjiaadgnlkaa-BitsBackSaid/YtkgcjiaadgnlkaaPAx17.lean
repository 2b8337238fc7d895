-- Written for this claim by this session's own printer (wip/patch_print.py over the kit's print).
import Derived.Test.YtkgcjiaadgnlkaaPAx0
import Derived.Test.YtkgcjiaadgnlkaaPAx1
import Derived.Test.YtkgcjiaadgnlkaaPAx3
import Derived.Test.YtkgcjiaadgnlkaaPAx5
namespace Go.Proofs.Ytkgcjiaadgnlkaa.PA
open Go.RowKit Go.Proofs.YtkgcjiaadgnlkaaW.PrintWords Go.Proofs.YtkgcjiaadgnlkaaW.PrintLast Go.Proofs.YtkgcjiaadgnlkaaW.PrintMore
attribute [local go_sem] max2_int min2_int max_two min_two max_three min_three max_four min_four   -- for this text's walks alone
set_option linter.unusedVariables false
set_option linter.unusedSimpArgs false

/-! ### bits_Join: function 23 -/
mutual
def bits_Join.l0 : Nat → List (S24) → Int → List (S24) → Int → Int → Option (List Int × Int × Int)
 | 0, _, _, _, _, _ => none
 | k + 1, x0, x4, x13, x14, x15 => if x15 < x14 then (if 0 ≤ x15 then (if x15 < (x13.length : Int) then ((bits_Check.f k ((rd_T24 x13 x15).f0) ((rd_T24 x13 x15).f1)).bind fun t356 => (if t356 = 0 then (bits_Join.l0 k x0 (wrap64 (x4 + ((rd_T24 x13 x15).f1))) x13 x14 (wrap64 (x15 + 1))) else (some (([] : List Int), 0, t356)))) else (none)) else (none)) else (if x4 > 65536 then (some (([] : List Int), 0, 2)) else (bits_Join.l1 k x0 (x0.length : Int) 0 ([] : List Int) 0))
def bits_Join.l1 : Nat → List (S24) → Int → Int → List Int → Int → Option (List Int × Int × Int)
 | 0, _, _, _, _, _ => none
 | k + 1, x34, x35, x36, x358000, x358001 => if x36 < x35 then (if 0 ≤ x36 then (if x36 < (x34.length : Int) then (bits_Join.l2 k 0 x34 x35 x36 x358000 x358001 ((rd_T24 x34 x36).f0) ((rd_T24 x34 x36).f1)) else (none)) else (none)) else (some (x358000, x358001, 0))
def bits_Join.l2 : Nat → Int → List (S24) → Int → Int → List Int → Int → List Int → Int → Option (List Int × Int × Int)
 | 0, _, _, _, _, _, _, _, _ => none
 | k + 1, x11, x34, x35, x36, x358000, x358001, x360000, x360001 => if x11 < x360001 then ((bits_take.f k x360000 x360001 x11 (mn 8 (wrap64 (x360001 - x11)))).bind fun t360 => ((bits_add.f k x358000 x358001 t360 (mn 8 (wrap64 (x360001 - x11)))).bind fun bt361 => (bits_Join.l2 k (wrap64 (x11 + 8)) x34 x35 x36 bt361.1 bt361.2 x360000 x360001))) else (bits_Join.l1 k x34 x35 (wrap64 (x36 + 1)) x358000 x358001)
end
def bits_Join.f (k : Nat) (l0 : List (S24)) : Option (List Int × Int × Int) := bits_Join.l0 k l0 0 l0 (l0.length : Int) 0
theorem bits_Join.mono_l : ∀ k, (∀ y0 y1 y2 y3 y4, LeO (bits_Join.l0 k y0 y1 y2 y3 y4) (bits_Join.l0 (k + 1) y0 y1 y2 y3 y4)) ∧ (∀ y0 y1 y2 y3 y4, LeO (bits_Join.l1 k y0 y1 y2 y3 y4) (bits_Join.l1 (k + 1) y0 y1 y2 y3 y4)) ∧ (∀ y0 y1 y2 y3 y4 y5 y6 y7, LeO (bits_Join.l2 k y0 y1 y2 y3 y4 y5 y6 y7) (bits_Join.l2 (k + 1) y0 y1 y2 y3 y4 y5 y6 y7))
 | 0 => ⟨fun _ _ _ _ _ r h => by simp [bits_Join.l0] at h, fun _ _ _ _ _ r h => by simp [bits_Join.l1] at h, fun _ _ _ _ _ _ _ _ r h => by simp [bits_Join.l2] at h⟩
 | k + 1 => by
  obtain ⟨ih0, ih1, ih2⟩ := bits_Join.mono_l k
  refine ⟨?_, ?_, ?_⟩
  ·intro y0 y1 y2 y3 y4
   unfold bits_Join.l0
   repeat' first
   | (with_reducible exact ih0 _ _ _ _ _)
   | (with_reducible exact ih1 _ _ _ _ _)
   | (with_reducible exact ih2 _ _ _ _ _ _ _ _)
   | (with_reducible exact bits_Check.mono _ _ _)
   | (with_reducible exact bits_add.mono _ _ _ _ _)
   | (with_reducible exact bits_take.mono _ _ _ _ _)
   | (with_reducible exact LeO.refl _)
   | (with_reducible exact LeO.none _)
   | (with_reducible refine LeO.ite ?_ ?_)
   | (with_reducible refine LeO.bind ?_ (fun _ => ?_))
   | exact ih0 _ _ _ _ _
   | exact ih1 _ _ _ _ _
   | exact ih2 _ _ _ _ _ _ _ _
   | exact bits_Check.mono _ _ _
   | exact bits_add.mono _ _ _ _ _
   | exact bits_take.mono _ _ _ _ _
   | exact LeO.none _
   | refine LeO.ite ?_ ?_
   | refine LeO.bind ?_ (fun _ => ?_)
  ·intro y0 y1 y2 y3 y4
   unfold bits_Join.l1
   repeat' first
   | (with_reducible exact ih0 _ _ _ _ _)
   | (with_reducible exact ih1 _ _ _ _ _)
   | (with_reducible exact ih2 _ _ _ _ _ _ _ _)
   | (with_reducible exact bits_Check.mono _ _ _)
   | (with_reducible exact bits_add.mono _ _ _ _ _)
   | (with_reducible exact bits_take.mono _ _ _ _ _)
   | (with_reducible exact LeO.refl _)
   | (with_reducible exact LeO.none _)
   | (with_reducible refine LeO.ite ?_ ?_)
   | (with_reducible refine LeO.bind ?_ (fun _ => ?_))
   | exact ih0 _ _ _ _ _
   | exact ih1 _ _ _ _ _
   | exact ih2 _ _ _ _ _ _ _ _
   | exact bits_Check.mono _ _ _
   | exact bits_add.mono _ _ _ _ _
   | exact bits_take.mono _ _ _ _ _
   | exact LeO.none _
   | refine LeO.ite ?_ ?_
   | refine LeO.bind ?_ (fun _ => ?_)
  ·intro y0 y1 y2 y3 y4 y5 y6 y7
   unfold bits_Join.l2
   repeat' first
   | (with_reducible exact ih0 _ _ _ _ _)
   | (with_reducible exact ih1 _ _ _ _ _)
   | (with_reducible exact ih2 _ _ _ _ _ _ _ _)
   | (with_reducible exact bits_Check.mono _ _ _)
   | (with_reducible exact bits_add.mono _ _ _ _ _)
   | (with_reducible exact bits_take.mono _ _ _ _ _)
   | (with_reducible exact LeO.refl _)
   | (with_reducible exact LeO.none _)
   | (with_reducible refine LeO.ite ?_ ?_)
   | (with_reducible refine LeO.bind ?_ (fun _ => ?_))
   | exact ih0 _ _ _ _ _
   | exact ih1 _ _ _ _ _
   | exact ih2 _ _ _ _ _ _ _ _
   | exact bits_Check.mono _ _ _
   | exact bits_add.mono _ _ _ _ _
   | exact bits_take.mono _ _ _ _ _
   | exact LeO.none _
   | refine LeO.ite ?_ ?_
   | refine LeO.bind ?_ (fun _ => ?_)
theorem bits_Join.mono : ∀ a0 k, LeO (bits_Join.f k a0) (bits_Join.f (k + 1) a0) := by
 intro a0 k
 obtain ⟨ih0, ih1, ih2⟩ := bits_Join.mono_l k
 unfold bits_Join.f
 repeat' first
   | (with_reducible exact ih0 _ _ _ _ _)
   | (with_reducible exact ih1 _ _ _ _ _)
   | (with_reducible exact ih2 _ _ _ _ _ _ _ _)
   | (with_reducible exact bits_Check.mono _ _ _)
   | (with_reducible exact bits_add.mono _ _ _ _ _)
   | (with_reducible exact bits_take.mono _ _ _ _ _)
   | (with_reducible exact LeO.refl _)
   | (with_reducible exact LeO.none _)
   | (with_reducible refine LeO.ite ?_ ?_)
   | (with_reducible refine LeO.bind ?_ (fun _ => ?_))
   | exact ih0 _ _ _ _ _
   | exact ih1 _ _ _ _ _
   | exact ih2 _ _ _ _ _ _ _ _
   | exact bits_Check.mono _ _ _
   | exact bits_add.mono _ _ _ _ _
   | exact bits_take.mono _ _ _ _ _
   | exact LeO.none _
   | refine LeO.ite ?_ ?_
   | refine LeO.bind ?_ (fun _ => ?_)
def bits_Join.T20 : Bool × List (List Nat × List Nat) := (true, [([], []), ([], []), ([], []), ([], []), ([1, 2, 3], [1, 2, 3]), ([], []), ([0, 4, 5, 4], [0, 4, 5]), ([6, 6, 0, 1, 2, 3, 4, 5, 6], [6])])
def bits_Join.B20 : List Nat := [0, 0, 0, 0, 14, 0, 63, 127]
theorem bits_Join.tab20 : rtab .any (opsOf Try.f23 20) = bits_Join.T20 := by kernel_rfl
theorem bits_Join.bits20 : waitsOk bits_Join.T20.2 bits_Join.B20 = true := by kernel_rfl
set_option maxHeartbeats 8000000 in
set_option maxRecDepth 100000 in
theorem bits_Join.calls (k : Nat) (A0 : Option Addr) (c0 : Nat) (l0 : List (S24)) (r1 : List Int) (r2 : Int) (r3 : Int) (w : World) (hr0 : Kd.C k24 w A0 l0.length l0) (hc0 : l0.length ≤ c0) (h : bits_Join.f k l0 = some (r1, r2, r3)) :
  Calls Try.prog 23 #[.slice A0 l0.length c0] w fun e w' => ∃ v0_ : Value, e = .returned (.tuple #[.agg #[v0_, .int .i64 r2], .int .i64 r3]) ∧ Kd.R (Kd.int .u8) 5 w' w.heap.size (fun _ => True) v0_ r1 ∧ Below w.heap.size w w' := by
 have hu24 := Try.underlying24
 have HR0 := Aside0.mk hr0
 have HC0 := Aside0.mk hc0
 clear hr0 hc0
 have HB := Aside0.mk (Below.refl w.heap.size w)
 have H : (bits_Join.l0 k l0 0 l0 (l0.length : Int) 0) = some (r1, r2, r3) := h
 clear h
 have H' := Aside0.mk H
 clear H
 go_enter Try.func23, Try.ntmps23
 go_wp2_with (first | ((with_reducible refine gate_dst (N := 2) rfl ?_); refine box_event ?hg (N := 2) ?hd (cs := #[.slice none 0 0, .int .i64 0]) (t := 24) ?hr ?_; (case hd => rfl); (case hg => rfl); (case hr => first | (go_simp; done) | (go_simp; rfl)); intro gb353 hg w2 hbox hb; have n0_ := Aside0.mk (below_step (by repeat (first | (with_reducible first | exact HB.out | apply below_alloc | apply pw_below_drewN | apply below_drew1) | exact HB.out)) hb); have n1_ := Aside0.mk (hbox); have n2_ := Aside0.mk ((by rw [hg]; exact (below_size (by repeat (first | (with_reducible first | exact HB.out | apply below_alloc | apply pw_below_drewN | apply below_drew1) | exact HB.out))) : w.heap.size ≤ gb353)); have n3_ := Aside0.mk ((by rw [hg]; exact (below_size (by repeat (first | (with_reducible first | exact HB.out | apply below_alloc | apply pw_below_drewN | apply below_drew1) | exact HB.out))) : w.heap.size ≤ gb353)); clear HB; have HB := n0_; have BK353 := n1_; have GW353 := n2_; have GE353 := n3_; clear n0_ n1_ n2_ n3_; clear hb hbox hg))
 (try simp only [Act.put, List.setIfInBounds_toArray, List.set_cons_zero, List.set_cons_succ])
 go_loopg [4, 15] k (fun kq v4 v15 w' => ∃ (x4_1 : Int) (x15_1 : Int) (x354001_1 : Int), v4 = .int .i64 x4_1 ∧ v15 = .int .i64 x15_1 ∧ Aside0 (bits_Join.l0 kq l0 x4_1 l0 (l0.length : Int) x15_1 = some (r1, r2, r3)) ∧ Aside0 (kq ≤ k) ∧ Aside0 (w'.heap[gb353]? = some (.cells #[(.slice none 0 0), .int .i64 x354001_1] 24 (0, 0))) ∧ Aside0 (Below w.heap.size w w'))
 case atStart => exact ⟨(0), (0), (0), (by first | rfl | (simp; done) | (simp [*]; done)), (by first | rfl | (simp; done) | (simp [*]; done)), H', ⟨Nat.le_refl _⟩, ⟨by (with_reducible repeat (first | refine blk_drewN ?_ _ | refine blk_drew ?_ | refine blk_alloc ?_ _)); exact BK353.out⟩, ⟨by repeat (first | (with_reducible first | exact HB.out | apply below_alloc | apply pw_below_drewN | apply below_drew1 | refine below_set ?_ GE353.out) | exact HB.out)⟩⟩
 case round =>
  clear H'
  try clear c2
  try clear p2
  obtain ⟨x4_1, x15_1, x354001_1, rfl, rfl, HA, HK1, BK353, HB⟩ := hrel
  cases gk with
  | zero => exact absurd HA.out (by simp [bits_Join.l0])
  | succ k1 =>
   have H := HA.out
   clear HA
   simp only [bits_Join.l0] at H
   by_cases c3 : x15_1 < (l0.length : Int)
   ·rw [if_pos c3] at H
    have c3b0 : decide (x15_1 < (l0.length : Int)) = true := decide_eq_true c3
    clear c3
    by_cases c4 : 0 ≤ x15_1
    ·rw [if_pos c4] at H
     have c4b0 : decide (0 ≤ x15_1) = true := decide_eq_true c4
     clear c4
     by_cases c5 : x15_1 < (l0.length : Int)
     ·rw [if_pos c5] at H
      have c5b0 : decide (x15_1 < (l0.length : Int)) = true := decide_eq_true c5
      clear c5
      replace H := Option.bind_eq_some_iff.mp H
      obtain ⟨t356, A60, H⟩ := H
      replace H : (if t356 = 0 then (bits_Join.l0 k1 l0 (wrap64 (x4_1 + ((rd_T24 l0 x15_1).f1))) l0 (l0.length : Int) (wrap64 (x15_1 + 1))) else (some (([] : List Int), 0, t356))) = some (r1, r2, r3) := H
      have A6 := Aside0.mk A60
      clear A60
      by_cases c7 : t356 = 0
      ·rw [if_pos c7] at H
       have c7b0 : (t356 == 0) = true := beq_iff_eq.mpr c7
       have c7b1 : (t356 != 0) = false := bne_eq_false_iff_eq.mpr c7
       clear c7
       have H' := Aside0.mk H
       clear H
       have p354 : 0 ≤ (x15_1 : Int) := of_decide_eq_true (by first | (with_reducible assumption) | assumption)
       have q354 : x15_1 < (l0.length : Int) := of_decide_eq_true (by first | (with_reducible assumption) | assumption)
       obtain ⟨ad354, A354_0, c354_0, e354, hx354_0, hx354_1, hl354_0, hi354_0⟩ := at_T24 HR0.out x15_1 p354 q354
       cases e354
       replace hx354_0 := (HB.out.cell (World.block_lt_of_cell? w _ hx354_0)).trans hx354_0
       replace hx354_1 := (HB.out.cell (World.block_lt_of_cell? w _ hx354_1)).trans hx354_1
       have HR354_0 := Aside0.mk hi354_0
       have HC354_0 := Aside0.mk hl354_0
       clear hi354_0 hl354_0
       replace p354 := eq_true p354
       replace q354 := eq_true q354
       go_wp2_with (first | ((with_reducible refine gate_dst (N := 6) rfl ?_); refine box_event ?hg (N := 6) ?hd (cs := #[.slice none 0 0, .int .i64 0]) (t := 24) ?hr ?_; (case hd => rfl); (case hg => rfl); (case hr => first | (go_simp; done) | (go_simp; rfl)); intro gb355 hg w8 hbox hb; have n0_ := Aside0.mk (blk_below (g := gb353) (o := .cells #[.slice none 0 0, .int .i64 x354001_1] 24 (0, 0)) (by (with_reducible repeat (first | refine blk_drewN ?_ _ | refine blk_drew ?_ | refine blk_alloc ?_ _)); exact BK353.out) hb); have n1_ := Aside0.mk (below_step (by repeat (first | (with_reducible first | exact HB.out | apply below_alloc | apply pw_below_drewN | apply below_drew1 | refine below_set ?_ GE353.out) | exact HB.out)) hb); have n2_ := Aside0.mk (hbox); have n3_ := Aside0.mk ((by rw [hg]; exact (below_size (by repeat (first | (with_reducible first | exact HB.out | apply below_alloc | apply pw_below_drewN | apply below_drew1 | refine below_set ?_ GE353.out) | exact HB.out))) : w.heap.size ≤ gb355)); have n4_ := Aside0.mk ((by rw [hg]; exact (below_size (by repeat (first | (with_reducible first | exact HB.out | apply below_alloc | apply pw_below_drewN | apply below_drew1 | refine below_set ?_ GE353.out) | exact HB.out))) : w.heap.size ≤ gb355)); have n5_ := Aside0.mk ((by rw [hg]; exact Nat.ne_of_lt (blk_lt (g := gb353) (o := .cells #[.slice none 0 0, .int .i64 x354001_1] 24 (0, 0)) (by (with_reducible repeat (first | refine blk_drewN ?_ _ | refine blk_drew ?_ | refine blk_alloc ?_ _)); exact BK353.out)) : gb353 ≠ gb355)); have n6_ := Aside0.mk ((by rw [hg]; exact Nat.ne_of_gt (blk_lt (g := gb353) (o := .cells #[.slice none 0 0, .int .i64 x354001_1] 24 (0, 0)) (by (with_reducible repeat (first | refine blk_drewN ?_ _ | refine blk_drew ?_ | refine blk_alloc ?_ _)); exact BK353.out)) : gb355 ≠ gb353)); clear BK353; clear HB; have BK353 := n0_; have HB := n1_; have BK355 := n2_; have GW355 := n3_; have GE355 := n4_; have NB353_355 := n5_; have NB355_353 := n6_; clear n0_ n1_ n2_ n3_ n4_ n5_ n6_; clear hb hbox hg; have hnb9 := NB355_353.out; have hnc9 := NB353_355.out; have hcz10_0 : w8.cell? ⟨gb355, 0, none⟩ = some (.slice none 0 0) := (blk_cell BK355.out 0).trans rfl; have hcz10_1 : w8.cell? ⟨gb355, 1, none⟩ = some (.int .i64 0) := (blk_cell BK355.out 1).trans rfl; have hfz10_0 := blk_frozen BK355.out 0; have hfz10_1 := blk_frozen BK355.out 1) | ((with_reducible refine gate_callee (f := 19) rfl ?_); refine goesL_ (some 20) rfl rfl Try.func19 (by kernel_rfl) rfl #[.agg #[.slice A354_0 ((rd_T24 l0 x15_1).f0).length c354_0, .int .i64 ((rd_T24 l0 x15_1).f1)]] rfl (by (try simp only [List.map_toArray, List.map_cons, List.map_nil]); first | done | rfl | (simp only [List.length_drop, List.length_take]; rfl)) ?_; (with_reducible refine (bits_Check.calls k1 _ _ ((rd_T24 l0 x15_1).f0) ((rd_T24 l0 x15_1).f1) t356 _ ?side1 ?side2 A6.out).mono ?_); (case side1 => exact Kd.C_below HR354_0.out (by repeat (first | (with_reducible first | exact HB.out | apply below_alloc | apply pw_below_drewN | apply below_drew1 | refine below_set ?_ GE353.out | refine below_set ?_ GE355.out) | exact HB.out))); (case side2 => exact HC354_0.out); rintro e w11 ⟨rfl, hb⟩; refine ⟨_, rfl, ?_⟩; have n0_ := Aside0.mk (blk_below (g := gb353) (o := .cells #[.slice none 0 0, .int .i64 x354001_1] 24 (0, 0)) (by (with_reducible repeat (first | refine blk_drewN ?_ _ | refine blk_drew ?_ | refine blk_alloc ?_ _)); refine blk_far ?_ NB353_355.out _; (with_reducible repeat (first | refine blk_drewN ?_ _ | refine blk_drew ?_ | refine blk_alloc ?_ _)); refine blk_far ?_ NB353_355.out _; (with_reducible repeat (first | refine blk_drewN ?_ _ | refine blk_drew ?_ | refine blk_alloc ?_ _)); exact BK353.out) hb); have n1_ := Aside0.mk (blk_below (g := gb355) (o := .cells #[.slice A354_0 ((rd_T24 l0 x15_1).f0).length c354_0, .int .i64 ((rd_T24 l0 x15_1).f1)] 24 (0, 0)) (by (with_reducible repeat (first | refine blk_drewN ?_ _ | refine blk_drew ?_ | refine blk_alloc ?_ _)); refine blk_put (cs := #[.slice A354_0 ((rd_T24 l0 x15_1).f0).length c354_0, .int .i64 0]) ?_ 1 _ rfl; (with_reducible repeat (first | refine blk_drewN ?_ _ | refine blk_drew ?_ | refine blk_alloc ?_ _)); refine blk_put (cs := #[.slice none 0 0, .int .i64 0]) ?_ 0 _ rfl; (with_reducible repeat (first | refine blk_drewN ?_ _ | refine blk_drew ?_ | refine blk_alloc ?_ _)); exact BK355.out) hb); have n2_ := Aside0.mk (below_step (by repeat (first | (with_reducible first | exact HB.out | apply below_alloc | apply pw_below_drewN | apply below_drew1 | refine below_set ?_ GE353.out | refine below_set ?_ GE355.out) | exact HB.out)) hb); clear BK353; clear BK355; clear HB; have BK353 := n0_; have BK355 := n1_; have HB := n2_; clear n0_ n1_ n2_; (try clear hb); (try clear hb2); (try clear hk); (try clear hi); have hcz12_0 : w11.cell? ⟨gb355, 0, none⟩ = some (.slice A354_0 ((rd_T24 l0 x15_1).f0).length c354_0) := (blk_cell BK355.out 0).trans rfl; have hcz12_1 : w11.cell? ⟨gb355, 1, none⟩ = some (.int .i64 ((rd_T24 l0 x15_1).f1)) := (blk_cell BK355.out 1).trans rfl; have hfz12_0 := blk_frozen BK355.out 0; have hfz12_1 := blk_frozen BK355.out 1))
       go_roundg k1
       case measure => have := HK1.out; omega
       case rel => exact ⟨(wrap64 (x4_1 + ((rd_T24 l0 x15_1).f1))), (wrap64 (x15_1 + 1)), (x354001_1), (by first | rfl | (simp; done) | (simp [*]; done)), (by first | rfl | (simp; done) | (simp [*]; done)), H', ⟨by have := HK1.out; omega⟩, ⟨by (with_reducible repeat (first | refine blk_drewN ?_ _ | refine blk_drew ?_ | refine blk_alloc ?_ _)); exact BK353.out⟩, ⟨by repeat (first | (with_reducible first | exact HB.out | apply below_alloc | apply pw_below_drewN | apply below_drew1 | refine below_set ?_ GE353.out | refine below_set ?_ GE355.out) | exact HB.out)⟩⟩
      ·rw [if_neg c7] at H
       have c7b0 : (t356 == 0) = false := beq_eq_false_iff_ne.mpr c7
       have c7b1 : (t356 != 0) = true := bne_iff_ne.mpr c7
       simp only [Option.some.injEq, Prod.mk.injEq] at H
       obtain ⟨rfl, rfl, rfl⟩ := H
       have p354 : 0 ≤ (x15_1 : Int) := of_decide_eq_true (by first | (with_reducible assumption) | assumption)
       have q354 : x15_1 < (l0.length : Int) := of_decide_eq_true (by first | (with_reducible assumption) | assumption)
       obtain ⟨ad354, A354_0, c354_0, e354, hx354_0, hx354_1, hl354_0, hi354_0⟩ := at_T24 HR0.out x15_1 p354 q354
       cases e354
       replace hx354_0 := (HB.out.cell (World.block_lt_of_cell? w _ hx354_0)).trans hx354_0
       replace hx354_1 := (HB.out.cell (World.block_lt_of_cell? w _ hx354_1)).trans hx354_1
       have HR354_0 := Aside0.mk hi354_0
       have HC354_0 := Aside0.mk hl354_0
       clear hi354_0 hl354_0
       replace p354 := eq_true p354
       replace q354 := eq_true q354
       go_wp2_with (first | ((with_reducible refine gate_dst (N := 6) rfl ?_); refine box_event ?hg (N := 6) ?hd (cs := #[.slice none 0 0, .int .i64 0]) (t := 24) ?hr ?_; (case hd => rfl); (case hg => rfl); (case hr => first | (go_simp; done) | (go_simp; rfl)); intro gb355 hg w13 hbox hb; have n0_ := Aside0.mk (blk_below (g := gb353) (o := .cells #[.slice none 0 0, .int .i64 x354001_1] 24 (0, 0)) (by (with_reducible repeat (first | refine blk_drewN ?_ _ | refine blk_drew ?_ | refine blk_alloc ?_ _)); exact BK353.out) hb); have n1_ := Aside0.mk (below_step (by repeat (first | (with_reducible first | exact HB.out | apply below_alloc | apply pw_below_drewN | apply below_drew1 | refine below_set ?_ GE353.out) | exact HB.out)) hb); have n2_ := Aside0.mk (hbox); have n3_ := Aside0.mk ((by rw [hg]; exact (below_size (by repeat (first | (with_reducible first | exact HB.out | apply below_alloc | apply pw_below_drewN | apply below_drew1 | refine below_set ?_ GE353.out) | exact HB.out))) : w.heap.size ≤ gb355)); have n4_ := Aside0.mk ((by rw [hg]; exact (below_size (by repeat (first | (with_reducible first | exact HB.out | apply below_alloc | apply pw_below_drewN | apply below_drew1 | refine below_set ?_ GE353.out) | exact HB.out))) : w.heap.size ≤ gb355)); have n5_ := Aside0.mk ((by rw [hg]; exact Nat.ne_of_lt (blk_lt (g := gb353) (o := .cells #[.slice none 0 0, .int .i64 x354001_1] 24 (0, 0)) (by (with_reducible repeat (first | refine blk_drewN ?_ _ | refine blk_drew ?_ | refine blk_alloc ?_ _)); exact BK353.out)) : gb353 ≠ gb355)); have n6_ := Aside0.mk ((by rw [hg]; exact Nat.ne_of_gt (blk_lt (g := gb353) (o := .cells #[.slice none 0 0, .int .i64 x354001_1] 24 (0, 0)) (by (with_reducible repeat (first | refine blk_drewN ?_ _ | refine blk_drew ?_ | refine blk_alloc ?_ _)); exact BK353.out)) : gb355 ≠ gb353)); clear BK353; clear HB; have BK353 := n0_; have HB := n1_; have BK355 := n2_; have GW355 := n3_; have GE355 := n4_; have NB353_355 := n5_; have NB355_353 := n6_; clear n0_ n1_ n2_ n3_ n4_ n5_ n6_; clear hb hbox hg; have hnb14 := NB355_353.out; have hnc14 := NB353_355.out; have hcz15_0 : w13.cell? ⟨gb355, 0, none⟩ = some (.slice none 0 0) := (blk_cell BK355.out 0).trans rfl; have hcz15_1 : w13.cell? ⟨gb355, 1, none⟩ = some (.int .i64 0) := (blk_cell BK355.out 1).trans rfl; have hfz15_0 := blk_frozen BK355.out 0; have hfz15_1 := blk_frozen BK355.out 1) | ((with_reducible refine gate_callee (f := 19) rfl ?_); refine goesL_ (some 20) rfl rfl Try.func19 (by kernel_rfl) rfl #[.agg #[.slice A354_0 ((rd_T24 l0 x15_1).f0).length c354_0, .int .i64 ((rd_T24 l0 x15_1).f1)]] rfl (by (try simp only [List.map_toArray, List.map_cons, List.map_nil]); first | done | rfl | (simp only [List.length_drop, List.length_take]; rfl)) ?_; (with_reducible refine (bits_Check.calls k1 _ _ ((rd_T24 l0 x15_1).f0) ((rd_T24 l0 x15_1).f1) t356 _ ?side1 ?side2 A6.out).mono ?_); (case side1 => exact Kd.C_below HR354_0.out (by repeat (first | (with_reducible first | exact HB.out | apply below_alloc | apply pw_below_drewN | apply below_drew1 | refine below_set ?_ GE353.out | refine below_set ?_ GE355.out) | exact HB.out))); (case side2 => exact HC354_0.out); rintro e w16 ⟨rfl, hb⟩; refine ⟨_, rfl, ?_⟩; have n0_ := Aside0.mk (blk_below (g := gb353) (o := .cells #[.slice none 0 0, .int .i64 x354001_1] 24 (0, 0)) (by (with_reducible repeat (first | refine blk_drewN ?_ _ | refine blk_drew ?_ | refine blk_alloc ?_ _)); refine blk_far ?_ NB353_355.out _; (with_reducible repeat (first | refine blk_drewN ?_ _ | refine blk_drew ?_ | refine blk_alloc ?_ _)); refine blk_far ?_ NB353_355.out _; (with_reducible repeat (first | refine blk_drewN ?_ _ | refine blk_drew ?_ | refine blk_alloc ?_ _)); exact BK353.out) hb); have n1_ := Aside0.mk (blk_below (g := gb355) (o := .cells #[.slice A354_0 ((rd_T24 l0 x15_1).f0).length c354_0, .int .i64 ((rd_T24 l0 x15_1).f1)] 24 (0, 0)) (by (with_reducible repeat (first | refine blk_drewN ?_ _ | refine blk_drew ?_ | refine blk_alloc ?_ _)); refine blk_put (cs := #[.slice A354_0 ((rd_T24 l0 x15_1).f0).length c354_0, .int .i64 0]) ?_ 1 _ rfl; (with_reducible repeat (first | refine blk_drewN ?_ _ | refine blk_drew ?_ | refine blk_alloc ?_ _)); refine blk_put (cs := #[.slice none 0 0, .int .i64 0]) ?_ 0 _ rfl; (with_reducible repeat (first | refine blk_drewN ?_ _ | refine blk_drew ?_ | refine blk_alloc ?_ _)); exact BK355.out) hb); have n2_ := Aside0.mk (below_step (by repeat (first | (with_reducible first | exact HB.out | apply below_alloc | apply pw_below_drewN | apply below_drew1 | refine below_set ?_ GE353.out | refine below_set ?_ GE355.out) | exact HB.out)) hb); clear BK353; clear BK355; clear HB; have BK353 := n0_; have BK355 := n1_; have HB := n2_; clear n0_ n1_ n2_; (try clear hb); (try clear hb2); (try clear hk); (try clear hi); have hcz17_0 : w16.cell? ⟨gb353, 0, none⟩ = some (.slice none 0 0) := (blk_cell BK353.out 0).trans rfl; have hcz17_1 : w16.cell? ⟨gb353, 1, none⟩ = some (.int .i64 x354001_1) := (blk_cell BK353.out 1).trans rfl; have hfz17_0 := blk_frozen BK353.out 0; have hfz17_1 := blk_frozen BK353.out 1))
       refine bodyPost_ret (results_ct rfl _ _ gb353 24 #[.slice none 0 0, .int .i64 0] (0, 0) _ rfl (by (with_reducible repeat (first | refine blk_drewN ?_ _ | refine blk_drew ?_ | refine blk_alloc ?_ _)); refine blk_put (cs := #[.slice none 0 0, .int .i64 x354001_1]) ?_ 1 _ rfl; (with_reducible repeat (first | refine blk_drewN ?_ _ | refine blk_drew ?_ | refine blk_alloc ?_ _)); refine blk_put (cs := #[.slice none 0 0, .int .i64 x354001_1]) ?_ 0 _ rfl; (with_reducible repeat (first | refine blk_drewN ?_ _ | refine blk_drew ?_ | refine blk_alloc ?_ _)); exact BK353.out) Try.underlying24 rfl (by kernel_rfl)) rfl ?_
       exact ⟨_, by first | rfl | (simp [errW_none, errW_some] <;> rfl) | (simp [*, errW_none, errW_some] <;> rfl), by first | exact Kd.R_nil _ _ _ _ _ | exact Kd.N_nil _ _ _ _ _ | exact Kd.V_nil _ _ _ _ _ | exact Kd.Q_nil _ _ _ _ _ | exact Kd.S_nil _ _ _ _ _, by repeat (first | (with_reducible first | exact HB.out | apply below_alloc | apply pw_below_drewN | apply below_drew1 | refine below_set ?_ GE353.out | refine below_set ?_ GE355.out) | exact HB.out)⟩
     ·rw [if_neg c5] at H
      exact absurd H (by simp)
    ·rw [if_neg c4] at H
     exact absurd H (by simp)
   ·rw [if_neg c3] at H
    have c3b0 : decide (x15_1 < (l0.length : Int)) = false := decide_eq_false c3
    clear c3
    by_cases c18 : x4_1 > 65536
    ·rw [if_pos c18] at H
     have c18b0 : decide (65536 < x4_1) = true := decide_eq_true c18
     clear c18
     simp only [Option.some.injEq, Prod.mk.injEq] at H
     obtain ⟨rfl, rfl, rfl⟩ := H
     have hcz19_0 : wr.cell? ⟨gb353, 0, none⟩ = some (.slice none 0 0) := (blk_cell BK353.out 0).trans rfl
     have hcz19_1 : wr.cell? ⟨gb353, 1, none⟩ = some (.int .i64 x354001_1) := (blk_cell BK353.out 1).trans rfl
     have hfz19_0 := blk_frozen BK353.out 0
     have hfz19_1 := blk_frozen BK353.out 1
     go_wp2
     refine bodyPost_ret (results_ct rfl _ _ gb353 24 #[.slice none 0 0, .int .i64 0] (0, 0) _ rfl (by (with_reducible repeat (first | refine blk_drewN ?_ _ | refine blk_drew ?_ | refine blk_alloc ?_ _)); refine blk_put (cs := #[.slice none 0 0, .int .i64 x354001_1]) ?_ 1 _ rfl; (with_reducible repeat (first | refine blk_drewN ?_ _ | refine blk_drew ?_ | refine blk_alloc ?_ _)); refine blk_put (cs := #[.slice none 0 0, .int .i64 x354001_1]) ?_ 0 _ rfl; (with_reducible repeat (first | refine blk_drewN ?_ _ | refine blk_drew ?_ | refine blk_alloc ?_ _)); exact BK353.out) Try.underlying24 rfl (by kernel_rfl)) rfl ?_
     exact ⟨_, by first | rfl | (simp [errW_none, errW_some] <;> rfl) | (simp [*, errW_none, errW_some] <;> rfl), by first | exact Kd.R_nil _ _ _ _ _ | exact Kd.N_nil _ _ _ _ _ | exact Kd.V_nil _ _ _ _ _ | exact Kd.Q_nil _ _ _ _ _ | exact Kd.S_nil _ _ _ _ _, by repeat (first | (with_reducible first | exact HB.out | apply below_alloc | apply pw_below_drewN | apply below_drew1 | refine below_set ?_ GE353.out) | exact HB.out)⟩
    ·rw [if_neg c18] at H
     have c18b0 : decide (65536 < x4_1) = false := decide_eq_false c18
     clear c18
     have H' := Aside0.mk H
     clear H
     go_wp2_with (first | ((with_reducible refine gate_dst (N := 8) rfl ?_); refine box_event ?hg (N := 8) ?hd (cs := #[.slice none 0 0, .int .i64 0]) (t := 24) ?hr ?_; (case hd => rfl); (case hg => rfl); (case hr => first | (go_simp; done) | (go_simp; rfl)); intro gb357 hg w20 hbox hb; have n0_ := Aside0.mk (blk_below (g := gb353) (o := .cells #[.slice none 0 0, .int .i64 x354001_1] 24 (0, 0)) (by (with_reducible repeat (first | refine blk_drewN ?_ _ | refine blk_drew ?_ | refine blk_alloc ?_ _)); exact BK353.out) hb); have n1_ := Aside0.mk (below_step (by repeat (first | (with_reducible first | exact HB.out | apply below_alloc | apply pw_below_drewN | apply below_drew1 | refine below_set ?_ GE353.out) | exact HB.out)) hb); have n2_ := Aside0.mk (hbox); have n3_ := Aside0.mk ((by rw [hg]; exact (below_size (by repeat (first | (with_reducible first | exact HB.out | apply below_alloc | apply pw_below_drewN | apply below_drew1 | refine below_set ?_ GE353.out) | exact HB.out))) : w.heap.size ≤ gb357)); have n4_ := Aside0.mk ((by rw [hg]; exact (below_size (by repeat (first | (with_reducible first | exact HB.out | apply below_alloc | apply pw_below_drewN | apply below_drew1 | refine below_set ?_ GE353.out) | exact HB.out))) : w.heap.size ≤ gb357)); have n5_ := Aside0.mk ((by rw [hg]; exact Nat.ne_of_lt (blk_lt (g := gb353) (o := .cells #[.slice none 0 0, .int .i64 x354001_1] 24 (0, 0)) (by (with_reducible repeat (first | refine blk_drewN ?_ _ | refine blk_drew ?_ | refine blk_alloc ?_ _)); exact BK353.out)) : gb353 ≠ gb357)); have n6_ := Aside0.mk ((by rw [hg]; exact Nat.ne_of_gt (blk_lt (g := gb353) (o := .cells #[.slice none 0 0, .int .i64 x354001_1] 24 (0, 0)) (by (with_reducible repeat (first | refine blk_drewN ?_ _ | refine blk_drew ?_ | refine blk_alloc ?_ _)); exact BK353.out)) : gb357 ≠ gb353)); clear BK353; clear HB; have BK353 := n0_; have HB := n1_; have BK357 := n2_; have GW357 := n3_; have GE357 := n4_; have NB353_357 := n5_; have NB357_353 := n6_; clear n0_ n1_ n2_ n3_ n4_ n5_ n6_; clear hb hbox hg; have hnb21 := NB357_353.out; have hnc21 := NB353_357.out; have hcz22_0 : w20.cell? ⟨gb357, 0, none⟩ = some (.slice none 0 0) := (blk_cell BK357.out 0).trans rfl; have hcz22_1 : w20.cell? ⟨gb357, 1, none⟩ = some (.int .i64 0) := (blk_cell BK357.out 1).trans rfl; have hfz22_0 := blk_frozen BK357.out 0; have hfz22_1 := blk_frozen BK357.out 1))
     (try simp only [Act.put, List.setIfInBounds_toArray, List.set_cons_zero, List.set_cons_succ])
     go_loopg [36] k1 (fun kq v36 w' => ∃ (x36_2 : Int) (x358000_2 : List Int) (x358001_2 : Int) (u358000 : Value), v36 = .int .i64 x36_2 ∧ Aside0 (bits_Join.l1 kq l0 (l0.length : Int) x36_2 x358000_2 x358001_2 = some (r1, r2, r3)) ∧ Aside0 (kq ≤ k1) ∧ Aside0 (Kd.R (Kd.int .u8) 5 w' w.heap.size (fun _ => True) u358000 x358000_2) ∧ Aside0 (w'.heap[gb353]? = some (.cells #[(.slice none 0 0), .int .i64 x354001_1] 24 (0, 0))) ∧ Aside0 (w'.heap[gb357]? = some (.cells #[u358000, .int .i64 x358001_2] 24 (0, 0))) ∧ Aside0 (Below w.heap.size w w'))
     case atStart => exact ⟨(0), (([] : List Int)), (0), (.slice none 0 0), (by first | rfl | (simp; done) | (simp [*]; done)), H', ⟨Nat.le_refl _⟩, ⟨by first | exact Kd.R_nil _ _ _ _ _ | exact Kd.N_nil _ _ _ _ _ | exact Kd.V_nil _ _ _ _ _ | exact Kd.Q_nil _ _ _ _ _ | exact Kd.S_nil _ _ _ _ _⟩, ⟨by (with_reducible repeat (first | refine blk_drewN ?_ _ | refine blk_drew ?_ | refine blk_alloc ?_ _)); refine blk_far ?_ NB353_357.out _; (with_reducible repeat (first | refine blk_drewN ?_ _ | refine blk_drew ?_ | refine blk_alloc ?_ _)); refine blk_far ?_ NB353_357.out _; (with_reducible repeat (first | refine blk_drewN ?_ _ | refine blk_drew ?_ | refine blk_alloc ?_ _)); exact BK353.out⟩, ⟨by (with_reducible repeat (first | refine blk_drewN ?_ _ | refine blk_drew ?_ | refine blk_alloc ?_ _)); refine blk_put (cs := #[.slice none 0 0, .int .i64 0]) ?_ 1 _ rfl; (with_reducible repeat (first | refine blk_drewN ?_ _ | refine blk_drew ?_ | refine blk_alloc ?_ _)); refine blk_put (cs := #[.slice none 0 0, .int .i64 0]) ?_ 0 _ rfl; (with_reducible repeat (first | refine blk_drewN ?_ _ | refine blk_drew ?_ | refine blk_alloc ?_ _)); exact BK357.out⟩, ⟨by repeat (first | (with_reducible first | exact HB.out | apply below_alloc | apply pw_below_drewN | apply below_drew1 | refine below_set ?_ GE353.out | refine below_set ?_ GE357.out) | exact HB.out)⟩⟩
     case round =>
      clear H'
      try clear c1
      try clear c2
      try clear p2
      try clear c3
      try clear c3b0
      try clear p3
      try clear q3
      try clear hx3
      try clear c4
      try clear c4b0
      try clear c5
      try clear c5b0
      try clear p6
      try clear c7
      try clear c7b0
      try clear c7b1
      try clear c9
      try clear c14
      try clear c18
      try clear c18b0
      try clear c19
      try clear c21
      try clear hcz10_0
      try clear hcz10_1
      try clear hcz12_0
      try clear hcz12_1
      try clear hcz15_0
      try clear hcz15_1
      try clear hcz17_0
      try clear hcz17_1
      try clear hcz19_0
      try clear hcz19_1
      try clear hcz22_0
      try clear hcz22_1
      try clear hfz10_0
      try clear hfz10_1
      try clear hfz12_0
      try clear hfz12_1
      try clear hfz15_0
      try clear hfz15_1
      try clear hfz17_0
      try clear hfz17_1
      try clear hfz19_0
      try clear hfz19_1
      try clear hfz22_0
      try clear hfz22_1
      try clear hx354_0
      try clear hx354_1
      try clear p2
      try clear p354
      try clear q354
      obtain ⟨x36_2, x358000_2, x358001_2, u358000, rfl, HA, HK2, HO_358000, BK353, BK357, HB⟩ := hrel
      cases gk with
      | zero => exact absurd HA.out (by simp [bits_Join.l1])
      | succ k2 =>
       have H := HA.out
       clear HA
       simp only [bits_Join.l1] at H
       by_cases c23 : x36_2 < (l0.length : Int)
       ·rw [if_pos c23] at H
        have c23b0 : decide (x36_2 < (l0.length : Int)) = true := decide_eq_true c23
        clear c23
        by_cases c24 : 0 ≤ x36_2
        ·rw [if_pos c24] at H
         have c24b0 : decide (0 ≤ x36_2) = true := decide_eq_true c24
         clear c24
         by_cases c25 : x36_2 < (l0.length : Int)
         ·rw [if_pos c25] at H
          have c25b0 : decide (x36_2 < (l0.length : Int)) = true := decide_eq_true c25
          clear c25
          have H' := Aside0.mk H
          clear H
          have p358 : 0 ≤ (x36_2 : Int) := of_decide_eq_true (by first | (with_reducible assumption) | assumption)
          have q358 : x36_2 < (l0.length : Int) := of_decide_eq_true (by first | (with_reducible assumption) | assumption)
          obtain ⟨ad358, A358_0, c358_0, e358, hx358_0, hx358_1, hl358_0, hi358_0⟩ := at_T24 HR0.out x36_2 p358 q358
          cases e358
          replace hx358_0 := (HB.out.cell (World.block_lt_of_cell? w _ hx358_0)).trans hx358_0
          replace hx358_1 := (HB.out.cell (World.block_lt_of_cell? w _ hx358_1)).trans hx358_1
          have HR358_0 := Aside0.mk hi358_0
          have HC358_0 := Aside0.mk hl358_0
          clear hi358_0 hl358_0
          replace p358 := eq_true p358
          replace q358 := eq_true q358
          go_wp2_with (first | ((with_reducible refine gate_dst (N := 10) rfl ?_); refine box_event ?hg (N := 10) ?hd (cs := #[.slice none 0 0, .int .i64 0]) (t := 24) ?hr ?_; (case hd => rfl); (case hg => rfl); (case hr => first | (go_simp; done) | (go_simp; rfl)); intro gb359 hg w26 hbox hb; have n0_ := Aside0.mk (Kd.R_below (by (with_reducible repeat (first | apply Kd.R_alloc | apply Kd.R_drewN | apply Kd.R_drew)); exact HO_358000.out) hb); have n1_ := Aside0.mk (blk_below (g := gb353) (o := .cells #[.slice none 0 0, .int .i64 x354001_1] 24 (0, 0)) (by (with_reducible repeat (first | refine blk_drewN ?_ _ | refine blk_drew ?_ | refine blk_alloc ?_ _)); exact BK353.out) hb); have n2_ := Aside0.mk (blk_below (g := gb357) (o := .cells #[u358000, .int .i64 x358001_2] 24 (0, 0)) (by (with_reducible repeat (first | refine blk_drewN ?_ _ | refine blk_drew ?_ | refine blk_alloc ?_ _)); exact BK357.out) hb); have n3_ := Aside0.mk (below_step (by repeat (first | (with_reducible first | exact HB.out | apply below_alloc | apply pw_below_drewN | apply below_drew1 | refine below_set ?_ GE353.out | refine below_set ?_ GE357.out) | exact HB.out)) hb); have n4_ := Aside0.mk (hbox); have n5_ := Aside0.mk ((by rw [hg]; exact (below_size (by repeat (first | (with_reducible first | exact HB.out | apply below_alloc | apply pw_below_drewN | apply below_drew1 | refine below_set ?_ GE353.out | refine below_set ?_ GE357.out) | exact HB.out))) : w.heap.size ≤ gb359)); have n6_ := Aside0.mk ((by rw [hg]; exact (below_size (by repeat (first | (with_reducible first | exact HB.out | apply below_alloc | apply pw_below_drewN | apply below_drew1 | refine below_set ?_ GE353.out | refine below_set ?_ GE357.out) | exact HB.out))) : w.heap.size ≤ gb359)); have n7_ := Aside0.mk ((by rw [hg]; exact Nat.ne_of_lt (blk_lt (g := gb353) (o := .cells #[.slice none 0 0, .int .i64 x354001_1] 24 (0, 0)) (by (with_reducible repeat (first | refine blk_drewN ?_ _ | refine blk_drew ?_ | refine blk_alloc ?_ _)); exact BK353.out)) : gb353 ≠ gb359)); have n8_ := Aside0.mk ((by rw [hg]; exact Nat.ne_of_gt (blk_lt (g := gb353) (o := .cells #[.slice none 0 0, .int .i64 x354001_1] 24 (0, 0)) (by (with_reducible repeat (first | refine blk_drewN ?_ _ | refine blk_drew ?_ | refine blk_alloc ?_ _)); exact BK353.out)) : gb359 ≠ gb353)); have n9_ := Aside0.mk ((by rw [hg]; exact Nat.ne_of_lt (blk_lt (g := gb357) (o := .cells #[u358000, .int .i64 x358001_2] 24 (0, 0)) (by (with_reducible repeat (first | refine blk_drewN ?_ _ | refine blk_drew ?_ | refine blk_alloc ?_ _)); exact BK357.out)) : gb357 ≠ gb359)); have n10_ := Aside0.mk ((by rw [hg]; exact Nat.ne_of_gt (blk_lt (g := gb357) (o := .cells #[u358000, .int .i64 x358001_2] 24 (0, 0)) (by (with_reducible repeat (first | refine blk_drewN ?_ _ | refine blk_drew ?_ | refine blk_alloc ?_ _)); exact BK357.out)) : gb359 ≠ gb357)); clear HO_358000; clear BK353; clear BK357; clear HB; have HO_358000 := n0_; have BK353 := n1_; have BK357 := n2_; have HB := n3_; have BK359 := n4_; have GW359 := n5_; have GE359 := n6_; have NB353_359 := n7_; have NB359_353 := n8_; have NB357_359 := n9_; have NB359_357 := n10_; clear n0_ n1_ n2_ n3_ n4_ n5_ n6_ n7_ n8_ n9_ n10_; clear hb hbox hg; have hnb27 := NB359_353.out; have hnc27 := NB353_359.out; have hnb28 := NB359_357.out; have hnc28 := NB357_359.out; have hcz29_0 : w26.cell? ⟨gb359, 0, none⟩ = some (.slice none 0 0) := (blk_cell BK359.out 0).trans rfl; have hcz29_1 : w26.cell? ⟨gb359, 1, none⟩ = some (.int .i64 0) := (blk_cell BK359.out 1).trans rfl; have hfz29_0 := blk_frozen BK359.out 0; have hfz29_1 := blk_frozen BK359.out 1))
          (try simp only [Act.put, List.setIfInBounds_toArray, List.set_cons_zero, List.set_cons_succ])
          go_loopg [11] k2 (fun kq v11 w' => ∃ (x11_3 : Int) (x358000_3 : List Int) (x358001_3 : Int) (u358000 : Value), v11 = .int .i64 x11_3 ∧ Aside0 (bits_Join.l2 kq x11_3 l0 (l0.length : Int) x36_2 x358000_3 x358001_3 ((rd_T24 l0 x36_2).f0) ((rd_T24 l0 x36_2).f1) = some (r1, r2, r3)) ∧ Aside0 (kq ≤ k2) ∧ Aside0 (Kd.R (Kd.int .u8) 5 w' w.heap.size (fun _ => True) u358000 x358000_3) ∧ Aside0 (w'.heap[gb353]? = some (.cells #[(.slice none 0 0), .int .i64 x354001_1] 24 (0, 0))) ∧ Aside0 (w'.heap[gb357]? = some (.cells #[u358000, .int .i64 x358001_3] 24 (0, 0))) ∧ Aside0 (w'.heap[gb359]? = some (.cells #[(.slice A358_0 ((rd_T24 l0 x36_2).f0).length c358_0), .int .i64 ((rd_T24 l0 x36_2).f1)] 24 (0, 0))) ∧ Aside0 (Below w.heap.size w w'))
          case atStart => exact ⟨(0), (x358000_2), (x358001_2), (u358000), (by first | rfl | (simp; done) | (simp [*]; done)), H', ⟨Nat.le_refl _⟩, ⟨by (with_reducible repeat (first | apply Kd.R_alloc | apply Kd.R_drewN | apply Kd.R_drew)); exact Kd.R_mono (Kd.R_far (p := ⟨gb359, 1, none⟩) (Kd.R_far (p := ⟨gb359, 0, none⟩) (Kd.R_types HO_358000.out BK359.out (by decide)) (fun _ hk => hk.2) (.slice A358_0 ((rd_T24 l0 x36_2).f0).length c358_0)) (fun _ hk => hk.2) (.int .i64 ((rd_T24 l0 x36_2).f1))) (fun _ hk => trivial)⟩, ⟨by (with_reducible repeat (first | refine blk_drewN ?_ _ | refine blk_drew ?_ | refine blk_alloc ?_ _)); refine blk_far ?_ NB353_359.out _; (with_reducible repeat (first | refine blk_drewN ?_ _ | refine blk_drew ?_ | refine blk_alloc ?_ _)); refine blk_far ?_ NB353_359.out _; (with_reducible repeat (first | refine blk_drewN ?_ _ | refine blk_drew ?_ | refine blk_alloc ?_ _)); exact BK353.out⟩, ⟨by (with_reducible repeat (first | refine blk_drewN ?_ _ | refine blk_drew ?_ | refine blk_alloc ?_ _)); refine blk_far ?_ NB357_359.out _; (with_reducible repeat (first | refine blk_drewN ?_ _ | refine blk_drew ?_ | refine blk_alloc ?_ _)); refine blk_far ?_ NB357_359.out _; (with_reducible repeat (first | refine blk_drewN ?_ _ | refine blk_drew ?_ | refine blk_alloc ?_ _)); exact BK357.out⟩, ⟨by (with_reducible repeat (first | refine blk_drewN ?_ _ | refine blk_drew ?_ | refine blk_alloc ?_ _)); refine blk_put (cs := #[.slice A358_0 ((rd_T24 l0 x36_2).f0).length c358_0, .int .i64 0]) ?_ 1 _ rfl; (with_reducible repeat (first | refine blk_drewN ?_ _ | refine blk_drew ?_ | refine blk_alloc ?_ _)); refine blk_put (cs := #[.slice none 0 0, .int .i64 0]) ?_ 0 _ rfl; (with_reducible repeat (first | refine blk_drewN ?_ _ | refine blk_drew ?_ | refine blk_alloc ?_ _)); exact BK359.out⟩, ⟨by repeat (first | (with_reducible first | exact HB.out | apply below_alloc | apply pw_below_drewN | apply below_drew1 | refine below_set ?_ GE353.out | refine below_set ?_ GE357.out | refine below_set ?_ GE359.out) | exact HB.out)⟩⟩
          case round =>
           clear H'
           try clear c1
           try clear c2
           try clear p2
           try clear c3
           try clear c3b0
           try clear p3
           try clear q3
           try clear hx3
           try clear c4
           try clear c4b0
           try clear c5
           try clear c5b0
           try clear p6
           try clear c7
           try clear c7b0
           try clear c7b1
           try clear c9
           try clear c14
           try clear c18
           try clear c18b0
           try clear c19
           try clear c21
           try clear c23
           try clear c23b0
           try clear c24
           try clear c24b0
           try clear c25
           try clear c25b0
           try clear c27
           try clear c28
           try clear hcz10_0
           try clear hcz10_1
           try clear hcz12_0
           try clear hcz12_1
           try clear hcz15_0
           try clear hcz15_1
           try clear hcz17_0
           try clear hcz17_1
           try clear hcz19_0
           try clear hcz19_1
           try clear hcz22_0
           try clear hcz22_1
           try clear hcz29_0
           try clear hcz29_1
           try clear hfz10_0
           try clear hfz10_1
           try clear hfz12_0
           try clear hfz12_1
           try clear hfz15_0
           try clear hfz15_1
           try clear hfz17_0
           try clear hfz17_1
           try clear hfz19_0
           try clear hfz19_1
           try clear hfz22_0
           try clear hfz22_1
           try clear hfz29_0
           try clear hfz29_1
           try clear hx354_0
           try clear hx354_1
           try clear hx358_0
           try clear hx358_1
           try clear p2
           try clear p3
           try clear p354
           try clear p358
           try clear p6
           try clear q3
           try clear q354
           try clear q358
           obtain ⟨x11_3, x358000_3, x358001_3, u358000, rfl, HA, HK3, HO_358000, BK353, BK357, BK359, HB⟩ := hrel
           cases gk with
           | zero => exact absurd HA.out (by simp [bits_Join.l2])
           | succ k3 =>
            have H := HA.out
            clear HA
            simp only [bits_Join.l2] at H
            by_cases c30 : x11_3 < ((rd_T24 l0 x36_2).f1)
            ·rw [if_pos c30] at H
             have c30b0 : decide (x11_3 < ((rd_T24 l0 x36_2).f1)) = true := decide_eq_true c30
             clear c30
             obtain ⟨ji31, hji31⟩ : ∃ j_ : Int, (mn 8 (wrap64 (((rd_T24 l0 x36_2).f1) - x11_3))) = j_ := ⟨_, rfl⟩
             replace H : ((bits_take.f k3 ((rd_T24 l0 x36_2).f0) ((rd_T24 l0 x36_2).f1) x11_3 (ji31)).bind fun t360 => ((bits_add.f k3 x358000_3 x358001_3 t360 (ji31)).bind fun bt361 => (bits_Join.l2 k3 (wrap64 (x11_3 + 8)) l0 (l0.length : Int) x36_2 bt361.1 bt361.2 ((rd_T24 l0 x36_2).f0) ((rd_T24 l0 x36_2).f1)))) = some (r1, r2, r3) := by first | (rw [hji31] at H; exact H) | (simp only [hji31] at H ⊢; exact H)
             have hji31_ : (if (wrap64 (((rd_T24 l0 x36_2).f1) - x11_3)) < 8 then (wrap64 (((rd_T24 l0 x36_2).f1) - x11_3)) else 8) = ji31 := hji31
             replace H := Option.bind_eq_some_iff.mp H
             obtain ⟨t360, A320, H⟩ := H
             replace H : ((bits_add.f k3 x358000_3 x358001_3 t360 (ji31)).bind fun bt361 => (bits_Join.l2 k3 (wrap64 (x11_3 + 8)) l0 (l0.length : Int) x36_2 bt361.1 bt361.2 ((rd_T24 l0 x36_2).f0) ((rd_T24 l0 x36_2).f1))) = some (r1, r2, r3) := H
             have A32 := Aside0.mk A320
             clear A320
             replace H := Option.bind_eq_some_iff.mp H
             obtain ⟨⟨t361, t364⟩, A330, H⟩ := H
             replace H : (bits_Join.l2 k3 (wrap64 (x11_3 + 8)) l0 (l0.length : Int) x36_2 t361 t364 ((rd_T24 l0 x36_2).f0) ((rd_T24 l0 x36_2).f1)) = some (r1, r2, r3) := H
             have A33 := Aside0.mk A330
             clear A330
             have H' := Aside0.mk H
             clear H
             have hnb34 := NB359_353.out
             have hnc34 := NB353_359.out
             have hnb35 := NB359_357.out
             have hnc35 := NB357_359.out
             have hcz36_0 : wr.cell? ⟨gb359, 0, none⟩ = some (.slice A358_0 ((rd_T24 l0 x36_2).f0).length c358_0) := (blk_cell BK359.out 0).trans rfl
             have hcz36_1 : wr.cell? ⟨gb359, 1, none⟩ = some (.int .i64 ((rd_T24 l0 x36_2).f1)) := (blk_cell BK359.out 1).trans rfl
             have hfz36_0 := blk_frozen BK359.out 0
             have hfz36_1 := blk_frozen BK359.out 1
             try go_wp2
             have n0_ := Aside0.mk (Kd.R_drew HO_358000.out)
             have n1_ := Aside0.mk (blk_drew BK353.out)
             have n2_ := Aside0.mk (blk_drew BK357.out)
             have n3_ := Aside0.mk (blk_drew BK359.out)
             have n4_ := Aside0.mk (below_drew1 HB.out)
             clear HO_358000
             clear BK353
             clear BK357
             clear BK359
             clear HB
             have HO_358000 := n0_
             have BK353 := n1_
             have BK357 := n2_
             have BK359 := n3_
             have HB := n4_
             clear n0_ n1_ n2_ n3_ n4_
             refine start_ (n := 8) (S := fun w' => w'.cell? ⟨gb357, 0, none⟩ = some (u358000) ∧ w'.cell? ⟨gb357, 1, none⟩ = some (.int .i64 x358001_3) ∧ w'.cell? ⟨gb359, 0, none⟩ = some (.slice A358_0 ((rd_T24 l0 x36_2).f0).length c358_0) ∧ w'.cell? ⟨gb359, 1, none⟩ = some (.int .i64 ((rd_T24 l0 x36_2).f1))) (ds := [7]) #[false, false, false, false, false, false, false, false] (by kernel_rfl) rfl rfl ⟨(blk_cell BK357.out 0).trans rfl, (blk_cell BK357.out 1).trans rfl, (blk_cell BK359.out 0).trans rfl, (blk_cell BK359.out 1).trans rfl⟩ (fun hHeld => ?_); refine with_tabW bits_Join.tab20 bits_Join.bits20 (fun HT_ HW_ => ?_)
             generalize wr.drew = w37 at HO_358000 BK353 BK357 BK359 HB hHeld ⊢
             refine pure_ (i := 2) (N := some 53) (v := ?_) (a' := ?_) #[false, false, true, false, false, false, false, false] rfl rfl (any_of HT_.out (by kernel_rfl)) (fun _ _ _ h => h) (Or.inl ⟨by rfl, ?_⟩) ?_ ?_
             rotate_left
             ·intro w'
              go_simp
              with_reducible rfl
             rotate_left
             ·simp only [Act.put, List.setIfInBounds_toArray, List.set_cons_zero, List.set_cons_succ, i64_w, i32_w]
              rfl
             refine pure_ (i := 3) (N := some 54) (v := ?_) (a' := ?_) #[false, false, true, true, false, false, false, false] rfl rfl (any_of HT_.out (by kernel_rfl)) (fun _ _ _ h => h) (Or.inl ⟨by rfl, ?_⟩) ?_ ?_
             rotate_left
             ·intro w'
              go_simp
              with_reducible rfl
             rotate_left
             ·simp only [Act.put, List.setIfInBounds_toArray, List.set_cons_zero, List.set_cons_succ, i64_w, i32_w]
              rfl
             refine pure_ (i := 5) (N := some 56) (v := ?_) (a' := ?_) #[false, false, true, true, false, true, false, false] rfl rfl (any_of HT_.out (by kernel_rfl)) (fun _ _ _ h => h) (Or.inl ⟨by rfl, ?_⟩) ?_ ?_
             rotate_left
             ·intro w'
              go_simp
              with_reducible rfl
             rotate_left
             ·simp only [Act.put, List.setIfInBounds_toArray, List.set_cons_zero, List.set_cons_succ, i64_w, i32_w]
              rfl
             refine take_ (i := 0) (N := some 51) (v := ?_) (a' := ?_) #[true, false, true, true, false, true, false, false] rfl rfl (take_ofW HT_.out HW_.out (by kernel_rfl)) (fun _ _ _ h => h) (Or.inl ⟨by rfl, ?_⟩) hHeld ?_ ?_
             rotate_left
             ·rintro w' ⟨s0, s1, s2, s3⟩
              go_simp
              with_reducible rfl
             rotate_left
             ·simp only [Act.put, List.setIfInBounds_toArray, List.set_cons_zero, List.set_cons_succ, i64_w, i32_w]
              rfl
             refine take_ (i := 1) (N := some 52) (v := ?_) (a' := ?_) #[true, true, true, true, false, true, false, false] rfl rfl (take_ofW HT_.out HW_.out (by kernel_rfl)) (fun _ _ _ h => h) (Or.inl ⟨by rfl, ?_⟩) hHeld ?_ ?_
             rotate_left
             ·rintro w' ⟨s0, s1, s2, s3⟩
              go_simp
              with_reducible rfl
             rotate_left
             ·simp only [Act.put, List.setIfInBounds_toArray, List.set_cons_zero, List.set_cons_succ, i64_w, i32_w]
              rfl
             refine one_ (i := 4) (N := some 55) #[true, true, true, true, true, true, false, false] rfl rfl (one_of HT_.out (by kernel_rfl)) (by decide) (fun K hK => ?_)
             refine goes_ Try.func35 (by kernel_rfl) rfl #[.agg #[.slice A358_0 ((rd_T24 l0 x36_2).f0).length c358_0, .int .i64 ((rd_T24 l0 x36_2).f1)], .int .i64 x11_3, .int .i64 ji31] (by rfl) rfl rfl (by (try simp only [List.map_toArray, List.map_cons, List.map_nil]); first | done | (simp only [hji31]; rfl) | rfl | (simp only [List.length_drop, List.length_take]; rfl)) ?_
             with_reducible refine (bits_take.calls k3 _ _ ((rd_T24 l0 x36_2).f0) ((rd_T24 l0 x36_2).f1) x11_3 ji31 t360 _ ?side1 ?side2 A32.out).mono ?_
             (case side1 => repeat (first | exact (Kd.C_below HR358_0.out HB.out) | (with_reducible refine Kd.C_alloc ?_ _) | (with_reducible refine Kd.C_drewN ?_ _) | (with_reducible refine Kd.C_drew ?_)))
             (case side2 => exact HC358_0.out)
             rintro e w38 ⟨rfl, hb⟩
             refine ⟨_, rfl, ?_⟩
             have n0_ := Aside0.mk (Kd.R_below (by (with_reducible repeat (first | apply Kd.R_alloc | apply Kd.R_drewN | apply Kd.R_drew)); exact HO_358000.out) hb)
             have n1_ := Aside0.mk (blk_below (g := gb353) (o := .cells #[.slice none 0 0, .int .i64 x354001_1] 24 (0, 0)) (by (with_reducible repeat (first | refine blk_drewN ?_ _ | refine blk_drew ?_ | refine blk_alloc ?_ _)); exact BK353.out) hb)
             have n2_ := Aside0.mk (blk_below (g := gb357) (o := .cells #[u358000, .int .i64 x358001_3] 24 (0, 0)) (by (with_reducible repeat (first | refine blk_drewN ?_ _ | refine blk_drew ?_ | refine blk_alloc ?_ _)); exact BK357.out) hb)
             have n3_ := Aside0.mk (blk_below (g := gb359) (o := .cells #[.slice A358_0 ((rd_T24 l0 x36_2).f0).length c358_0, .int .i64 ((rd_T24 l0 x36_2).f1)] 24 (0, 0)) (by (with_reducible repeat (first | refine blk_drewN ?_ _ | refine blk_drew ?_ | refine blk_alloc ?_ _)); exact BK359.out) hb)
             have n4_ := Aside0.mk (below_step (by repeat (first | (with_reducible first | exact HB.out | apply below_alloc | apply pw_below_drewN | apply below_drew1 | refine below_set ?_ GE353.out | refine below_set ?_ GE357.out | refine below_set ?_ GE359.out) | exact HB.out)) hb)
             clear HO_358000
             clear BK353
             clear BK357
             clear BK359
             clear HB
             have HO_358000 := n0_
             have BK353 := n1_
             have BK357 := n2_
             have BK359 := n3_
             have HB := n4_
             clear n0_ n1_ n2_ n3_ n4_
             (try clear hb)
             (try clear hb2)
             (try clear hk)
             (try clear hi)
             obtain ⟨Ao39, co39, eo39⟩ := Kd.R_slice HO_358000.out
             (first | subst eo39 | (injection eo39 with f1_ f2_ f3_; have f4_ := f1_.symm; have f5_ := f3_.symm; clear f1_ f2_ f3_; subst f4_; subst f5_))
             refine hK.out _ _ ⟨(blk_cell BK357.out 0).trans rfl, (blk_cell BK357.out 1).trans rfl, (blk_cell BK359.out 0).trans rfl, (blk_cell BK359.out 1).trans rfl⟩ (fun hHeld => ?_)
             clear hK K
             refine norm_ (a' := ?_) ?_ ?_
             rotate_left
             ·show Act.put _ (some 55) _ = _
              simp only [Act.put, List.setIfInBounds_toArray, List.set_cons_zero, List.set_cons_succ, i64_w, i32_w]
              rfl
             refine one_ (i := 6) (N := some 57) #[true, true, true, true, true, true, true, false] rfl rfl (one_of HT_.out (by kernel_rfl)) (by decide) (fun K hK => ?_)
             refine goes_ Try.func30 (by kernel_rfl) rfl #[.agg #[.slice Ao39 x358000_3.length co39, .int .i64 x358001_3], .int .u64 t360, .int .i64 ji31] (by rfl) rfl rfl (by (try simp only [List.map_toArray, List.map_cons, List.map_nil]); first | done | (simp only [hji31]; rfl) | rfl | (simp only [List.length_drop, List.length_take]; rfl)) ?_
             with_reducible refine (bits_add.calls k3 (fun k_ => some k_ = (.slice Ao39 x358000_3.length co39 : Value).ownBlock) (.slice Ao39 x358000_3.length co39) x358000_3 x358001_3 t360 ji31 t361 t364 w _ ?side1 ?side2 A33.out).mono ?_
             (case side1 => repeat (first | (with_reducible first | exact HB.out | apply below_alloc | apply pw_below_drewN | apply below_drew1 | refine below_set ?_ GE353.out | refine below_set ?_ GE357.out | refine below_set ?_ GE359.out) | exact HB.out))
             (case side2 => exact Kd.R_tight rfl HO_358000.out)
             rintro e w40 ⟨v362, rfl, ho0, hb, hkp⟩
             refine ⟨_, rfl, ?_⟩
             have n0_ := Aside0.mk (blk_kept (by (with_reducible repeat (first | refine blk_drewN ?_ _ | refine blk_drew ?_ | refine blk_alloc ?_ _)); exact BK353.out) hkp (fun hs_ => (fun e_ => (Kd.R_ne HO_358000.out BK353.out (by decide)) e_) hs_))
             have n1_ := Aside0.mk (blk_kept (by (with_reducible repeat (first | refine blk_drewN ?_ _ | refine blk_drew ?_ | refine blk_alloc ?_ _)); exact BK357.out) hkp (fun hs_ => (fun e_ => (Kd.R_ne HO_358000.out BK357.out (by decide)) e_) hs_))
             have n2_ := Aside0.mk (blk_kept (by (with_reducible repeat (first | refine blk_drewN ?_ _ | refine blk_drew ?_ | refine blk_alloc ?_ _)); exact BK359.out) hkp (fun hs_ => (fun e_ => (Kd.R_ne HO_358000.out BK359.out (by decide)) e_) hs_))
             have n3_ := Aside0.mk (Kd.R_mono (ok' := fun k_ => True) ho0 (fun k_ hk_ => trivial))
             have n4_ := Aside0.mk (hb)
             clear BK353
             clear BK357
             clear BK359
             clear HB
             clear HO_358000
             have BK353 := n0_
             have BK357 := n1_
             have BK359 := n2_
             have HO363 := n3_
             have HB := n4_
             clear n0_ n1_ n2_ n3_ n4_
             (try clear hb)
             (try clear hkp)
             (try clear ho0)
             obtain ⟨Ao41, co41, eo41⟩ := Kd.R_slice HO363.out
             (first | subst eo41 | (injection eo41 with f1_ f2_ f3_; have f4_ := f1_.symm; have f5_ := f3_.symm; clear f1_ f2_ f3_; subst f4_; subst f5_))
             refine hK.out _ _ ⟨(blk_cell BK357.out 0).trans rfl, (blk_cell BK357.out 1).trans rfl, (blk_cell BK359.out 0).trans rfl, (blk_cell BK359.out 1).trans rfl⟩ (fun hHeld => ?_)
             clear hK K
             refine norm_ (a' := ?_) ?_ ?_
             rotate_left
             ·show Act.put _ (some 57) _ = _
              simp only [Act.put, List.setIfInBounds_toArray, List.set_cons_zero, List.set_cons_succ, i64_w, i32_w]
              rfl
             refine last_ (i := 7) (N := none) #[true, true, true, true, true, true, true, true] rfl rfl (one_of HT_.out (by kernel_rfl)) (by decide) (fun K hK => ?_)
             have hs42 : w40.cell? ⟨gb357, 0, none⟩ = some (.slice Ao39 x358000_3.length co39) := (blk_cell BK357.out 0).trans rfl
             have hfs42 := blk_frozen BK357.out 0
             have hns42_0 := NB353_357.out
             have hns42_2 := NB359_357.out
             have hms42_0 := NB357_353.out
             have hms42_2 := NB357_359.out
             have hs43 : w40.cell? ⟨gb357, 1, none⟩ = some (.int .i64 x358001_3) := (blk_cell BK357.out 1).trans rfl
             have hfs43 := blk_frozen BK357.out 1
             have hns43_0 := NB353_357.out
             have hns43_2 := NB359_357.out
             have hms43_0 := NB357_353.out
             have hms43_2 := NB357_359.out
             refine skip_ (w1 := ?_) (by rfl) rfl ?_ ?_
             rotate_left
             ·go_simp
              rfl
             refine hK.out _ _ ?_
             clear hK K
             refine done_ (done_of HT_.out (by kernel_rfl)) ?_
             try go_wp2
             go_roundg k3
             case measure => have := HK1.out; have := HK2.out; have := HK3.out; omega
             case rel => exact ⟨(wrap64 (x11_3 + 8)), (t361), (t364), (.slice Ao41 t361.length co41), (by first | rfl | (simp; done) | (simp [*]; done)), H', ⟨by have := HK1.out; have := HK2.out; have := HK3.out; omega⟩, ⟨by (with_reducible repeat (first | apply Kd.R_alloc | apply Kd.R_drewN | apply Kd.R_drew)); exact Kd.R_mono (Kd.R_far (p := ⟨gb357, 1, none⟩) (Kd.R_far (p := ⟨gb357, 0, none⟩) (Kd.R_types HO363.out BK357.out (by decide)) (fun _ hk => hk.2) (.slice Ao41 t361.length co41)) (fun _ hk => hk.2) (.int .i64 t364)) (fun _ hk => trivial)⟩, ⟨by (with_reducible repeat (first | refine blk_drewN ?_ _ | refine blk_drew ?_ | refine blk_alloc ?_ _)); refine blk_far ?_ NB353_357.out _; (with_reducible repeat (first | refine blk_drewN ?_ _ | refine blk_drew ?_ | refine blk_alloc ?_ _)); refine blk_far ?_ NB353_357.out _; (with_reducible repeat (first | refine blk_drewN ?_ _ | refine blk_drew ?_ | refine blk_alloc ?_ _)); exact BK353.out⟩, ⟨by (with_reducible repeat (first | refine blk_drewN ?_ _ | refine blk_drew ?_ | refine blk_alloc ?_ _)); refine blk_put (cs := #[.slice Ao41 t361.length co41, .int .i64 x358001_3]) ?_ 1 _ rfl; (with_reducible repeat (first | refine blk_drewN ?_ _ | refine blk_drew ?_ | refine blk_alloc ?_ _)); refine blk_put (cs := #[.slice Ao39 x358000_3.length co39, .int .i64 x358001_3]) ?_ 0 _ rfl; (with_reducible repeat (first | refine blk_drewN ?_ _ | refine blk_drew ?_ | refine blk_alloc ?_ _)); exact BK357.out⟩, ⟨by (with_reducible repeat (first | refine blk_drewN ?_ _ | refine blk_drew ?_ | refine blk_alloc ?_ _)); refine blk_far ?_ NB359_357.out _; (with_reducible repeat (first | refine blk_drewN ?_ _ | refine blk_drew ?_ | refine blk_alloc ?_ _)); refine blk_far ?_ NB359_357.out _; (with_reducible repeat (first | refine blk_drewN ?_ _ | refine blk_drew ?_ | refine blk_alloc ?_ _)); exact BK359.out⟩, ⟨by repeat (first | (with_reducible first | exact HB.out | apply below_alloc | apply pw_below_drewN | apply below_drew1 | refine below_set ?_ GE353.out | refine below_set ?_ GE357.out | refine below_set ?_ GE359.out) | exact HB.out)⟩⟩
            ·rw [if_neg c30] at H
             have c30b0 : decide (x11_3 < ((rd_T24 l0 x36_2).f1)) = false := decide_eq_false c30
             clear c30
             have H' := Aside0.mk H
             clear H
             have hnb44 := NB359_353.out
             have hnc44 := NB353_359.out
             have hnb45 := NB359_357.out
             have hnc45 := NB357_359.out
             have hcz46_0 : wr.cell? ⟨gb359, 0, none⟩ = some (.slice A358_0 ((rd_T24 l0 x36_2).f0).length c358_0) := (blk_cell BK359.out 0).trans rfl
             have hcz46_1 : wr.cell? ⟨gb359, 1, none⟩ = some (.int .i64 ((rd_T24 l0 x36_2).f1)) := (blk_cell BK359.out 1).trans rfl
             have hfz46_0 := blk_frozen BK359.out 0
             have hfz46_1 := blk_frozen BK359.out 1
             go_wp2
             go_roundg k3
             case measure => have := HK1.out; have := HK2.out; have := HK3.out; omega
             case rel => exact ⟨(wrap64 (x36_2 + 1)), (x358000_3), (x358001_3), (u358000), (by first | rfl | (simp; done) | (simp [*]; done)), H', ⟨by have := HK1.out; have := HK2.out; have := HK3.out; omega⟩, ⟨by (with_reducible repeat (first | apply Kd.R_alloc | apply Kd.R_drewN | apply Kd.R_drew)); exact HO_358000.out⟩, ⟨by (with_reducible repeat (first | refine blk_drewN ?_ _ | refine blk_drew ?_ | refine blk_alloc ?_ _)); exact BK353.out⟩, ⟨by (with_reducible repeat (first | refine blk_drewN ?_ _ | refine blk_drew ?_ | refine blk_alloc ?_ _)); exact BK357.out⟩, ⟨by repeat (first | (with_reducible first | exact HB.out | apply below_alloc | apply pw_below_drewN | apply below_drew1 | refine below_set ?_ GE353.out | refine below_set ?_ GE357.out | refine below_set ?_ GE359.out) | exact HB.out)⟩⟩
         ·rw [if_neg c25] at H
          exact absurd H (by simp)
        ·rw [if_neg c24] at H
         exact absurd H (by simp)
       ·rw [if_neg c23] at H
        have c23b0 : decide (x36_2 < (l0.length : Int)) = false := decide_eq_false c23
        clear c23
        simp only [Option.some.injEq, Prod.mk.injEq] at H
        obtain ⟨rfl, rfl, rfl⟩ := H
        have hnb47 := NB357_353.out
        have hnc47 := NB353_357.out
        have hcz48_0 : wr.cell? ⟨gb357, 0, none⟩ = some (u358000) := (blk_cell BK357.out 0).trans rfl
        have hcz48_1 : wr.cell? ⟨gb357, 1, none⟩ = some (.int .i64 x358001_2) := (blk_cell BK357.out 1).trans rfl
        have hfz48_0 := blk_frozen BK357.out 0
        have hfz48_1 := blk_frozen BK357.out 1
        obtain ⟨Ao49, co49, eo49⟩ := Kd.R_slice HO_358000.out
        subst eo49
        have hcz50_0 : wr.cell? ⟨gb353, 0, none⟩ = some (.slice none 0 0) := (blk_cell BK353.out 0).trans rfl
        have hcz50_1 : wr.cell? ⟨gb353, 1, none⟩ = some (.int .i64 x354001_1) := (blk_cell BK353.out 1).trans rfl
        have hfz50_0 := blk_frozen BK353.out 0
        have hfz50_1 := blk_frozen BK353.out 1
        go_wp2
        refine bodyPost_ret (results_ct rfl _ _ gb353 24 #[.slice Ao49 x358000_2.length co49, .int .i64 x358001_2] (0, 0) _ rfl (by (with_reducible repeat (first | refine blk_drewN ?_ _ | refine blk_drew ?_ | refine blk_alloc ?_ _)); refine blk_put (cs := #[.slice Ao49 x358000_2.length co49, .int .i64 x354001_1]) ?_ 1 _ rfl; (with_reducible repeat (first | refine blk_drewN ?_ _ | refine blk_drew ?_ | refine blk_alloc ?_ _)); refine blk_put (cs := #[.slice none 0 0, .int .i64 x354001_1]) ?_ 0 _ rfl; (with_reducible repeat (first | refine blk_drewN ?_ _ | refine blk_drew ?_ | refine blk_alloc ?_ _)); exact BK353.out) Try.underlying24 rfl (by kernel_rfl)) rfl ?_
        exact ⟨_, by first | rfl | (simp [errW_none, errW_some] <;> rfl) | (simp [*, errW_none, errW_some] <;> rfl), by (with_reducible repeat (first | apply Kd.R_alloc | apply Kd.R_drewN | apply Kd.R_drew)); exact Kd.R_mono (Kd.R_far (p := ⟨gb353, 1, none⟩) (Kd.R_far (p := ⟨gb353, 0, none⟩) (Kd.R_types HO_358000.out BK353.out (by decide)) (fun _ hk => hk.2) (.slice Ao49 x358000_2.length co49)) (fun _ hk => hk.2) (.int .i64 x358001_2)) (fun _ hk => trivial), by repeat (first | (with_reducible first | exact HB.out | apply below_alloc | apply pw_below_drewN | apply below_drew1 | refine below_set ?_ GE353.out | refine below_set ?_ GE357.out) | exact HB.out)⟩

end Go.Proofs.Ytkgcjiaadgnlkaa.PA
-- slim
