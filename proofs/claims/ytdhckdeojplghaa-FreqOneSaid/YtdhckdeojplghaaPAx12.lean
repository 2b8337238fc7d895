-- Written for this claim by this session's own printer (wip/patch_print.py over the kit's print).
import Derived.Test.YtdhckdeojplghaaPAx0
import Derived.Test.YtdhckdeojplghaaPAx1
import Derived.Test.YtdhckdeojplghaaPAx4
import Derived.Test.YtdhckdeojplghaaPAx6
import Derived.Test.YtdhckdeojplghaaPAx7
import Derived.Test.YtdhckdeojplghaaPAx8
import Derived.Test.YtdhckdeojplghaaPAx10
namespace Go.Proofs.Ytdhckdeojplghaa.PA
open Go.RowKit Go.Proofs.YtdhckdeojplghaaW.PrintWords Go.Proofs.YtdhckdeojplghaaW.PrintLast Go.Proofs.YtdhckdeojplghaaW.PrintMore
attribute [local go_sem] max2_int min2_int max_two min_two max_three min_three max_four min_four   -- for this text's walks alone
set_option linter.unusedVariables false
set_option linter.unusedSimpArgs false

/-! ### squelchlaw03_FreqOne: function 7 -/
mutual
def squelchlaw03_FreqOne.l0 : Nat → Bool → Int → List Int → Int → Int → List Int → Option (Bool)
 | 0, _, _, _, _, _, _ => none
 | k + 1, x3, x6, x35, x36, x37, x254000 => if x37 < x36 then (if 0 ≤ x37 then (if x37 < (x35.length : Int) then ((freq_Span.f k x254000 x37).bind fun bt259 => (if bt259.1 = x6 then (if bt259.2.1 = (wrap64 (x6 + (rd x35 x37))) then (squelchlaw03_FreqOne.j1 k x3 x37 bt259.1 bt259.2.1 x35 x36 x37 (bt259.2.2 != 0) x254000) else (squelchlaw03_FreqOne.j1 k x3 x37 bt259.1 bt259.2.1 x35 x36 x37 true x254000)) else (squelchlaw03_FreqOne.j1 k x3 x37 bt259.1 bt259.2.1 x35 x36 x37 true x254000))) else (none)) else (none)) else ((freq_Find.f k x254000 x6).bind fun bt254 => (if x3 = true then ((freq_Total.f k x254000).bind fun t256 => (if t256 = x6 then (if bt254.2 = 1 then ((freq_Same.f k x254000 x254000).bind fun t257 => (some t257)) else (some false)) else (some false))) else (some false)))
def squelchlaw03_FreqOne.j1 : Nat → Bool → Int → Int → Int → List Int → Int → Int → Bool → List Int → Option (Bool)
 | 0, _, _, _, _, _, _, _, _, _ => none
 | k + 1, x3, x7, x9, x10, x35, x36, x37, x62, x254000 => if x62 = true then (some false) else ((some (([x9, wrap64 (Int.tdiv (wrap64 (x9 + x10)) 2), wrap64 (x10 - 1)] : List Int) : List Int)).bind fun y262 => (squelchlaw03_FreqOne.l1 k x3 x7 x10 x35 x36 x37 y262 (y262.length : Int) 0 x254000))
def squelchlaw03_FreqOne.l1 : Nat → Bool → Int → Int → List Int → Int → Int → List Int → Int → Int → List Int → Option (Bool)
 | 0, _, _, _, _, _, _, _, _, _, _ => none
 | k + 1, x3, x7, x10, x35, x36, x37, x70, x71, x72, x254000 => if x72 < x71 then (if 0 ≤ x72 then (if x72 < (x70.length : Int) then ((freq_Find.f k x254000 (rd x70 x72)).bind fun bt266 => (if bt266.1 = x7 then (if bt266.2 = 0 then (squelchlaw03_FreqOne.l1 k x3 x7 x10 x35 x36 x37 x70 x71 (wrap64 (x72 + 1)) x254000) else (some false)) else (some false))) else (none)) else (none)) else (squelchlaw03_FreqOne.l0 k x3 x10 x35 x36 (wrap64 (x37 + 1)) x254000)
end
def squelchlaw03_FreqOne.f (k : Nat) (l0 : List Int) : Option (Bool) := (squelchlaw03_live.f k).bind fun t248 => (if t248 = true then ((freq_New.f k l0).bind fun bt249 => (if bt249.2 = 0 then (squelchlaw03_FreqOne.l0 k t248 0 l0 (l0.length : Int) 0 bt249.1) else (some ((bt249.1.length : Int) == 0)))) else (some false))
theorem squelchlaw03_FreqOne.mono_l : ∀ k, (∀ y0 y1 y2 y3 y4 y5, LeO (squelchlaw03_FreqOne.l0 k y0 y1 y2 y3 y4 y5) (squelchlaw03_FreqOne.l0 (k + 1) y0 y1 y2 y3 y4 y5)) ∧ (∀ y0 y1 y2 y3 y4 y5 y6 y7 y8, LeO (squelchlaw03_FreqOne.j1 k y0 y1 y2 y3 y4 y5 y6 y7 y8) (squelchlaw03_FreqOne.j1 (k + 1) y0 y1 y2 y3 y4 y5 y6 y7 y8)) ∧ (∀ y0 y1 y2 y3 y4 y5 y6 y7 y8 y9, LeO (squelchlaw03_FreqOne.l1 k y0 y1 y2 y3 y4 y5 y6 y7 y8 y9) (squelchlaw03_FreqOne.l1 (k + 1) y0 y1 y2 y3 y4 y5 y6 y7 y8 y9))
 | 0 => ⟨fun _ _ _ _ _ _ r h => by simp [squelchlaw03_FreqOne.l0] at h, fun _ _ _ _ _ _ _ _ _ r h => by simp [squelchlaw03_FreqOne.j1] at h, fun _ _ _ _ _ _ _ _ _ _ r h => by simp [squelchlaw03_FreqOne.l1] at h⟩
 | k + 1 => by
  obtain ⟨ih0, ih1, ih2⟩ := squelchlaw03_FreqOne.mono_l k
  refine ⟨?_, ?_, ?_⟩
  ·intro y0 y1 y2 y3 y4 y5
   unfold squelchlaw03_FreqOne.l0
   repeat' first
   | (with_reducible exact ih0 _ _ _ _ _ _)
   | (with_reducible exact ih1 _ _ _ _ _ _ _ _ _)
   | (with_reducible exact ih2 _ _ _ _ _ _ _ _ _ _)
   | (with_reducible exact freq_Find.mono _ _ _)
   | (with_reducible exact freq_New.mono _ _)
   | (with_reducible exact freq_Same.mono _ _ _)
   | (with_reducible exact freq_Span.mono _ _ _)
   | (with_reducible exact freq_Total.mono _ _)
   | (with_reducible exact squelchlaw03_live.mono _)
   | (with_reducible exact LeO.refl _)
   | (with_reducible exact LeO.none _)
   | (with_reducible refine LeO.ite ?_ ?_)
   | (with_reducible refine LeO.bind ?_ (fun _ => ?_))
   | exact ih0 _ _ _ _ _ _
   | exact ih1 _ _ _ _ _ _ _ _ _
   | exact ih2 _ _ _ _ _ _ _ _ _ _
   | exact freq_Find.mono _ _ _
   | exact freq_New.mono _ _
   | exact freq_Same.mono _ _ _
   | exact freq_Span.mono _ _ _
   | exact freq_Total.mono _ _
   | exact squelchlaw03_live.mono _
   | exact LeO.none _
   | refine LeO.ite ?_ ?_
   | refine LeO.bind ?_ (fun _ => ?_)
  ·intro y0 y1 y2 y3 y4 y5 y6 y7 y8
   unfold squelchlaw03_FreqOne.j1
   repeat' first
   | (with_reducible exact ih0 _ _ _ _ _ _)
   | (with_reducible exact ih1 _ _ _ _ _ _ _ _ _)
   | (with_reducible exact ih2 _ _ _ _ _ _ _ _ _ _)
   | (with_reducible exact freq_Find.mono _ _ _)
   | (with_reducible exact freq_New.mono _ _)
   | (with_reducible exact freq_Same.mono _ _ _)
   | (with_reducible exact freq_Span.mono _ _ _)
   | (with_reducible exact freq_Total.mono _ _)
   | (with_reducible exact squelchlaw03_live.mono _)
   | (with_reducible exact LeO.refl _)
   | (with_reducible exact LeO.none _)
   | (with_reducible refine LeO.ite ?_ ?_)
   | (with_reducible refine LeO.bind ?_ (fun _ => ?_))
   | exact ih0 _ _ _ _ _ _
   | exact ih1 _ _ _ _ _ _ _ _ _
   | exact ih2 _ _ _ _ _ _ _ _ _ _
   | exact freq_Find.mono _ _ _
   | exact freq_New.mono _ _
   | exact freq_Same.mono _ _ _
   | exact freq_Span.mono _ _ _
   | exact freq_Total.mono _ _
   | exact squelchlaw03_live.mono _
   | exact LeO.none _
   | refine LeO.ite ?_ ?_
   | refine LeO.bind ?_ (fun _ => ?_)
  ·intro y0 y1 y2 y3 y4 y5 y6 y7 y8 y9
   unfold squelchlaw03_FreqOne.l1
   repeat' first
   | (with_reducible exact ih0 _ _ _ _ _ _)
   | (with_reducible exact ih1 _ _ _ _ _ _ _ _ _)
   | (with_reducible exact ih2 _ _ _ _ _ _ _ _ _ _)
   | (with_reducible exact freq_Find.mono _ _ _)
   | (with_reducible exact freq_New.mono _ _)
   | (with_reducible exact freq_Same.mono _ _ _)
   | (with_reducible exact freq_Span.mono _ _ _)
   | (with_reducible exact freq_Total.mono _ _)
   | (with_reducible exact squelchlaw03_live.mono _)
   | (with_reducible exact LeO.refl _)
   | (with_reducible exact LeO.none _)
   | (with_reducible refine LeO.ite ?_ ?_)
   | (with_reducible refine LeO.bind ?_ (fun _ => ?_))
   | exact ih0 _ _ _ _ _ _
   | exact ih1 _ _ _ _ _ _ _ _ _
   | exact ih2 _ _ _ _ _ _ _ _ _ _
   | exact freq_Find.mono _ _ _
   | exact freq_New.mono _ _
   | exact freq_Same.mono _ _ _
   | exact freq_Span.mono _ _ _
   | exact freq_Total.mono _ _
   | exact squelchlaw03_live.mono _
   | exact LeO.none _
   | refine LeO.ite ?_ ?_
   | refine LeO.bind ?_ (fun _ => ?_)
theorem squelchlaw03_FreqOne.mono : ∀ a0 k, LeO (squelchlaw03_FreqOne.f k a0) (squelchlaw03_FreqOne.f (k + 1) a0) := by
 intro a0 k
 obtain ⟨ih0, ih1, ih2⟩ := squelchlaw03_FreqOne.mono_l k
 unfold squelchlaw03_FreqOne.f
 repeat' first
   | (with_reducible exact ih0 _ _ _ _ _ _)
   | (with_reducible exact ih1 _ _ _ _ _ _ _ _ _)
   | (with_reducible exact ih2 _ _ _ _ _ _ _ _ _ _)
   | (with_reducible exact freq_Find.mono _ _ _)
   | (with_reducible exact freq_New.mono _ _)
   | (with_reducible exact freq_Same.mono _ _ _)
   | (with_reducible exact freq_Span.mono _ _ _)
   | (with_reducible exact freq_Total.mono _ _)
   | (with_reducible exact squelchlaw03_live.mono _)
   | (with_reducible exact LeO.refl _)
   | (with_reducible exact LeO.none _)
   | (with_reducible refine LeO.ite ?_ ?_)
   | (with_reducible refine LeO.bind ?_ (fun _ => ?_))
   | exact ih0 _ _ _ _ _ _
   | exact ih1 _ _ _ _ _ _ _ _ _
   | exact ih2 _ _ _ _ _ _ _ _ _ _
   | exact freq_Find.mono _ _ _
   | exact freq_New.mono _ _
   | exact freq_Same.mono _ _ _
   | exact freq_Span.mono _ _ _
   | exact freq_Total.mono _ _
   | exact squelchlaw03_live.mono _
   | exact LeO.none _
   | refine LeO.ite ?_ ?_
   | refine LeO.bind ?_ (fun _ => ?_)
set_option maxHeartbeats 8000000 in
set_option maxRecDepth 100000 in
theorem squelchlaw03_FreqOne.calls (k : Nat) (A0 : Option Addr) (c0 : Nat) (l0 : List Int) (r : Bool) (w : World) (hr0 : Kd.C (Kd.int .i64) w A0 l0.length l0) (hc0 : l0.length ≤ c0) (h : squelchlaw03_FreqOne.f k l0 = some r) (hr_ : r = true) :
  Calls Try.prog 7 #[.slice A0 l0.length c0] w fun e w' => e = .returned (.bool r) ∧ Below w.heap.size w w' := by
 have HR_ := Aside0.mk hr_
 clear hr_
 have hu25 := Try.underlying25
 have HR0 := Aside0.mk hr0
 have HC0 := Aside0.mk hc0
 clear hr0 hc0
 have HB := Aside0.mk (Below.refl w.heap.size w)
 have H : ((squelchlaw03_live.f k).bind fun t248 => (if t248 = true then ((freq_New.f k l0).bind fun bt249 => (if bt249.2 = 0 then (squelchlaw03_FreqOne.l0 k t248 0 l0 (l0.length : Int) 0 bt249.1) else (some ((bt249.1.length : Int) == 0)))) else (some false))) = some r := h
 clear h
 replace H := Option.bind_eq_some_iff.mp H
 obtain ⟨t248, A20, H⟩ := H
 replace H : (if t248 = true then ((freq_New.f k l0).bind fun bt249 => (if bt249.2 = 0 then (squelchlaw03_FreqOne.l0 k t248 0 l0 (l0.length : Int) 0 bt249.1) else (some ((bt249.1.length : Int) == 0)))) else (some false)) = some r := H
 have A2 := Aside0.mk A20
 clear A20
 by_cases c3 : t248 = true
 ·subst c3
  have H1 : ((freq_New.f k l0).bind fun bt249 => (if bt249.2 = 0 then (squelchlaw03_FreqOne.l0 k true 0 l0 (l0.length : Int) 0 bt249.1) else (some ((bt249.1.length : Int) == 0)))) = some r := by rw [if_pos rfl] at H; exact H
  clear H
  have H := H1
  clear H1
  replace H := Option.bind_eq_some_iff.mp H
  obtain ⟨⟨t249, t252⟩, A40, H⟩ := H
  replace H : (if t252 = 0 then (squelchlaw03_FreqOne.l0 k true 0 l0 (l0.length : Int) 0 t249) else (some ((t249.length : Int) == 0))) = some r := H
  have A4 := Aside0.mk A40
  clear A40
  by_cases c5 : t252 = 0
  ·rw [if_pos c5] at H
   have c5b0 : (t252 == 0) = true := beq_iff_eq.mpr c5
   have c5b1 : (t252 != 0) = false := bne_eq_false_iff_eq.mpr c5
   clear c5
   have H' := Aside0.mk H
   clear H
   go_enter Try.func7, Try.ntmps7
   go_wp2_with (first | ((with_reducible refine gate_callee (f := 8) rfl ?_); refine goesL_ (some 18) rfl rfl Try.func8 (by kernel_rfl) rfl #[] rfl (by (try simp only [List.map_toArray, List.map_cons, List.map_nil]); first | done | rfl | (simp only [List.length_drop, List.length_take]; rfl)) ?_; (with_reducible refine (squelchlaw03_live.calls k  true _ A2.out).mono ?_); rintro e w6 ⟨rfl, hb⟩; refine ⟨_, rfl, ?_⟩; have n0_ := Aside0.mk (below_step (by repeat (first | (with_reducible first | exact HB.out | apply below_alloc | apply pw_below_drewN | apply below_drew1) | exact HB.out)) hb); clear HB; have HB := n0_; clear n0_; (try clear hb); (try clear hb2); (try clear hk); (try clear hi)) | ((with_reducible refine gate_callee (f := 12) rfl ?_); refine goesL_ (some 23) rfl rfl Try.func12 (by kernel_rfl) rfl #[.slice A0 l0.length c0] rfl (by (try simp only [List.map_toArray, List.map_cons, List.map_nil]); first | done | rfl | (simp only [List.length_drop, List.length_take]; rfl)) ?_; (with_reducible refine (freq_New.calls k _ _ l0 t249 t252 _ ?side1 ?side2 A4.out).mono ?_); (case side1 => repeat (first | exact (Kd.C_below HR0.out HB.out) | (with_reducible refine Kd.C_alloc ?_ _) | (with_reducible refine Kd.C_drewN ?_ _) | (with_reducible refine Kd.C_drew ?_))); (case side2 => exact HC0.out); rintro e w7 ⟨v250, rfl, ho0, hb⟩; refine ⟨_, rfl, ?_⟩; have n0_ := Aside0.mk (Kd.R_lower ho0 (below_size (by repeat (first | (with_reducible first | exact HB.out | apply below_alloc | apply pw_below_drewN | apply below_drew1) | exact HB.out)))); have n1_ := Aside0.mk (below_step (by repeat (first | (with_reducible first | exact HB.out | apply below_alloc | apply pw_below_drewN | apply below_drew1) | exact HB.out)) hb); clear HB; have HO251 := n0_; have HB := n1_; clear n0_ n1_; (try clear hb); (try clear hb2); (try clear hk); (try clear hi); (try clear ho0)) | ((with_reducible refine gate_dst (N := 4) rfl ?_); (try (refine gate_guard (by rfl) ?_; dsimp only)); refine box_event ?hg (N := 4) ?hd (cs := #[.slice none 0 0]) (t := 25) ?hr ?_; (case hd => rfl); (case hg => rfl); (case hr => first | (go_simp; done) | (go_simp; rfl)); intro gb253 hg w8 hbox hb; have n0_ := Aside0.mk (Kd.R_below (by (with_reducible repeat (first | apply Kd.R_alloc | apply Kd.R_drewN | apply Kd.R_drew)); exact HO251.out) hb); have n1_ := Aside0.mk (below_step (by repeat (first | (with_reducible first | exact HB.out | apply below_alloc | apply pw_below_drewN | apply below_drew1) | exact HB.out)) hb); have n2_ := Aside0.mk (hbox); have n3_ := Aside0.mk ((by rw [hg]; exact (below_size (by repeat (first | (with_reducible first | exact HB.out | apply below_alloc | apply pw_below_drewN | apply below_drew1) | exact HB.out))) : w.heap.size ≤ gb253)); have n4_ := Aside0.mk ((by rw [hg]; exact (below_size (by repeat (first | (with_reducible first | exact HB.out | apply below_alloc | apply pw_below_drewN | apply below_drew1) | exact HB.out))) : w.heap.size ≤ gb253)); clear HO251; clear HB; have HO251 := n0_; have HB := n1_; have BK253 := n2_; have GW253 := n3_; have GE253 := n4_; clear n0_ n1_ n2_ n3_ n4_; clear hb hbox hg; obtain ⟨Ao9, co9, eo9⟩ := Kd.R_slice HO251.out; subst eo9; have hcz10_0 : w8.cell? ⟨gb253, 0, none⟩ = some (.slice none 0 0) := (blk_cell BK253.out 0).trans rfl; have hfz10_0 := blk_frozen BK253.out 0))
   (try simp only [Act.put, List.setIfInBounds_toArray, List.set_cons_zero, List.set_cons_succ])
   go_loopg [6, 37] k (fun kq v6 v37 w' => ∃ (x6_1 : Int) (x37_1 : Int), v6 = .int .i64 x6_1 ∧ v37 = .int .i64 x37_1 ∧ Aside0 (squelchlaw03_FreqOne.l0 kq true x6_1 l0 (l0.length : Int) x37_1 t249 = some r) ∧ Aside0 (kq ≤ k) ∧ Aside0 (Kd.R (Kd.int .i64) 3 w' w.heap.size (fun _ => True) (.slice Ao9 t249.length co9) t249) ∧ Aside0 (w'.heap[gb253]? = some (.cells #[(.slice Ao9 t249.length co9)] 25 (0, 0))) ∧ Aside0 (Below w.heap.size w w'))
   case atStart => exact ⟨(0), (0), (by first | rfl | (simp; done) | (simp [*]; done)), (by first | rfl | (simp; done) | (simp [*]; done)), H', ⟨Nat.le_refl _⟩, ⟨by (with_reducible repeat (first | apply Kd.R_alloc | apply Kd.R_drewN | apply Kd.R_drew)); exact Kd.R_mono (Kd.R_far (p := ⟨gb253, 0, none⟩) (Kd.R_types HO251.out BK253.out (by decide)) (fun _ hk => hk.2) (.slice Ao9 t249.length co9)) (fun _ hk => trivial)⟩, ⟨by (with_reducible repeat (first | refine blk_drewN ?_ _ | refine blk_drew ?_ | refine blk_alloc ?_ _)); refine blk_put (cs := #[.slice none 0 0]) ?_ 0 _ rfl; (with_reducible repeat (first | refine blk_drewN ?_ _ | refine blk_drew ?_ | refine blk_alloc ?_ _)); exact BK253.out⟩, ⟨by repeat (first | (with_reducible first | exact HB.out | apply below_alloc | apply pw_below_drewN | apply below_drew1 | refine below_set ?_ GE253.out) | exact HB.out)⟩⟩
   case round =>
    clear H'
    try clear c1
    try clear p2
    try clear c3
    try clear c5
    try clear c5b0
    try clear c5b1
    try clear c7
    try clear c8
    try clear hcz10_0
    try clear hfz10_0
    obtain ⟨x6_1, x37_1, rfl, rfl, HA, HK1, HO_254000, BK253, HB⟩ := hrel
    cases gk with
    | zero => exact absurd HA.out (by simp [squelchlaw03_FreqOne.l0])
    | succ k1 =>
     have H := HA.out
     clear HA
     simp only [squelchlaw03_FreqOne.l0] at H
     by_cases c11 : x37_1 < (l0.length : Int)
     ·rw [if_pos c11] at H
      have c11b0 : decide (x37_1 < (l0.length : Int)) = true := decide_eq_true c11
      clear c11
      by_cases c12 : 0 ≤ x37_1
      ·rw [if_pos c12] at H
       have c12b0 : decide (0 ≤ x37_1) = true := decide_eq_true c12
       clear c12
       by_cases c13 : x37_1 < (l0.length : Int)
       ·rw [if_pos c13] at H
        have c13b0 : decide (x37_1 < (l0.length : Int)) = true := decide_eq_true c13
        clear c13
        replace H := Option.bind_eq_some_iff.mp H
        obtain ⟨⟨t259, t260, t261⟩, A140, H⟩ := H
        replace H : (if t259 = x6_1 then (if t260 = (wrap64 (x6_1 + (rd l0 x37_1))) then (squelchlaw03_FreqOne.j1 k1 true x37_1 t259 t260 l0 (l0.length : Int) x37_1 (t261 != 0) t249) else (squelchlaw03_FreqOne.j1 k1 true x37_1 t259 t260 l0 (l0.length : Int) x37_1 true t249)) else (squelchlaw03_FreqOne.j1 k1 true x37_1 t259 t260 l0 (l0.length : Int) x37_1 true t249)) = some r := H
        have A14 := Aside0.mk A140
        clear A140
        have HC15 := Aside0.mk H
        clear H
        have p258 : 0 ≤ (x37_1 : Int) := of_decide_eq_true (by first | (with_reducible assumption) | assumption)
        have q258 : x37_1 < (l0.length : Int) := of_decide_eq_true (by first | (with_reducible assumption) | assumption)
        obtain ⟨ad258, e258, hx258_0⟩ := Kd.at_int HR0.out x37_1 p258 q258
        cases e258
        replace hx258_0 := (HB.out.cell (World.block_lt_of_cell? w _ hx258_0)).trans hx258_0
        replace p258 := eq_true p258
        replace q258 := eq_true q258
        have hcz16_0 : wr.cell? ⟨gb253, 0, none⟩ = some (.slice Ao9 t249.length co9) := (blk_cell BK253.out 0).trans rfl
        have hfz16_0 := blk_frozen BK253.out 0
        go_upto_region 12 with (first | ((with_reducible refine gate_callee (f := 13) rfl ?_); refine goesL_ (some 45) rfl rfl Try.func13 (by kernel_rfl) rfl #[.agg #[.slice Ao9 t249.length co9], .int .i64 x37_1] rfl (by (try simp only [List.map_toArray, List.map_cons, List.map_nil]); first | done | rfl | (simp only [List.length_drop, List.length_take]; rfl)) ?_; (with_reducible refine (freq_Span.calls k1 _ _ t249 x37_1 t259 t260 t261 _ ?side1 ?side2 A14.out).mono ?_); (case side1 => repeat (first | exact (Kd.R_reads' HO_254000.out).2.2 | (with_reducible refine Kd.C_alloc ?_ _) | (with_reducible refine Kd.C_drewN ?_ _) | (with_reducible refine Kd.C_drew ?_))); (case side2 => exact (Kd.R_reads' HO_254000.out).2.1); rintro e w17 ⟨rfl, hb⟩; refine ⟨_, rfl, ?_⟩; have n0_ := Aside0.mk (Kd.R_below (by (with_reducible repeat (first | apply Kd.R_alloc | apply Kd.R_drewN | apply Kd.R_drew)); exact HO_254000.out) hb); have n1_ := Aside0.mk (blk_below (g := gb253) (o := .cells #[.slice Ao9 t249.length co9] 25 (0, 0)) (by (with_reducible repeat (first | refine blk_drewN ?_ _ | refine blk_drew ?_ | refine blk_alloc ?_ _)); exact BK253.out) hb); have n2_ := Aside0.mk (below_step (by repeat (first | (with_reducible first | exact HB.out | apply below_alloc | apply pw_below_drewN | apply below_drew1 | refine below_set ?_ GE253.out) | exact HB.out)) hb); clear HO_254000; clear BK253; clear HB; have HO_254000 := n0_; have BK253 := n1_; have HB := n2_; clear n0_ n1_ n2_; (try clear hb); (try clear hb2); (try clear hk); (try clear hi)))
        (try simp only [Act.put, List.setIfInBounds_toArray, List.set_cons_zero, List.set_cons_succ])
        go_cut [62] (fun v62 wc => ∃ (kq : Nat) (x62_14 : Bool), v62 = .bool x62_14 ∧ Aside0 (squelchlaw03_FreqOne.j1 kq true x37_1 t259 t260 l0 (l0.length : Int) x37_1 x62_14 t249 = some r) ∧ Aside0 (kq ≤ k1) ∧ Aside0 (Kd.R (Kd.int .i64) 3 wc w.heap.size (fun _ => True) (.slice Ao9 t249.length co9) t249) ∧ Aside0 (wc.heap[gb253]? = some (.cells #[(.slice Ao9 t249.length co9)] 25 (0, 0))) ∧ Aside0 (Below w.heap.size w wc))
        case first =>
         have H := HC15.out
         clear HC15
         by_cases c18 : t259 = x6_1
         ·rw [if_pos c18] at H
          have c18b0 : (t259 == x6_1) = true := beq_iff_eq.mpr c18
          have c18b1 : (t259 != x6_1) = false := bne_eq_false_iff_eq.mpr c18
          clear c18
          (first | rw [c18b0] | (simp only [i64_w, i32_w]; rw [c18b0]) | skip)
          by_cases c19 : t260 = (wrap64 (x6_1 + (rd l0 x37_1)))
          ·rw [if_pos c19] at H
           have c19b0 : (t260 == (wrap64 (x6_1 + (rd l0 x37_1)))) = true := beq_iff_eq.mpr c19
           have c19b1 : (t260 != (wrap64 (x6_1 + (rd l0 x37_1)))) = false := bne_eq_false_iff_eq.mpr c19
           clear c19
           have H' := Aside0.mk H
           clear H
           go_wp2
           go_meet
           case rel => exact ⟨_, ((t261 != 0)), (by first | rfl | (simp; done) | (simp [*]; done)), H', ⟨by have := HK1.out; first | omega | exact Nat.le_refl _⟩, ⟨by (with_reducible repeat (first | apply Kd.R_alloc | apply Kd.R_drewN | apply Kd.R_drew)); exact HO_254000.out⟩, ⟨by (with_reducible repeat (first | refine blk_drewN ?_ _ | refine blk_drew ?_ | refine blk_alloc ?_ _)); exact BK253.out⟩, ⟨by repeat (first | (with_reducible first | exact HB.out | apply below_alloc | apply pw_below_drewN | apply below_drew1 | refine below_set ?_ GE253.out) | exact HB.out)⟩⟩
          ·rw [if_neg c19] at H
           have c19b0 : (t260 == (wrap64 (x6_1 + (rd l0 x37_1)))) = false := beq_eq_false_iff_ne.mpr c19
           have c19b1 : (t260 != (wrap64 (x6_1 + (rd l0 x37_1)))) = true := bne_iff_ne.mpr c19
           exfalso
           revert H
           cases k1 with
           | zero => simp [squelchlaw03_FreqOne.j1]
           | succ k_ => simp only [squelchlaw03_FreqOne.j1, eq_self, if_true]; intro h_; exact absurd HR_.out (by rw [← Option.some.inj h_]; decide)
         ·rw [if_neg c18] at H
          have c18b0 : (t259 == x6_1) = false := beq_eq_false_iff_ne.mpr c18
          have c18b1 : (t259 != x6_1) = true := bne_iff_ne.mpr c18
          (first | rw [c18b0] | (simp only [i64_w, i32_w]; rw [c18b0]) | skip)
          exfalso
          revert H
          cases k1 with
          | zero => simp [squelchlaw03_FreqOne.j1]
          | succ k_ => simp only [squelchlaw03_FreqOne.j1, eq_self, if_true]; intro h_; exact absurd HR_.out (by rw [← Option.some.inj h_]; decide)
        case rest =>
         clear HC15
         try clear c1
         try clear p2
         try clear q2
         try clear hx2
         try clear c3
         try clear c5
         try clear c5b0
         try clear c5b1
         try clear p6
         try clear c7
         try clear c8
         try clear c11
         try clear c11b0
         try clear c12
         try clear c12b0
         try clear c13
         try clear c13b0
         try clear c18
         try clear c18b0
         try clear c18b1
         try clear c19
         try clear c19b0
         try clear c19b1
         try clear hcz10_0
         try clear hcz16_0
         try clear hfz10_0
         try clear hfz16_0
         try clear hx258_0
         try clear p2
         try clear p258
         try clear q258
         obtain ⟨kq, x62_14, rfl, HA, HJ14, HO_254000, BK253, HB⟩ := hcut
         cases kq with
         | zero => exact absurd HA.out (by simp [squelchlaw03_FreqOne.j1])
         | succ kj14 =>
          have H := HA.out
          clear HA
          simp only [squelchlaw03_FreqOne.j1] at H
          by_cases c20 : x62_14 = true
          ·subst c20
           have H1 : (some false) = some r := by rw [if_pos rfl] at H; exact H
           clear H
           have H := H1
           clear H1
           obtain rfl := Option.some.inj H
           exact absurd HR_.out (by simp)
          ·replace c20 := Bool.eq_false_iff.mpr c20
           subst c20
           have H1 : ((some (([t259, wrap64 (Int.tdiv (wrap64 (t259 + t260)) 2), wrap64 (t260 - 1)] : List Int) : List Int)).bind fun y262 => (squelchlaw03_FreqOne.l1 kj14 true x37_1 t260 l0 (l0.length : Int) x37_1 y262 (y262.length : Int) 0 t249)) = some r := by rw [if_neg (show ¬ (false = true) by decide)] at H; exact H
           clear H
           have H := H1
           clear H1
           obtain ⟨y262, hy262⟩ : ∃ y_ : List Int, y_ = (([t259, wrap64 (Int.tdiv (wrap64 (t259 + t260)) 2), wrap64 (t260 - 1)] : List Int)) := ⟨_, rfl⟩
           replace H : (squelchlaw03_FreqOne.l1 kj14 true x37_1 t260 l0 (l0.length : Int) x37_1 y262 (y262.length : Int) 0 t249) = some r := by first | (rw [hy262]; with_reducible exact H) | (have H2_ := (Option.bind_some _ _).symm.trans H; rw [hy262]; with_reducible exact H2_) | (have H2_ := (Option.bind_some _ _).symm.trans H; with_reducible exact H2_) | with_reducible exact H | (rw [hy262]; exact H) | exact H
           have Ny262 := Aside0.mk hy262
           clear hy262
           have H' := Aside0.mk H
           clear H
           go_wp2_with (first | ((with_reducible refine gate_dst (N := 70) rfl ?_); (try (refine gate_guard (by rfl) ?_; dsimp only)); refine Kd.R_lit (Kd.int .i64) _ 3 ?hg (N := 70) ?hd (xs := ([t259, wrap64 (Int.tdiv (wrap64 (t259 + t260)) 2), wrap64 (t260 - 1)] : List Int)) (inner := [.int .i64 t259, .int .i64 (wrap64 (Int.tdiv (wrap64 (t259 + t260)) 2)), .int .i64 (wrap64 (t260 - 1))]) (ok := fun _ => True) (okp := fun _ => True) ?hr ?hp (fun _ hk => hk) trivial (Below.refl _ _) (Nat.le_refl _) (by simp) ?_; (case hd => rfl); (case hg => rfl); (case hr => first | (go_simp; done) | (go_simp; rfl)); (case hp => exact (Reps.one (show Kd.M (Kd.int .i64) _ _ _ t259 [.int .i64 t259] from rfl) (Reps.one (show Kd.M (Kd.int .i64) _ _ _ (wrap64 (Int.tdiv (wrap64 (t259 + t260)) 2)) [.int .i64 (wrap64 (Int.tdiv (wrap64 (t259 + t260)) 2))] from rfl) (Reps.one (show Kd.M (Kd.int .i64) _ _ _ (wrap64 (t260 - 1)) [.int .i64 (wrap64 (t260 - 1))] from rfl) (Reps.none _ _))))); intro v263 w21 ho22 hb hg_ hnew_; clear hg_ hnew_; (first | rw [← Ny262.out] at ho22 | (simp only [Int.reduceToNat] at ho22; rw [← Ny262.out] at ho22)); have n0_ := Aside0.mk (Kd.R_elder' (by (with_reducible repeat (first | apply Kd.R_alloc | apply Kd.R_drewN | apply Kd.R_drew)); exact HO_254000.out) (Kd.R_base ho22) hb); have n1_ := Aside0.mk (Kd.R_lower (Kd.R_new' ho22 (Kd.R_lt (by (with_reducible repeat (first | apply Kd.R_alloc | apply Kd.R_drewN | apply Kd.R_drew)); exact HO_254000.out))) (below_size (by repeat (first | (with_reducible first | exact HB.out | apply below_alloc | apply pw_below_drewN | apply below_drew1 | refine below_set ?_ GE253.out) | exact HB.out)))); have n2_ := Aside0.mk (blk_below (g := gb253) (o := .cells #[.slice Ao9 t249.length co9] 25 (0, 0)) (by (with_reducible repeat (first | refine blk_drewN ?_ _ | refine blk_drew ?_ | refine blk_alloc ?_ _)); exact BK253.out) hb); have n3_ := Aside0.mk (below_step (by repeat (first | (with_reducible first | exact HB.out | apply below_alloc | apply pw_below_drewN | apply below_drew1 | refine below_set ?_ GE253.out) | exact HB.out)) hb); clear HO_254000; clear BK253; clear HB; have HO_254000 := n0_; have HO264 := n1_; have BK253 := n2_; have HB := n3_; clear n0_ n1_ n2_ n3_; clear hb ho22; obtain ⟨Ao23, co23, eo23⟩ := Kd.R_slice HO264.out; subst eo23))
           (try simp only [Act.put, List.setIfInBounds_toArray, List.set_cons_zero, List.set_cons_succ])
           go_loopg [72] kj14 (fun kq v72 w' => ∃ (x72_3 : Int), v72 = .int .i64 x72_3 ∧ Aside0 (squelchlaw03_FreqOne.l1 kq true x37_1 t260 l0 (l0.length : Int) x37_1 y262 (y262.length : Int) x72_3 t249 = some r) ∧ Aside0 (kq ≤ kj14) ∧ Aside0 (Kd.R (Kd.int .i64) 3 w' w.heap.size (fun k_ => some k_ ≠ ((.slice Ao9 t249.length co9) : Value).ownBlock) (.slice Ao23 y262.length co23) y262) ∧ Aside0 (Kd.R (Kd.int .i64) 3 w' w.heap.size (fun k_ => some k_ ≠ ((.slice Ao23 y262.length co23) : Value).ownBlock) (.slice Ao9 t249.length co9) t249) ∧ Aside0 (w'.heap[gb253]? = some (.cells #[(.slice Ao9 t249.length co9)] 25 (0, 0))) ∧ Aside0 (Below w.heap.size w w'))
           case atStart => exact ⟨(0), (by first | rfl | (simp; done) | (simp [*]; done)), H', ⟨Nat.le_refl _⟩, ⟨by (with_reducible repeat (first | apply Kd.R_alloc | apply Kd.R_drewN | apply Kd.R_drew)); exact Kd.R_mono HO264.out (fun _ hk => hk.2)⟩, ⟨by (with_reducible repeat (first | apply Kd.R_alloc | apply Kd.R_drewN | apply Kd.R_drew)); exact Kd.R_mono HO_254000.out (fun _ hk => hk.2)⟩, ⟨by (with_reducible repeat (first | refine blk_drewN ?_ _ | refine blk_drew ?_ | refine blk_alloc ?_ _)); exact BK253.out⟩, ⟨by repeat (first | (with_reducible first | exact HB.out | apply below_alloc | apply pw_below_drewN | apply below_drew1 | refine below_set ?_ GE253.out) | exact HB.out)⟩⟩
           case round =>
            clear H'
            try clear c1
            try clear c2
            try clear p2
            try clear q2
            try clear hx2
            try clear c3
            try clear c5
            try clear c5b0
            try clear c5b1
            try clear p6
            try clear c7
            try clear c8
            try clear c11
            try clear c11b0
            try clear c12
            try clear c12b0
            try clear c13
            try clear c13b0
            try clear c18
            try clear c18b0
            try clear c18b1
            try clear c19
            try clear c19b0
            try clear c19b1
            try clear c20
            try clear hcz10_0
            try clear hcz16_0
            try clear hfz10_0
            try clear hfz16_0
            try clear hx258_0
            try clear p2
            try clear p258
            try clear p6
            try clear q2
            try clear q258
            obtain ⟨x72_3, rfl, HA, HK3, HO_70, HO_254000, BK253, HB⟩ := hrel
            cases gk with
            | zero => exact absurd HA.out (by simp [squelchlaw03_FreqOne.l1])
            | succ k3 =>
             have H := HA.out
             clear HA
             simp only [squelchlaw03_FreqOne.l1] at H
             by_cases c24 : x72_3 < (y262.length : Int)
             ·rw [if_pos c24] at H
              have c24b0 : decide (x72_3 < (y262.length : Int)) = true := decide_eq_true c24
              clear c24
              by_cases c25 : 0 ≤ x72_3
              ·rw [if_pos c25] at H
               have c25b0 : decide (0 ≤ x72_3) = true := decide_eq_true c25
               clear c25
               by_cases c26 : x72_3 < (y262.length : Int)
               ·rw [if_pos c26] at H
                have c26b0 : decide (x72_3 < (y262.length : Int)) = true := decide_eq_true c26
                clear c26
                replace H := Option.bind_eq_some_iff.mp H
                obtain ⟨⟨t266, t267⟩, A270, H⟩ := H
                replace H : (if t266 = x37_1 then (if t267 = 0 then (squelchlaw03_FreqOne.l1 k3 true x37_1 t260 l0 (l0.length : Int) x37_1 y262 (y262.length : Int) (wrap64 (x72_3 + 1)) t249) else (some false)) else (some false)) = some r := H
                have A27 := Aside0.mk A270
                clear A270
                by_cases c28 : t266 = x37_1
                ·rw [if_pos c28] at H
                 have c28b0 : (t266 == x37_1) = true := beq_iff_eq.mpr c28
                 have c28b1 : (t266 != x37_1) = false := bne_eq_false_iff_eq.mpr c28
                 clear c28
                 by_cases c29 : t267 = 0
                 ·rw [if_pos c29] at H
                  have c29b0 : (t267 == 0) = true := beq_iff_eq.mpr c29
                  have c29b1 : (t267 != 0) = false := bne_eq_false_iff_eq.mpr c29
                  clear c29
                  have H' := Aside0.mk H
                  clear H
                  have p265 : 0 ≤ (x72_3 : Int) := of_decide_eq_true (by first | (with_reducible assumption) | assumption)
                  have q265 : x72_3 < (y262.length : Int) := of_decide_eq_true (by first | (with_reducible assumption) | assumption)
                  obtain ⟨ad265, e265, hx265_0⟩ := Kd.at_int (Kd.R_reads' HO_70.out).2.2 x72_3 p265 q265
                  cases e265
                  replace p265 := eq_true p265
                  replace q265 := eq_true q265
                  have hcz30_0 : wr.cell? ⟨gb253, 0, none⟩ = some (.slice Ao9 t249.length co9) := (blk_cell BK253.out 0).trans rfl
                  have hfz30_0 := blk_frozen BK253.out 0
                  go_wp2_with (first | ((with_reducible refine gate_callee (f := 15) rfl ?_); refine goesL_ (some 79) rfl rfl Try.func15 (by kernel_rfl) rfl #[.agg #[.slice Ao9 t249.length co9], .int .i64 (rd y262 x72_3)] rfl (by (try simp only [List.map_toArray, List.map_cons, List.map_nil]); first | done | rfl | (simp only [List.length_drop, List.length_take]; rfl)) ?_; (with_reducible refine (freq_Find.calls k3 _ _ t249 (rd y262 x72_3) t266 t267 _ ?side1 ?side2 A27.out).mono ?_); (case side1 => repeat (first | exact (Kd.R_reads' HO_254000.out).2.2 | (with_reducible refine Kd.C_alloc ?_ _) | (with_reducible refine Kd.C_drewN ?_ _) | (with_reducible refine Kd.C_drew ?_))); (case side2 => exact (Kd.R_reads' HO_254000.out).2.1); rintro e w31 ⟨rfl, hb⟩; refine ⟨_, rfl, ?_⟩; have n0_ := Aside0.mk (Kd.R_below (by (with_reducible repeat (first | apply Kd.R_alloc | apply Kd.R_drewN | apply Kd.R_drew)); exact HO_70.out) hb); have n1_ := Aside0.mk (Kd.R_below (by (with_reducible repeat (first | apply Kd.R_alloc | apply Kd.R_drewN | apply Kd.R_drew)); exact HO_254000.out) hb); have n2_ := Aside0.mk (blk_below (g := gb253) (o := .cells #[.slice Ao9 t249.length co9] 25 (0, 0)) (by (with_reducible repeat (first | refine blk_drewN ?_ _ | refine blk_drew ?_ | refine blk_alloc ?_ _)); exact BK253.out) hb); have n3_ := Aside0.mk (below_step (by repeat (first | (with_reducible first | exact HB.out | apply below_alloc | apply pw_below_drewN | apply below_drew1 | refine below_set ?_ GE253.out) | exact HB.out)) hb); clear HO_70; clear HO_254000; clear BK253; clear HB; have HO_70 := n0_; have HO_254000 := n1_; have BK253 := n2_; have HB := n3_; clear n0_ n1_ n2_ n3_; (try clear hb); (try clear hb2); (try clear hk); (try clear hi)))
                  go_roundg k3
                  case measure => have := HK1.out; have := HJ14.out; have := HK3.out; omega
                  case rel => exact ⟨(wrap64 (x72_3 + 1)), (by first | rfl | (simp; done) | (simp [*]; done)), H', ⟨by have := HK1.out; have := HJ14.out; have := HK3.out; omega⟩, ⟨by (with_reducible repeat (first | apply Kd.R_alloc | apply Kd.R_drewN | apply Kd.R_drew)); exact HO_70.out⟩, ⟨by (with_reducible repeat (first | apply Kd.R_alloc | apply Kd.R_drewN | apply Kd.R_drew)); exact HO_254000.out⟩, ⟨by (with_reducible repeat (first | refine blk_drewN ?_ _ | refine blk_drew ?_ | refine blk_alloc ?_ _)); exact BK253.out⟩, ⟨by repeat (first | (with_reducible first | exact HB.out | apply below_alloc | apply pw_below_drewN | apply below_drew1 | refine below_set ?_ GE253.out) | exact HB.out)⟩⟩
                 ·rw [if_neg c29] at H
                  have c29b0 : (t267 == 0) = false := beq_eq_false_iff_ne.mpr c29
                  have c29b1 : (t267 != 0) = true := bne_iff_ne.mpr c29
                  obtain rfl := Option.some.inj H
                  exact absurd HR_.out (by simp)
                ·rw [if_neg c28] at H
                 have c28b0 : (t266 == x37_1) = false := beq_eq_false_iff_ne.mpr c28
                 have c28b1 : (t266 != x37_1) = true := bne_iff_ne.mpr c28
                 obtain rfl := Option.some.inj H
                 exact absurd HR_.out (by simp)
               ·rw [if_neg c26] at H
                exact absurd H (by simp)
              ·rw [if_neg c25] at H
               exact absurd H (by simp)
             ·rw [if_neg c24] at H
              have c24b0 : decide (x72_3 < (y262.length : Int)) = false := decide_eq_false c24
              clear c24
              have H' := Aside0.mk H
              clear H
              go_wp2
              go_roundg k3
              case measure => have := HK1.out; have := HJ14.out; have := HK3.out; omega
              case rel => exact ⟨(t260), (wrap64 (x37_1 + 1)), (by first | rfl | (simp; done) | (simp [*]; done)), (by first | rfl | (simp; done) | (simp [*]; done)), H', ⟨by have := HK1.out; have := HJ14.out; have := HK3.out; omega⟩, ⟨by (with_reducible repeat (first | apply Kd.R_alloc | apply Kd.R_drewN | apply Kd.R_drew)); exact Kd.R_mono HO_254000.out (fun _ hk => trivial)⟩, ⟨by (with_reducible repeat (first | refine blk_drewN ?_ _ | refine blk_drew ?_ | refine blk_alloc ?_ _)); exact BK253.out⟩, ⟨by repeat (first | (with_reducible first | exact HB.out | apply below_alloc | apply pw_below_drewN | apply below_drew1 | refine below_set ?_ GE253.out) | exact HB.out)⟩⟩
       ·rw [if_neg c13] at H
        exact absurd H (by simp)
      ·rw [if_neg c12] at H
       exact absurd H (by simp)
     ·rw [if_neg c11] at H
      have c11b0 : decide (x37_1 < (l0.length : Int)) = false := decide_eq_false c11
      clear c11
      replace H := Option.bind_eq_some_iff.mp H
      obtain ⟨⟨t254, t255⟩, A320, H⟩ := H
      replace H : (if true = true then ((freq_Total.f k1 t249).bind fun t256 => (if t256 = x6_1 then (if t255 = 1 then ((freq_Same.f k1 t249 t249).bind fun t257 => (some t257)) else (some false)) else (some false))) else (some false)) = some r := H
      have A32 := Aside0.mk A320
      clear A320
      have H1 : ((freq_Total.f k1 t249).bind fun t256 => (if t256 = x6_1 then (if t255 = 1 then ((freq_Same.f k1 t249 t249).bind fun t257 => (some t257)) else (some false)) else (some false))) = some r := by first | (rw [if_pos rfl] at H; exact H) | (rw [if_pos trivial] at H; exact H)
      clear H
      have H := H1
      clear H1
      replace H := Option.bind_eq_some_iff.mp H
      obtain ⟨t256, A330, H⟩ := H
      replace H : (if t256 = x6_1 then (if t255 = 1 then ((freq_Same.f k1 t249 t249).bind fun t257 => (some t257)) else (some false)) else (some false)) = some r := H
      have A33 := Aside0.mk A330
      clear A330
      by_cases c34 : t256 = x6_1
      ·rw [if_pos c34] at H
       have c34b0 : (t256 == x6_1) = true := beq_iff_eq.mpr c34
       have c34b1 : (t256 != x6_1) = false := bne_eq_false_iff_eq.mpr c34
       clear c34
       by_cases c35 : t255 = 1
       ·rw [if_pos c35] at H
        have c35b0 : (t255 == 1) = true := beq_iff_eq.mpr c35
        have c35b1 : (t255 != 1) = false := bne_eq_false_iff_eq.mpr c35
        clear c35
        replace H := Option.bind_eq_some_iff.mp H
        obtain ⟨t257, A360, H⟩ := H
        replace H : (some t257) = some r := H
        have A36 := Aside0.mk A360
        clear A360
        obtain rfl := Option.some.inj H
        have hcz37_0 : wr.cell? ⟨gb253, 0, none⟩ = some (.slice Ao9 t249.length co9) := (blk_cell BK253.out 0).trans rfl
        have hfz37_0 := blk_frozen BK253.out 0
        go_wp2_with (first | ((with_reducible refine gate_callee (f := 15) rfl ?_); refine goesL_ (some 95) rfl rfl Try.func15 (by kernel_rfl) rfl #[.agg #[.slice Ao9 t249.length co9], .int .i64 x6_1] rfl (by (try simp only [List.map_toArray, List.map_cons, List.map_nil]); first | done | rfl | (simp only [List.length_drop, List.length_take]; rfl)) ?_; (with_reducible refine (freq_Find.calls k1 _ _ t249 x6_1 t254 t255 _ ?side1 ?side2 A32.out).mono ?_); (case side1 => repeat (first | exact (Kd.R_reads' HO_254000.out).2.2 | (with_reducible refine Kd.C_alloc ?_ _) | (with_reducible refine Kd.C_drewN ?_ _) | (with_reducible refine Kd.C_drew ?_))); (case side2 => exact (Kd.R_reads' HO_254000.out).2.1); rintro e w38 ⟨rfl, hb⟩; refine ⟨_, rfl, ?_⟩; have n0_ := Aside0.mk (Kd.R_below (by (with_reducible repeat (first | apply Kd.R_alloc | apply Kd.R_drewN | apply Kd.R_drew)); exact HO_254000.out) hb); have n1_ := Aside0.mk (blk_below (g := gb253) (o := .cells #[.slice Ao9 t249.length co9] 25 (0, 0)) (by (with_reducible repeat (first | refine blk_drewN ?_ _ | refine blk_drew ?_ | refine blk_alloc ?_ _)); exact BK253.out) hb); have n2_ := Aside0.mk (below_step (by repeat (first | (with_reducible first | exact HB.out | apply below_alloc | apply pw_below_drewN | apply below_drew1 | refine below_set ?_ GE253.out) | exact HB.out)) hb); clear HO_254000; clear BK253; clear HB; have HO_254000 := n0_; have BK253 := n1_; have HB := n2_; clear n0_ n1_ n2_; (try clear hb); (try clear hb2); (try clear hk); (try clear hi); have hcz39_0 : w38.cell? ⟨gb253, 0, none⟩ = some (.slice Ao9 t249.length co9) := (blk_cell BK253.out 0).trans rfl; have hfz39_0 := blk_frozen BK253.out 0) | (go_at_call 11; (with_reducible refine (freq_Total.calls k1 _ _ t249 t256 _ ?side1 ?side2 A33.out).mono ?_); (case side1 => repeat (first | exact (Kd.R_reads' HO_254000.out).2.2 | (with_reducible refine Kd.C_alloc ?_ _) | (with_reducible refine Kd.C_drewN ?_ _) | (with_reducible refine Kd.C_drew ?_))); (case side2 => exact (Kd.R_reads' HO_254000.out).2.1); rintro e w40 ⟨rfl, hb⟩; have n0_ := Aside0.mk (Kd.R_below (by (with_reducible repeat (first | apply Kd.R_alloc | apply Kd.R_drewN | apply Kd.R_drew)); exact HO_254000.out) hb); have n1_ := Aside0.mk (blk_below (g := gb253) (o := .cells #[.slice Ao9 t249.length co9] 25 (0, 0)) (by (with_reducible repeat (first | refine blk_drewN ?_ _ | refine blk_drew ?_ | refine blk_alloc ?_ _)); exact BK253.out) hb); have n2_ := Aside0.mk (below_step (by repeat (first | (with_reducible first | exact HB.out | apply below_alloc | apply pw_below_drewN | apply below_drew1 | refine below_set ?_ GE253.out) | exact HB.out)) hb); clear HO_254000; clear BK253; clear HB; have HO_254000 := n0_; have BK253 := n1_; have HB := n2_; clear n0_ n1_ n2_; (try clear hb); (try clear hb2); (try clear hk); (try clear hi); have hcz41_0 : w40.cell? ⟨gb253, 0, none⟩ = some (.slice Ao9 t249.length co9) := (blk_cell BK253.out 0).trans rfl; have hfz41_0 := blk_frozen BK253.out 0) | (go_at_call 21; (with_reducible refine (freq_Same.calls k1 _ _ t249 _ _ t249 t257 _ ?side1 ?side2 ?side3 ?side4 A36.out).mono ?_); (case side1 => repeat (first | exact (Kd.R_reads' HO_254000.out).2.2 | (with_reducible refine Kd.C_alloc ?_ _) | (with_reducible refine Kd.C_drewN ?_ _) | (with_reducible refine Kd.C_drew ?_))); (case side2 => exact (Kd.R_reads' HO_254000.out).2.1); (case side3 => repeat (first | exact (Kd.R_reads' HO_254000.out).2.2 | (with_reducible refine Kd.C_alloc ?_ _) | (with_reducible refine Kd.C_drewN ?_ _) | (with_reducible refine Kd.C_drew ?_))); (case side4 => exact (Kd.R_reads' HO_254000.out).2.1); rintro e w42 ⟨rfl, hb⟩; have n0_ := Aside0.mk (Kd.R_below (by (with_reducible repeat (first | apply Kd.R_alloc | apply Kd.R_drewN | apply Kd.R_drew)); exact HO_254000.out) hb); have n1_ := Aside0.mk (blk_below (g := gb253) (o := .cells #[.slice Ao9 t249.length co9] 25 (0, 0)) (by (with_reducible repeat (first | refine blk_drewN ?_ _ | refine blk_drew ?_ | refine blk_alloc ?_ _)); exact BK253.out) hb); have n2_ := Aside0.mk (below_step (by repeat (first | (with_reducible first | exact HB.out | apply below_alloc | apply pw_below_drewN | apply below_drew1 | refine below_set ?_ GE253.out) | exact HB.out)) hb); clear HO_254000; clear BK253; clear HB; have HO_254000 := n0_; have BK253 := n1_; have HB := n2_; clear n0_ n1_ n2_; (try clear hb); (try clear hb2); (try clear hk); (try clear hi)))
        go_ret
        exact ⟨by first | rfl | (simp [errW_none, errW_some] <;> rfl) | (simp [*, errW_none, errW_some] <;> rfl) | (simp [wrap64]; done), by repeat (first | (with_reducible first | exact HB.out | apply below_alloc | apply pw_below_drewN | apply below_drew1 | refine below_set ?_ GE253.out) | exact HB.out)⟩
       ·rw [if_neg c35] at H
        have c35b0 : (t255 == 1) = false := beq_eq_false_iff_ne.mpr c35
        have c35b1 : (t255 != 1) = true := bne_iff_ne.mpr c35
        obtain rfl := Option.some.inj H
        exact absurd HR_.out (by simp)
      ·rw [if_neg c34] at H
       have c34b0 : (t256 == x6_1) = false := beq_eq_false_iff_ne.mpr c34
       have c34b1 : (t256 != x6_1) = true := bne_iff_ne.mpr c34
       obtain rfl := Option.some.inj H
       exact absurd HR_.out (by simp)
  ·rw [if_neg c5] at H
   have c5b0 : (t252 == 0) = false := beq_eq_false_iff_ne.mpr c5
   have c5b1 : (t252 != 0) = true := bne_iff_ne.mpr c5
   obtain rfl := Option.some.inj H
   go_enter Try.func7, Try.ntmps7
   go_wp2_with (first | ((with_reducible refine gate_callee (f := 8) rfl ?_); refine goesL_ (some 18) rfl rfl Try.func8 (by kernel_rfl) rfl #[] rfl (by (try simp only [List.map_toArray, List.map_cons, List.map_nil]); first | done | rfl | (simp only [List.length_drop, List.length_take]; rfl)) ?_; (with_reducible refine (squelchlaw03_live.calls k  true _ A2.out).mono ?_); rintro e w43 ⟨rfl, hb⟩; refine ⟨_, rfl, ?_⟩; have n0_ := Aside0.mk (below_step (by repeat (first | (with_reducible first | exact HB.out | apply below_alloc | apply pw_below_drewN | apply below_drew1) | exact HB.out)) hb); clear HB; have HB := n0_; clear n0_; (try clear hb); (try clear hb2); (try clear hk); (try clear hi)) | ((with_reducible refine gate_callee (f := 12) rfl ?_); refine goesL_ (some 23) rfl rfl Try.func12 (by kernel_rfl) rfl #[.slice A0 l0.length c0] rfl (by (try simp only [List.map_toArray, List.map_cons, List.map_nil]); first | done | rfl | (simp only [List.length_drop, List.length_take]; rfl)) ?_; (with_reducible refine (freq_New.calls k _ _ l0 t249 t252 _ ?side1 ?side2 A4.out).mono ?_); (case side1 => repeat (first | exact (Kd.C_below HR0.out HB.out) | (with_reducible refine Kd.C_alloc ?_ _) | (with_reducible refine Kd.C_drewN ?_ _) | (with_reducible refine Kd.C_drew ?_))); (case side2 => exact HC0.out); rintro e w44 ⟨v250, rfl, ho0, hb⟩; refine ⟨_, rfl, ?_⟩; have n0_ := Aside0.mk (Kd.R_lower ho0 (below_size (by repeat (first | (with_reducible first | exact HB.out | apply below_alloc | apply pw_below_drewN | apply below_drew1) | exact HB.out)))); have n1_ := Aside0.mk (below_step (by repeat (first | (with_reducible first | exact HB.out | apply below_alloc | apply pw_below_drewN | apply below_drew1) | exact HB.out)) hb); clear HB; have HO251 := n0_; have HB := n1_; clear n0_ n1_; (try clear hb); (try clear hb2); (try clear hk); (try clear hi); (try clear ho0)) | ((with_reducible refine gate_dst (N := 4) rfl ?_); (try (refine gate_guard (by rfl) ?_; dsimp only)); refine box_event ?hg (N := 4) ?hd (cs := #[.slice none 0 0]) (t := 25) ?hr ?_; (case hd => rfl); (case hg => rfl); (case hr => first | (go_simp; done) | (go_simp; rfl)); intro gb253 hg w45 hbox hb; have n0_ := Aside0.mk (Kd.R_below (by (with_reducible repeat (first | apply Kd.R_alloc | apply Kd.R_drewN | apply Kd.R_drew)); exact HO251.out) hb); have n1_ := Aside0.mk (below_step (by repeat (first | (with_reducible first | exact HB.out | apply below_alloc | apply pw_below_drewN | apply below_drew1) | exact HB.out)) hb); have n2_ := Aside0.mk (hbox); have n3_ := Aside0.mk ((by rw [hg]; exact (below_size (by repeat (first | (with_reducible first | exact HB.out | apply below_alloc | apply pw_below_drewN | apply below_drew1) | exact HB.out))) : w.heap.size ≤ gb253)); have n4_ := Aside0.mk ((by rw [hg]; exact (below_size (by repeat (first | (with_reducible first | exact HB.out | apply below_alloc | apply pw_below_drewN | apply below_drew1) | exact HB.out))) : w.heap.size ≤ gb253)); clear HO251; clear HB; have HO251 := n0_; have HB := n1_; have BK253 := n2_; have GW253 := n3_; have GE253 := n4_; clear n0_ n1_ n2_ n3_ n4_; clear hb hbox hg; obtain ⟨Ao46, co46, eo46⟩ := Kd.R_slice HO251.out; subst eo46; have hcz47_0 : w45.cell? ⟨gb253, 0, none⟩ = some (.slice none 0 0) := (blk_cell BK253.out 0).trans rfl; have hfz47_0 := blk_frozen BK253.out 0))
   go_ret
   exact ⟨by first | rfl | (simp [errW_none, errW_some] <;> rfl) | (simp [*, errW_none, errW_some] <;> rfl) | (simp [wrap64]; done), by repeat (first | (with_reducible first | exact HB.out | apply below_alloc | apply pw_below_drewN | apply below_drew1 | refine below_set ?_ GE253.out) | exact HB.out)⟩
 ·replace c3 := Bool.eq_false_iff.mpr c3
  subst c3
  have H1 : (some false) = some r := by rw [if_neg (show ¬ (false = true) by decide)] at H; exact H
  clear H
  have H := H1
  clear H1
  obtain rfl := Option.some.inj H
  exact absurd HR_.out (by simp)

def squelchlaw03_FreqOne.Pure : Prop := ∀ (l0 : List Int), (l0.length * 8 ≤ 140737488351232 ∧ l0.length ≤ 9223372036854775807 ∧ ∀ y0_ ∈ l0, (Lit.int .i64 y0_).wf = true) → ∃ k, squelchlaw03_FreqOne.f k l0 = some true

end Go.Proofs.Ytdhckdeojplghaa.PA
-- slim
