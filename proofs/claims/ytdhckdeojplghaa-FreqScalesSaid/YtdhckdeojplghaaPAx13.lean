-- Written for this claim by this session's own printer (wip/patch_print.py over the kit's print).
import Derived.Test.YtdhckdeojplghaaPAx0
import Derived.Test.YtdhckdeojplghaaPAx3
import Derived.Test.YtdhckdeojplghaaPAx4
import Derived.Test.YtdhckdeojplghaaPAx5
import Derived.Test.YtdhckdeojplghaaPAx6
namespace Go.Proofs.Ytdhckdeojplghaa.PA
open Go.RowKit Go.Proofs.YtdhckdeojplghaaW.PrintWords Go.Proofs.YtdhckdeojplghaaW.PrintLast Go.Proofs.YtdhckdeojplghaaW.PrintMore
attribute [local go_sem] max2_int min2_int max_two min_two max_three min_three max_four min_four   -- for this text's walks alone
set_option linter.unusedVariables false
set_option linter.unusedSimpArgs false

/-! ### squelchlaw03_FreqScales: function 3 -/
mutual
def squelchlaw03_FreqScales.j0 : Nat → List Int → Bool → Bool → List Int → Option (Bool)
 | 0, _, _, _, _ => none
 | k + 1, x1, x5, x51, x274000 => if x51 = true then (some false) else (squelchlaw03_FreqScales.l0 k x1 x5 (x1.length : Int) 0 x274000)
def squelchlaw03_FreqScales.l0 : Nat → List Int → Bool → Int → Int → List Int → Option (Bool)
 | 0, _, _, _, _, _ => none
 | k + 1, x1, x5, x53, x54, x274000 => if x54 < x53 then (squelchlaw03_FreqScales.l1 k x1 x5 x54 x53 x54 (x1.length : Int) 0 x274000) else (some x5)
def squelchlaw03_FreqScales.l1 : Nat → List Int → Bool → Int → Int → Int → Int → Int → List Int → Option (Bool)
 | 0, _, _, _, _, _, _, _, _ => none
 | k + 1, x1, x5, x8, x53, x54, x58, x59, x274000 => if x59 < x58 then (if 0 ≤ (wrap64 (x8 + 1)) then (if (wrap64 (x8 + 1)) < (x274000.length : Int) then (if 0 ≤ x8 then (if x8 < (x274000.length : Int) then (if 0 ≤ (wrap64 (x59 + 1)) then (if (wrap64 (x59 + 1)) < (x274000.length : Int) then (if 0 ≤ x59 then (if x59 < (x274000.length : Int) then (if x8 < (x1.length : Int) then (if x59 < (x1.length : Int) then (if (rd x1 x8) > (rd x1 x59) then (if (wrap64 ((rd x274000 (wrap64 (x8 + 1))) - (rd x274000 x8))) < (wrap64 ((wrap64 ((rd x274000 (wrap64 (x59 + 1))) - (rd x274000 x59))) - 1)) then (some false) else (if (rd x1 x8) = (rd x1 x59) then (if (wrap64 ((rd x274000 (wrap64 (x8 + 1))) - (rd x274000 x8))) > (wrap64 ((wrap64 ((rd x274000 (wrap64 (x59 + 1))) - (rd x274000 x59))) + 1)) then (some false) else (if (wrap64 ((rd x274000 (wrap64 (x59 + 1))) - (rd x274000 x59))) > (wrap64 ((wrap64 ((rd x274000 (wrap64 (x8 + 1))) - (rd x274000 x8))) + 1)) then (some false) else (squelchlaw03_FreqScales.l1 k x1 x5 x8 x53 x54 x58 (wrap64 (x59 + 1)) x274000))) else (squelchlaw03_FreqScales.l1 k x1 x5 x8 x53 x54 x58 (wrap64 (x59 + 1)) x274000))) else (if (rd x1 x8) = (rd x1 x59) then (if (wrap64 ((rd x274000 (wrap64 (x8 + 1))) - (rd x274000 x8))) > (wrap64 ((wrap64 ((rd x274000 (wrap64 (x59 + 1))) - (rd x274000 x59))) + 1)) then (some false) else (if (wrap64 ((rd x274000 (wrap64 (x59 + 1))) - (rd x274000 x59))) > (wrap64 ((wrap64 ((rd x274000 (wrap64 (x8 + 1))) - (rd x274000 x8))) + 1)) then (some false) else (squelchlaw03_FreqScales.l1 k x1 x5 x8 x53 x54 x58 (wrap64 (x59 + 1)) x274000))) else (squelchlaw03_FreqScales.l1 k x1 x5 x8 x53 x54 x58 (wrap64 (x59 + 1)) x274000))) else (none)) else (none)) else (none)) else (none)) else (none)) else (none)) else (none)) else (none)) else (none)) else (none)) else (squelchlaw03_FreqScales.l0 k x1 x5 x53 (wrap64 (x54 + 1)) x274000)
end
def squelchlaw03_FreqScales.f (k : Nat) (a0 : Int) (l1 : List Int) : Option (Bool) := (squelchlaw03_live.f k).bind fun t268 => (if t268 = true then (if (l1.length : Int) > 300 then (some t268) else ((freq_Scale.f k a0 l1).bind fun bt269 => (if bt269.2 = 0 then ((squelchref03_Check.f k bt269.1).bind fun t274 => (if t274 = 0 then ((freq_Total.f k bt269.1).bind fun t275 => (if t275 = a0 then (squelchlaw03_FreqScales.j0 k l1 t268 ((bt269.1.length : Int) != (wrap64 ((l1.length : Int) + 1))) bt269.1) else (squelchlaw03_FreqScales.j0 k l1 t268 true bt269.1))) else (squelchlaw03_FreqScales.j0 k l1 t268 true bt269.1))) else (some ((bt269.1.length : Int) == 0))))) else (some false))
theorem squelchlaw03_FreqScales.mono_l : ∀ k, (∀ y0 y1 y2 y3, LeO (squelchlaw03_FreqScales.j0 k y0 y1 y2 y3) (squelchlaw03_FreqScales.j0 (k + 1) y0 y1 y2 y3)) ∧ (∀ y0 y1 y2 y3 y4, LeO (squelchlaw03_FreqScales.l0 k y0 y1 y2 y3 y4) (squelchlaw03_FreqScales.l0 (k + 1) y0 y1 y2 y3 y4)) ∧ (∀ y0 y1 y2 y3 y4 y5 y6 y7, LeO (squelchlaw03_FreqScales.l1 k y0 y1 y2 y3 y4 y5 y6 y7) (squelchlaw03_FreqScales.l1 (k + 1) y0 y1 y2 y3 y4 y5 y6 y7))
 | 0 => ⟨fun _ _ _ _ r h => by simp [squelchlaw03_FreqScales.j0] at h, fun _ _ _ _ _ r h => by simp [squelchlaw03_FreqScales.l0] at h, fun _ _ _ _ _ _ _ _ r h => by simp [squelchlaw03_FreqScales.l1] at h⟩
 | k + 1 => by
  obtain ⟨ih0, ih1, ih2⟩ := squelchlaw03_FreqScales.mono_l k
  refine ⟨?_, ?_, ?_⟩
  ·intro y0 y1 y2 y3
   unfold squelchlaw03_FreqScales.j0
   repeat' first
   | (with_reducible exact ih0 _ _ _ _)
   | (with_reducible exact ih1 _ _ _ _ _)
   | (with_reducible exact ih2 _ _ _ _ _ _ _ _)
   | (with_reducible exact freq_Scale.mono _ _ _)
   | (with_reducible exact freq_Total.mono _ _)
   | (with_reducible exact squelchlaw03_live.mono _)
   | (with_reducible exact squelchref03_Check.mono _ _)
   | (with_reducible exact LeO.refl _)
   | (with_reducible exact LeO.none _)
   | (with_reducible refine LeO.ite ?_ ?_)
   | (with_reducible refine LeO.bind ?_ (fun _ => ?_))
   | exact ih0 _ _ _ _
   | exact ih1 _ _ _ _ _
   | exact ih2 _ _ _ _ _ _ _ _
   | exact freq_Scale.mono _ _ _
   | exact freq_Total.mono _ _
   | exact squelchlaw03_live.mono _
   | exact squelchref03_Check.mono _ _
   | exact LeO.none _
   | refine LeO.ite ?_ ?_
   | refine LeO.bind ?_ (fun _ => ?_)
  ·intro y0 y1 y2 y3 y4
   unfold squelchlaw03_FreqScales.l0
   repeat' first
   | (with_reducible exact ih0 _ _ _ _)
   | (with_reducible exact ih1 _ _ _ _ _)
   | (with_reducible exact ih2 _ _ _ _ _ _ _ _)
   | (with_reducible exact freq_Scale.mono _ _ _)
   | (with_reducible exact freq_Total.mono _ _)
   | (with_reducible exact squelchlaw03_live.mono _)
   | (with_reducible exact squelchref03_Check.mono _ _)
   | (with_reducible exact LeO.refl _)
   | (with_reducible exact LeO.none _)
   | (with_reducible refine LeO.ite ?_ ?_)
   | (with_reducible refine LeO.bind ?_ (fun _ => ?_))
   | exact ih0 _ _ _ _
   | exact ih1 _ _ _ _ _
   | exact ih2 _ _ _ _ _ _ _ _
   | exact freq_Scale.mono _ _ _
   | exact freq_Total.mono _ _
   | exact squelchlaw03_live.mono _
   | exact squelchref03_Check.mono _ _
   | exact LeO.none _
   | refine LeO.ite ?_ ?_
   | refine LeO.bind ?_ (fun _ => ?_)
  ·intro y0 y1 y2 y3 y4 y5 y6 y7
   unfold squelchlaw03_FreqScales.l1
   repeat' first
   | (with_reducible exact ih0 _ _ _ _)
   | (with_reducible exact ih1 _ _ _ _ _)
   | (with_reducible exact ih2 _ _ _ _ _ _ _ _)
   | (with_reducible exact freq_Scale.mono _ _ _)
   | (with_reducible exact freq_Total.mono _ _)
   | (with_reducible exact squelchlaw03_live.mono _)
   | (with_reducible exact squelchref03_Check.mono _ _)
   | (with_reducible exact LeO.refl _)
   | (with_reducible exact LeO.none _)
   | (with_reducible refine LeO.ite ?_ ?_)
   | (with_reducible refine LeO.bind ?_ (fun _ => ?_))
   | exact ih0 _ _ _ _
   | exact ih1 _ _ _ _ _
   | exact ih2 _ _ _ _ _ _ _ _
   | exact freq_Scale.mono _ _ _
   | exact freq_Total.mono _ _
   | exact squelchlaw03_live.mono _
   | exact squelchref03_Check.mono _ _
   | exact LeO.none _
   | refine LeO.ite ?_ ?_
   | refine LeO.bind ?_ (fun _ => ?_)
theorem squelchlaw03_FreqScales.mono : ∀ a0 a1 k, LeO (squelchlaw03_FreqScales.f k a0 a1) (squelchlaw03_FreqScales.f (k + 1) a0 a1) := by
 intro a0 a1 k
 obtain ⟨ih0, ih1, ih2⟩ := squelchlaw03_FreqScales.mono_l k
 unfold squelchlaw03_FreqScales.f
 repeat' first
   | (with_reducible exact ih0 _ _ _ _)
   | (with_reducible exact ih1 _ _ _ _ _)
   | (with_reducible exact ih2 _ _ _ _ _ _ _ _)
   | (with_reducible exact freq_Scale.mono _ _ _)
   | (with_reducible exact freq_Total.mono _ _)
   | (with_reducible exact squelchlaw03_live.mono _)
   | (with_reducible exact squelchref03_Check.mono _ _)
   | (with_reducible exact LeO.refl _)
   | (with_reducible exact LeO.none _)
   | (with_reducible refine LeO.ite ?_ ?_)
   | (with_reducible refine LeO.bind ?_ (fun _ => ?_))
   | exact ih0 _ _ _ _
   | exact ih1 _ _ _ _ _
   | exact ih2 _ _ _ _ _ _ _ _
   | exact freq_Scale.mono _ _ _
   | exact freq_Total.mono _ _
   | exact squelchlaw03_live.mono _
   | exact squelchref03_Check.mono _ _
   | exact LeO.none _
   | refine LeO.ite ?_ ?_
   | refine LeO.bind ?_ (fun _ => ?_)
set_option maxHeartbeats 8000000 in
set_option maxRecDepth 100000 in
theorem squelchlaw03_FreqScales.calls (k : Nat) (a0 : Int) (A1 : Option Addr) (c1 : Nat) (l1 : List Int) (r : Bool) (w : World) (hr1 : Kd.C (Kd.int .i64) w A1 l1.length l1) (hc1 : l1.length ≤ c1) (h : squelchlaw03_FreqScales.f k a0 l1 = some r) (hr_ : r = true) :
  Calls Try.prog 3 #[.int .i64 a0, .slice A1 l1.length c1] w fun e w' => e = .returned (.bool r) ∧ Below w.heap.size w w' := by
 have HR_ := Aside0.mk hr_
 clear hr_
 have hu25 := Try.underlying25
 have HR1 := Aside0.mk hr1
 have HC1 := Aside0.mk hc1
 clear hr1 hc1
 have HB := Aside0.mk (Below.refl w.heap.size w)
 have H : ((squelchlaw03_live.f k).bind fun t268 => (if t268 = true then (if (l1.length : Int) > 300 then (some t268) else ((freq_Scale.f k a0 l1).bind fun bt269 => (if bt269.2 = 0 then ((squelchref03_Check.f k bt269.1).bind fun t274 => (if t274 = 0 then ((freq_Total.f k bt269.1).bind fun t275 => (if t275 = a0 then (squelchlaw03_FreqScales.j0 k l1 t268 ((bt269.1.length : Int) != (wrap64 ((l1.length : Int) + 1))) bt269.1) else (squelchlaw03_FreqScales.j0 k l1 t268 true bt269.1))) else (squelchlaw03_FreqScales.j0 k l1 t268 true bt269.1))) else (some ((bt269.1.length : Int) == 0))))) else (some false))) = some r := h
 clear h
 replace H := Option.bind_eq_some_iff.mp H
 obtain ⟨t268, A30, H⟩ := H
 replace H : (if t268 = true then (if (l1.length : Int) > 300 then (some t268) else ((freq_Scale.f k a0 l1).bind fun bt269 => (if bt269.2 = 0 then ((squelchref03_Check.f k bt269.1).bind fun t274 => (if t274 = 0 then ((freq_Total.f k bt269.1).bind fun t275 => (if t275 = a0 then (squelchlaw03_FreqScales.j0 k l1 t268 ((bt269.1.length : Int) != (wrap64 ((l1.length : Int) + 1))) bt269.1) else (squelchlaw03_FreqScales.j0 k l1 t268 true bt269.1))) else (squelchlaw03_FreqScales.j0 k l1 t268 true bt269.1))) else (some ((bt269.1.length : Int) == 0))))) else (some false)) = some r := H
 have A3 := Aside0.mk A30
 clear A30
 by_cases c4 : t268 = true
 ·subst c4
  have H1 : (if (l1.length : Int) > 300 then (some true) else ((freq_Scale.f k a0 l1).bind fun bt269 => (if bt269.2 = 0 then ((squelchref03_Check.f k bt269.1).bind fun t274 => (if t274 = 0 then ((freq_Total.f k bt269.1).bind fun t275 => (if t275 = a0 then (squelchlaw03_FreqScales.j0 k l1 true ((bt269.1.length : Int) != (wrap64 ((l1.length : Int) + 1))) bt269.1) else (squelchlaw03_FreqScales.j0 k l1 true true bt269.1))) else (squelchlaw03_FreqScales.j0 k l1 true true bt269.1))) else (some ((bt269.1.length : Int) == 0))))) = some r := by rw [if_pos rfl] at H; exact H
  clear H
  have H := H1
  clear H1
  by_cases c5 : (l1.length : Int) > 300
  ·rw [if_pos c5] at H
   have c5b0 : decide (300 < (l1.length : Int)) = true := decide_eq_true c5
   have c5b1 : decide (300 < l1.length) = true := decide_eq_true (by omega)
   clear c5
   obtain rfl := Option.some.inj H
   go_enter Try.func3, Try.ntmps3
   go_wp2_with (first | (go_at_call 8; (with_reducible refine (squelchlaw03_live.calls k  true _ A3.out).mono ?_); rintro e w6 ⟨rfl, hb⟩; have n0_ := Aside0.mk (below_step (by repeat (first | (with_reducible first | exact HB.out | apply below_alloc | apply pw_below_drewN | apply below_drew1) | exact HB.out)) hb); clear HB; have HB := n0_; clear n0_; (try clear hb); (try clear hb2); (try clear hk); (try clear hi)))
   repeat (go_quiet (first | (go_at_call 8; (with_reducible refine (squelchlaw03_live.calls k  true _ A3.out).mono ?_); rintro e w6 ⟨rfl, hb⟩; have n0_ := Aside0.mk (below_step (by repeat (first | (with_reducible first | exact HB.out | apply below_alloc | apply pw_below_drewN | apply below_drew1) | exact HB.out)) hb); clear HB; have HB := n0_; clear n0_; (try clear hb); (try clear hb2); (try clear hk); (try clear hi))); try go_wp2_with (first | (go_at_call 8; (with_reducible refine (squelchlaw03_live.calls k  true _ A3.out).mono ?_); rintro e w6 ⟨rfl, hb⟩; have n0_ := Aside0.mk (below_step (by repeat (first | (with_reducible first | exact HB.out | apply below_alloc | apply pw_below_drewN | apply below_drew1) | exact HB.out)) hb); clear HB; have HB := n0_; clear n0_; (try clear hb); (try clear hb2); (try clear hk); (try clear hi))))
   go_ret
   exact ⟨by first | rfl | (simp [errW_none, errW_some] <;> rfl) | (simp [*, errW_none, errW_some] <;> rfl) | (simp [wrap64]; done), by repeat (first | (with_reducible first | exact HB.out | apply below_alloc | apply pw_below_drewN | apply below_drew1) | exact HB.out)⟩
  ·rw [if_neg c5] at H
   have c5b0 : decide (300 < (l1.length : Int)) = false := decide_eq_false c5
   have c5b1 : decide (300 < l1.length) = false := decide_eq_false (by omega)
   clear c5
   replace H := Option.bind_eq_some_iff.mp H
   obtain ⟨⟨t269, t272⟩, A70, H⟩ := H
   replace H : (if t272 = 0 then ((squelchref03_Check.f k t269).bind fun t274 => (if t274 = 0 then ((freq_Total.f k t269).bind fun t275 => (if t275 = a0 then (squelchlaw03_FreqScales.j0 k l1 true ((t269.length : Int) != (wrap64 ((l1.length : Int) + 1))) t269) else (squelchlaw03_FreqScales.j0 k l1 true true t269))) else (squelchlaw03_FreqScales.j0 k l1 true true t269))) else (some ((t269.length : Int) == 0))) = some r := H
   have A7 := Aside0.mk A70
   clear A70
   by_cases c8 : t272 = 0
   ·rw [if_pos c8] at H
    have c8b0 : (t272 == 0) = true := beq_iff_eq.mpr c8
    have c8b1 : (t272 != 0) = false := bne_eq_false_iff_eq.mpr c8
    clear c8
    have HC9 := Aside0.mk H
    clear H
    go_enter Try.func3, Try.ntmps3
    go_upto_region 9 with (first | (go_at_call 8; (with_reducible refine (squelchlaw03_live.calls k  true _ A3.out).mono ?_); rintro e w10 ⟨rfl, hb⟩; have n0_ := Aside0.mk (below_step (by repeat (first | (with_reducible first | exact HB.out | apply below_alloc | apply pw_below_drewN | apply below_drew1) | exact HB.out)) hb); clear HB; have HB := n0_; clear n0_; (try clear hb); (try clear hb2); (try clear hk); (try clear hi)) | (go_at_call 9; (with_reducible refine (freq_Scale.calls k a0 _ _ l1 t269 t272 _ ?side1 ?side2 A7.out).mono ?_); (case side1 => repeat (first | exact (Kd.C_below HR1.out HB.out) | (with_reducible refine Kd.C_alloc ?_ _) | (with_reducible refine Kd.C_drewN ?_ _) | (with_reducible refine Kd.C_drew ?_))); (case side2 => exact HC1.out); rintro e w11 ⟨v270, rfl, ho0, hb⟩; have n0_ := Aside0.mk (Kd.R_lower ho0 (below_size (by repeat (first | (with_reducible first | exact HB.out | apply below_alloc | apply pw_below_drewN | apply below_drew1) | exact HB.out)))); have n1_ := Aside0.mk (below_step (by repeat (first | (with_reducible first | exact HB.out | apply below_alloc | apply pw_below_drewN | apply below_drew1) | exact HB.out)) hb); clear HB; have HO271 := n0_; have HB := n1_; clear n0_ n1_; (try clear hb); (try clear hb2); (try clear hk); (try clear hi); (try clear ho0)) | ((with_reducible refine gate_dst (N := 6) rfl ?_); (try (refine gate_guard (by rfl) ?_; dsimp only)); refine box_event ?hg (N := 6) ?hd (cs := #[.slice none 0 0]) (t := 25) ?hr ?_; (case hd => rfl); (case hg => rfl); (case hr => first | (go_simp; done) | (go_simp; rfl)); intro gb273 hg w12 hbox hb; have n0_ := Aside0.mk (Kd.R_below (by (with_reducible repeat (first | apply Kd.R_alloc | apply Kd.R_drewN | apply Kd.R_drew)); exact HO271.out) hb); have n1_ := Aside0.mk (below_step (by repeat (first | (with_reducible first | exact HB.out | apply below_alloc | apply pw_below_drewN | apply below_drew1) | exact HB.out)) hb); have n2_ := Aside0.mk (hbox); have n3_ := Aside0.mk ((by rw [hg]; exact (below_size (by repeat (first | (with_reducible first | exact HB.out | apply below_alloc | apply pw_below_drewN | apply below_drew1) | exact HB.out))) : w.heap.size ≤ gb273)); have n4_ := Aside0.mk ((by rw [hg]; exact (below_size (by repeat (first | (with_reducible first | exact HB.out | apply below_alloc | apply pw_below_drewN | apply below_drew1) | exact HB.out))) : w.heap.size ≤ gb273)); clear HO271; clear HB; have HO271 := n0_; have HB := n1_; have BK273 := n2_; have GW273 := n3_; have GE273 := n4_; clear n0_ n1_ n2_ n3_ n4_; clear hb hbox hg; obtain ⟨Ao13, co13, eo13⟩ := Kd.R_slice HO271.out; subst eo13; have hcz14_0 : w12.cell? ⟨gb273, 0, none⟩ = some (.slice none 0 0) := (blk_cell BK273.out 0).trans rfl; have hfz14_0 := blk_frozen BK273.out 0))
    repeat (go_quiet (first | (go_at_call 8; (with_reducible refine (squelchlaw03_live.calls k  true _ A3.out).mono ?_); rintro e w10 ⟨rfl, hb⟩; have n0_ := Aside0.mk (below_step (by repeat (first | (with_reducible first | exact HB.out | apply below_alloc | apply pw_below_drewN | apply below_drew1) | exact HB.out)) hb); clear HB; have HB := n0_; clear n0_; (try clear hb); (try clear hb2); (try clear hk); (try clear hi)) | (go_at_call 9; (with_reducible refine (freq_Scale.calls k a0 _ _ l1 t269 t272 _ ?side1 ?side2 A7.out).mono ?_); (case side1 => repeat (first | exact (Kd.C_below HR1.out HB.out) | (with_reducible refine Kd.C_alloc ?_ _) | (with_reducible refine Kd.C_drewN ?_ _) | (with_reducible refine Kd.C_drew ?_))); (case side2 => exact HC1.out); rintro e w11 ⟨v270, rfl, ho0, hb⟩; have n0_ := Aside0.mk (Kd.R_lower ho0 (below_size (by repeat (first | (with_reducible first | exact HB.out | apply below_alloc | apply pw_below_drewN | apply below_drew1) | exact HB.out)))); have n1_ := Aside0.mk (below_step (by repeat (first | (with_reducible first | exact HB.out | apply below_alloc | apply pw_below_drewN | apply below_drew1) | exact HB.out)) hb); clear HB; have HO271 := n0_; have HB := n1_; clear n0_ n1_; (try clear hb); (try clear hb2); (try clear hk); (try clear hi); (try clear ho0)) | ((with_reducible refine gate_dst (N := 6) rfl ?_); (try (refine gate_guard (by rfl) ?_; dsimp only)); refine box_event ?hg (N := 6) ?hd (cs := #[.slice none 0 0]) (t := 25) ?hr ?_; (case hd => rfl); (case hg => rfl); (case hr => first | (go_simp; done) | (go_simp; rfl)); intro gb273 hg w12 hbox hb; have n0_ := Aside0.mk (Kd.R_below (by (with_reducible repeat (first | apply Kd.R_alloc | apply Kd.R_drewN | apply Kd.R_drew)); exact HO271.out) hb); have n1_ := Aside0.mk (below_step (by repeat (first | (with_reducible first | exact HB.out | apply below_alloc | apply pw_below_drewN | apply below_drew1) | exact HB.out)) hb); have n2_ := Aside0.mk (hbox); have n3_ := Aside0.mk ((by rw [hg]; exact (below_size (by repeat (first | (with_reducible first | exact HB.out | apply below_alloc | apply pw_below_drewN | apply below_drew1) | exact HB.out))) : w.heap.size ≤ gb273)); have n4_ := Aside0.mk ((by rw [hg]; exact (below_size (by repeat (first | (with_reducible first | exact HB.out | apply below_alloc | apply pw_below_drewN | apply below_drew1) | exact HB.out))) : w.heap.size ≤ gb273)); clear HO271; clear HB; have HO271 := n0_; have HB := n1_; have BK273 := n2_; have GW273 := n3_; have GE273 := n4_; clear n0_ n1_ n2_ n3_ n4_; clear hb hbox hg; obtain ⟨Ao13, co13, eo13⟩ := Kd.R_slice HO271.out; subst eo13; have hcz14_0 : w12.cell? ⟨gb273, 0, none⟩ = some (.slice none 0 0) := (blk_cell BK273.out 0).trans rfl; have hfz14_0 := blk_frozen BK273.out 0)); go_upto_region 9 with (first | (go_at_call 8; (with_reducible refine (squelchlaw03_live.calls k  true _ A3.out).mono ?_); rintro e w10 ⟨rfl, hb⟩; have n0_ := Aside0.mk (below_step (by repeat (first | (with_reducible first | exact HB.out | apply below_alloc | apply pw_below_drewN | apply below_drew1) | exact HB.out)) hb); clear HB; have HB := n0_; clear n0_; (try clear hb); (try clear hb2); (try clear hk); (try clear hi)) | (go_at_call 9; (with_reducible refine (freq_Scale.calls k a0 _ _ l1 t269 t272 _ ?side1 ?side2 A7.out).mono ?_); (case side1 => repeat (first | exact (Kd.C_below HR1.out HB.out) | (with_reducible refine Kd.C_alloc ?_ _) | (with_reducible refine Kd.C_drewN ?_ _) | (with_reducible refine Kd.C_drew ?_))); (case side2 => exact HC1.out); rintro e w11 ⟨v270, rfl, ho0, hb⟩; have n0_ := Aside0.mk (Kd.R_lower ho0 (below_size (by repeat (first | (with_reducible first | exact HB.out | apply below_alloc | apply pw_below_drewN | apply below_drew1) | exact HB.out)))); have n1_ := Aside0.mk (below_step (by repeat (first | (with_reducible first | exact HB.out | apply below_alloc | apply pw_below_drewN | apply below_drew1) | exact HB.out)) hb); clear HB; have HO271 := n0_; have HB := n1_; clear n0_ n1_; (try clear hb); (try clear hb2); (try clear hk); (try clear hi); (try clear ho0)) | ((with_reducible refine gate_dst (N := 6) rfl ?_); (try (refine gate_guard (by rfl) ?_; dsimp only)); refine box_event ?hg (N := 6) ?hd (cs := #[.slice none 0 0]) (t := 25) ?hr ?_; (case hd => rfl); (case hg => rfl); (case hr => first | (go_simp; done) | (go_simp; rfl)); intro gb273 hg w12 hbox hb; have n0_ := Aside0.mk (Kd.R_below (by (with_reducible repeat (first | apply Kd.R_alloc | apply Kd.R_drewN | apply Kd.R_drew)); exact HO271.out) hb); have n1_ := Aside0.mk (below_step (by repeat (first | (with_reducible first | exact HB.out | apply below_alloc | apply pw_below_drewN | apply below_drew1) | exact HB.out)) hb); have n2_ := Aside0.mk (hbox); have n3_ := Aside0.mk ((by rw [hg]; exact (below_size (by repeat (first | (with_reducible first | exact HB.out | apply below_alloc | apply pw_below_drewN | apply below_drew1) | exact HB.out))) : w.heap.size ≤ gb273)); have n4_ := Aside0.mk ((by rw [hg]; exact (below_size (by repeat (first | (with_reducible first | exact HB.out | apply below_alloc | apply pw_below_drewN | apply below_drew1) | exact HB.out))) : w.heap.size ≤ gb273)); clear HO271; clear HB; have HO271 := n0_; have HB := n1_; have BK273 := n2_; have GW273 := n3_; have GE273 := n4_; clear n0_ n1_ n2_ n3_ n4_; clear hb hbox hg; obtain ⟨Ao13, co13, eo13⟩ := Kd.R_slice HO271.out; subst eo13; have hcz14_0 : w12.cell? ⟨gb273, 0, none⟩ = some (.slice none 0 0) := (blk_cell BK273.out 0).trans rfl; have hfz14_0 := blk_frozen BK273.out 0)))
    (try simp only [Act.put, List.setIfInBounds_toArray, List.set_cons_zero, List.set_cons_succ])
    go_cut [51] (fun v51 wc => ∃ (kq : Nat) (x51_8 : Bool), v51 = .bool x51_8 ∧ Aside0 (squelchlaw03_FreqScales.j0 kq l1 true x51_8 t269 = some r) ∧ Aside0 (kq ≤ k) ∧ Aside0 (Kd.R (Kd.int .i64) 3 wc w.heap.size (fun _ => True) (.slice Ao13 t269.length co13) t269) ∧ Aside0 (wc.heap[gb273]? = some (.cells #[(.slice Ao13 t269.length co13)] 25 (0, 0))) ∧ Aside0 (Below w.heap.size w wc))
    case first =>
     have H := HC9.out
     clear HC9
     replace H := Option.bind_eq_some_iff.mp H
     obtain ⟨t274, A150, H⟩ := H
     replace H : (if t274 = 0 then ((freq_Total.f k t269).bind fun t275 => (if t275 = a0 then (squelchlaw03_FreqScales.j0 k l1 true ((t269.length : Int) != (wrap64 ((l1.length : Int) + 1))) t269) else (squelchlaw03_FreqScales.j0 k l1 true true t269))) else (squelchlaw03_FreqScales.j0 k l1 true true t269)) = some r := H
     have A15 := Aside0.mk A150
     clear A150
     by_cases c16 : t274 = 0
     ·rw [if_pos c16] at H
      have c16b0 : (t274 == 0) = true := beq_iff_eq.mpr c16
      have c16b1 : (t274 != 0) = false := bne_eq_false_iff_eq.mpr c16
      clear c16
      (first | rw [c16b0] | (simp only [i64_w, i32_w]; rw [c16b0]) | skip)
      replace H := Option.bind_eq_some_iff.mp H
      obtain ⟨t275, A170, H⟩ := H
      replace H : (if t275 = a0 then (squelchlaw03_FreqScales.j0 k l1 true ((t269.length : Int) != (wrap64 ((l1.length : Int) + 1))) t269) else (squelchlaw03_FreqScales.j0 k l1 true true t269)) = some r := H
      have A17 := Aside0.mk A170
      clear A170
      by_cases c18 : t275 = a0
      ·rw [if_pos c18] at H
       have c18b0 : (t275 == a0) = true := beq_iff_eq.mpr c18
       have c18b1 : (t275 != a0) = false := bne_eq_false_iff_eq.mpr c18
       clear c18
       have H' := Aside0.mk H
       clear H
       have hcz19_0 : w12.cell? ⟨gb273, 0, none⟩ = some (.slice none 0 0) := (blk_cell BK273.out 0).trans rfl
       have hfz19_0 := blk_frozen BK273.out 0
       go_wp2_with (first | (go_at_call 10; (with_reducible refine (squelchref03_Check.calls k _ _ t269 t274 _ ?side1 ?side2 A15.out).mono ?_); (case side1 => refine (Kd.R_reads' (e := 3) (base := w.heap.size) (ok := fun k_ => True) (n := t269.length) (c := co13) ?_).2.2; exact (by (with_reducible repeat (first | apply Kd.R_alloc | apply Kd.R_drewN | apply Kd.R_drew)); exact (Kd.R_mono (Kd.R_far (p := ⟨gb273, 0, none⟩) (Kd.R_types HO271.out BK273.out (by decide)) (fun _ hk => hk.2) (.slice Ao13 t269.length co13)) (fun _ h_ => h_.1)))); (case side2 => exact (Kd.R_reads' HO271.out).2.1); rintro e w20 ⟨rfl, hb⟩; have n0_ := Aside0.mk (Kd.R_below (by (with_reducible repeat (first | apply Kd.R_alloc | apply Kd.R_drewN | apply Kd.R_drew)); exact (Kd.R_mono (Kd.R_far (p := ⟨gb273, 0, none⟩) (Kd.R_types HO271.out BK273.out (by decide)) (fun _ hk => hk.2) (.slice Ao13 t269.length co13)) (fun _ h_ => h_.1))) hb); have n1_ := Aside0.mk (blk_below (g := gb273) (o := .cells #[.slice Ao13 t269.length co13] 25 (0, 0)) (by (with_reducible repeat (first | refine blk_drewN ?_ _ | refine blk_drew ?_ | refine blk_alloc ?_ _)); refine blk_put (cs := #[.slice none 0 0]) ?_ 0 _ rfl; (with_reducible repeat (first | refine blk_drewN ?_ _ | refine blk_drew ?_ | refine blk_alloc ?_ _)); exact BK273.out) hb); have n2_ := Aside0.mk (below_step (by repeat (first | (with_reducible first | exact HB.out | apply below_alloc | apply pw_below_drewN | apply below_drew1 | refine below_set ?_ GE273.out) | exact HB.out)) hb); clear HO271; clear BK273; clear HB; have HO271 := n0_; have BK273 := n1_; have HB := n2_; clear n0_ n1_ n2_; (try clear hb); (try clear hb2); (try clear hk); (try clear hi); have hcz21_0 : w20.cell? ⟨gb273, 0, none⟩ = some (.slice Ao13 t269.length co13) := (blk_cell BK273.out 0).trans rfl; have hfz21_0 := blk_frozen BK273.out 0) | (go_at_call 11; (with_reducible refine (freq_Total.calls k _ _ t269 t275 _ ?side1 ?side2 A17.out).mono ?_); (case side1 => repeat (first | exact (Kd.R_reads' HO271.out).2.2 | (with_reducible refine Kd.C_alloc ?_ _) | (with_reducible refine Kd.C_drewN ?_ _) | (with_reducible refine Kd.C_drew ?_))); (case side2 => exact (Kd.R_reads' HO271.out).2.1); rintro e w22 ⟨rfl, hb⟩; have n0_ := Aside0.mk (Kd.R_below (by (with_reducible repeat (first | apply Kd.R_alloc | apply Kd.R_drewN | apply Kd.R_drew)); exact HO271.out) hb); have n1_ := Aside0.mk (blk_below (g := gb273) (o := .cells #[.slice Ao13 t269.length co13] 25 (0, 0)) (by (with_reducible repeat (first | refine blk_drewN ?_ _ | refine blk_drew ?_ | refine blk_alloc ?_ _)); exact BK273.out) hb); have n2_ := Aside0.mk (below_step (by repeat (first | (with_reducible first | exact HB.out | apply below_alloc | apply pw_below_drewN | apply below_drew1 | refine below_set ?_ GE273.out) | exact HB.out)) hb); clear HO271; clear BK273; clear HB; have HO271 := n0_; have BK273 := n1_; have HB := n2_; clear n0_ n1_ n2_; (try clear hb); (try clear hb2); (try clear hk); (try clear hi); have hcz23_0 : w22.cell? ⟨gb273, 0, none⟩ = some (.slice Ao13 t269.length co13) := (blk_cell BK273.out 0).trans rfl; have hfz23_0 := blk_frozen BK273.out 0))
       repeat (go_quiet (first | (go_at_call 10; (with_reducible refine (squelchref03_Check.calls k _ _ t269 t274 _ ?side1 ?side2 A15.out).mono ?_); (case side1 => refine (Kd.R_reads' (e := 3) (base := w.heap.size) (ok := fun k_ => True) (n := t269.length) (c := co13) ?_).2.2; exact (by (with_reducible repeat (first | apply Kd.R_alloc | apply Kd.R_drewN | apply Kd.R_drew)); exact (Kd.R_mono (Kd.R_far (p := ⟨gb273, 0, none⟩) (Kd.R_types HO271.out BK273.out (by decide)) (fun _ hk => hk.2) (.slice Ao13 t269.length co13)) (fun _ h_ => h_.1)))); (case side2 => exact (Kd.R_reads' HO271.out).2.1); rintro e w20 ⟨rfl, hb⟩; have n0_ := Aside0.mk (Kd.R_below (by (with_reducible repeat (first | apply Kd.R_alloc | apply Kd.R_drewN | apply Kd.R_drew)); exact (Kd.R_mono (Kd.R_far (p := ⟨gb273, 0, none⟩) (Kd.R_types HO271.out BK273.out (by decide)) (fun _ hk => hk.2) (.slice Ao13 t269.length co13)) (fun _ h_ => h_.1))) hb); have n1_ := Aside0.mk (blk_below (g := gb273) (o := .cells #[.slice Ao13 t269.length co13] 25 (0, 0)) (by (with_reducible repeat (first | refine blk_drewN ?_ _ | refine blk_drew ?_ | refine blk_alloc ?_ _)); refine blk_put (cs := #[.slice none 0 0]) ?_ 0 _ rfl; (with_reducible repeat (first | refine blk_drewN ?_ _ | refine blk_drew ?_ | refine blk_alloc ?_ _)); exact BK273.out) hb); have n2_ := Aside0.mk (below_step (by repeat (first | (with_reducible first | exact HB.out | apply below_alloc | apply pw_below_drewN | apply below_drew1 | refine below_set ?_ GE273.out) | exact HB.out)) hb); clear HO271; clear BK273; clear HB; have HO271 := n0_; have BK273 := n1_; have HB := n2_; clear n0_ n1_ n2_; (try clear hb); (try clear hb2); (try clear hk); (try clear hi); have hcz21_0 : w20.cell? ⟨gb273, 0, none⟩ = some (.slice Ao13 t269.length co13) := (blk_cell BK273.out 0).trans rfl; have hfz21_0 := blk_frozen BK273.out 0) | (go_at_call 11; (with_reducible refine (freq_Total.calls k _ _ t269 t275 _ ?side1 ?side2 A17.out).mono ?_); (case side1 => repeat (first | exact (Kd.R_reads' HO271.out).2.2 | (with_reducible refine Kd.C_alloc ?_ _) | (with_reducible refine Kd.C_drewN ?_ _) | (with_reducible refine Kd.C_drew ?_))); (case side2 => exact (Kd.R_reads' HO271.out).2.1); rintro e w22 ⟨rfl, hb⟩; have n0_ := Aside0.mk (Kd.R_below (by (with_reducible repeat (first | apply Kd.R_alloc | apply Kd.R_drewN | apply Kd.R_drew)); exact HO271.out) hb); have n1_ := Aside0.mk (blk_below (g := gb273) (o := .cells #[.slice Ao13 t269.length co13] 25 (0, 0)) (by (with_reducible repeat (first | refine blk_drewN ?_ _ | refine blk_drew ?_ | refine blk_alloc ?_ _)); exact BK273.out) hb); have n2_ := Aside0.mk (below_step (by repeat (first | (with_reducible first | exact HB.out | apply below_alloc | apply pw_below_drewN | apply below_drew1 | refine below_set ?_ GE273.out) | exact HB.out)) hb); clear HO271; clear BK273; clear HB; have HO271 := n0_; have BK273 := n1_; have HB := n2_; clear n0_ n1_ n2_; (try clear hb); (try clear hb2); (try clear hk); (try clear hi); have hcz23_0 : w22.cell? ⟨gb273, 0, none⟩ = some (.slice Ao13 t269.length co13) := (blk_cell BK273.out 0).trans rfl; have hfz23_0 := blk_frozen BK273.out 0)); try go_wp2_with (first | (go_at_call 10; (with_reducible refine (squelchref03_Check.calls k _ _ t269 t274 _ ?side1 ?side2 A15.out).mono ?_); (case side1 => refine (Kd.R_reads' (e := 3) (base := w.heap.size) (ok := fun k_ => True) (n := t269.length) (c := co13) ?_).2.2; exact (by (with_reducible repeat (first | apply Kd.R_alloc | apply Kd.R_drewN | apply Kd.R_drew)); exact (Kd.R_mono (Kd.R_far (p := ⟨gb273, 0, none⟩) (Kd.R_types HO271.out BK273.out (by decide)) (fun _ hk => hk.2) (.slice Ao13 t269.length co13)) (fun _ h_ => h_.1)))); (case side2 => exact (Kd.R_reads' HO271.out).2.1); rintro e w20 ⟨rfl, hb⟩; have n0_ := Aside0.mk (Kd.R_below (by (with_reducible repeat (first | apply Kd.R_alloc | apply Kd.R_drewN | apply Kd.R_drew)); exact (Kd.R_mono (Kd.R_far (p := ⟨gb273, 0, none⟩) (Kd.R_types HO271.out BK273.out (by decide)) (fun _ hk => hk.2) (.slice Ao13 t269.length co13)) (fun _ h_ => h_.1))) hb); have n1_ := Aside0.mk (blk_below (g := gb273) (o := .cells #[.slice Ao13 t269.length co13] 25 (0, 0)) (by (with_reducible repeat (first | refine blk_drewN ?_ _ | refine blk_drew ?_ | refine blk_alloc ?_ _)); refine blk_put (cs := #[.slice none 0 0]) ?_ 0 _ rfl; (with_reducible repeat (first | refine blk_drewN ?_ _ | refine blk_drew ?_ | refine blk_alloc ?_ _)); exact BK273.out) hb); have n2_ := Aside0.mk (below_step (by repeat (first | (with_reducible first | exact HB.out | apply below_alloc | apply pw_below_drewN | apply below_drew1 | refine below_set ?_ GE273.out) | exact HB.out)) hb); clear HO271; clear BK273; clear HB; have HO271 := n0_; have BK273 := n1_; have HB := n2_; clear n0_ n1_ n2_; (try clear hb); (try clear hb2); (try clear hk); (try clear hi); have hcz21_0 : w20.cell? ⟨gb273, 0, none⟩ = some (.slice Ao13 t269.length co13) := (blk_cell BK273.out 0).trans rfl; have hfz21_0 := blk_frozen BK273.out 0) | (go_at_call 11; (with_reducible refine (freq_Total.calls k _ _ t269 t275 _ ?side1 ?side2 A17.out).mono ?_); (case side1 => repeat (first | exact (Kd.R_reads' HO271.out).2.2 | (with_reducible refine Kd.C_alloc ?_ _) | (with_reducible refine Kd.C_drewN ?_ _) | (with_reducible refine Kd.C_drew ?_))); (case side2 => exact (Kd.R_reads' HO271.out).2.1); rintro e w22 ⟨rfl, hb⟩; have n0_ := Aside0.mk (Kd.R_below (by (with_reducible repeat (first | apply Kd.R_alloc | apply Kd.R_drewN | apply Kd.R_drew)); exact HO271.out) hb); have n1_ := Aside0.mk (blk_below (g := gb273) (o := .cells #[.slice Ao13 t269.length co13] 25 (0, 0)) (by (with_reducible repeat (first | refine blk_drewN ?_ _ | refine blk_drew ?_ | refine blk_alloc ?_ _)); exact BK273.out) hb); have n2_ := Aside0.mk (below_step (by repeat (first | (with_reducible first | exact HB.out | apply below_alloc | apply pw_below_drewN | apply below_drew1 | refine below_set ?_ GE273.out) | exact HB.out)) hb); clear HO271; clear BK273; clear HB; have HO271 := n0_; have BK273 := n1_; have HB := n2_; clear n0_ n1_ n2_; (try clear hb); (try clear hb2); (try clear hk); (try clear hi); have hcz23_0 : w22.cell? ⟨gb273, 0, none⟩ = some (.slice Ao13 t269.length co13) := (blk_cell BK273.out 0).trans rfl; have hfz23_0 := blk_frozen BK273.out 0)))
       go_meet
       case rel => exact ⟨_, (((t269.length : Int) != (wrap64 ((l1.length : Int) + 1)))), (by first | rfl | (simp; done) | (simp [*]; done)), H', ⟨by first | omega | exact Nat.le_refl _⟩, ⟨by (with_reducible repeat (first | apply Kd.R_alloc | apply Kd.R_drewN | apply Kd.R_drew)); exact HO271.out⟩, ⟨by (with_reducible repeat (first | refine blk_drewN ?_ _ | refine blk_drew ?_ | refine blk_alloc ?_ _)); exact BK273.out⟩, ⟨by repeat (first | (with_reducible first | exact HB.out | apply below_alloc | apply pw_below_drewN | apply below_drew1 | refine below_set ?_ GE273.out) | exact HB.out)⟩⟩
      ·rw [if_neg c18] at H
       have c18b0 : (t275 == a0) = false := beq_eq_false_iff_ne.mpr c18
       have c18b1 : (t275 != a0) = true := bne_iff_ne.mpr c18
       exfalso
       revert H
       cases k with
       | zero => simp [squelchlaw03_FreqScales.j0]
       | succ k_ => simp only [squelchlaw03_FreqScales.j0, eq_self, if_true]; intro h_; exact absurd HR_.out (by rw [← Option.some.inj h_]; decide)
     ·rw [if_neg c16] at H
      have c16b0 : (t274 == 0) = false := beq_eq_false_iff_ne.mpr c16
      have c16b1 : (t274 != 0) = true := bne_iff_ne.mpr c16
      (first | rw [c16b0] | (simp only [i64_w, i32_w]; rw [c16b0]) | skip)
      exfalso
      revert H
      cases k with
      | zero => simp [squelchlaw03_FreqScales.j0]
      | succ k_ => simp only [squelchlaw03_FreqScales.j0, eq_self, if_true]; intro h_; exact absurd HR_.out (by rw [← Option.some.inj h_]; decide)
    case rest =>
     clear HC9
     try clear c1
     try clear p2
     try clear c3
     try clear c4
     try clear c5
     try clear c5b0
     try clear c5b1
     try clear p6
     try clear c8
     try clear c8b0
     try clear c8b1
     try clear c16
     try clear c16b0
     try clear c16b1
     try clear c18
     try clear c18b0
     try clear c18b1
     try clear hcz14_0
     try clear hcz19_0
     try clear hcz21_0
     try clear hcz23_0
     try clear hfz14_0
     try clear hfz19_0
     try clear hfz21_0
     try clear hfz23_0
     obtain ⟨kq, x51_8, rfl, HA, HJ8, HO_274000, BK273, HB⟩ := hcut
     cases kq with
     | zero => exact absurd HA.out (by simp [squelchlaw03_FreqScales.j0])
     | succ kj8 =>
      have H := HA.out
      clear HA
      simp only [squelchlaw03_FreqScales.j0] at H
      by_cases c24 : x51_8 = true
      ·subst c24
       have H1 : (some false) = some r := by rw [if_pos rfl] at H; exact H
       clear H
       have H := H1
       clear H1
       obtain rfl := Option.some.inj H
       exact absurd HR_.out (by simp)
      ·replace c24 := Bool.eq_false_iff.mpr c24
       subst c24
       have H1 : (squelchlaw03_FreqScales.l0 kj8 l1 true (l1.length : Int) 0 t269) = some r := by rw [if_neg (show ¬ (false = true) by decide)] at H; exact H
       clear H
       have H := H1
       clear H1
       have H' := Aside0.mk H
       clear H
       go_wp2
       repeat (go_quiet (fail); try go_wp2)
       (try simp only [Act.put, List.setIfInBounds_toArray, List.set_cons_zero, List.set_cons_succ])
       go_loopg [54] kj8 (fun kq v54 w' => ∃ (x54_2 : Int), v54 = .int .i64 x54_2 ∧ Aside0 (squelchlaw03_FreqScales.l0 kq l1 true (l1.length : Int) x54_2 t269 = some r) ∧ Aside0 (kq ≤ kj8) ∧ Aside0 (Kd.R (Kd.int .i64) 3 w' w.heap.size (fun _ => True) (.slice Ao13 t269.length co13) t269) ∧ Aside0 (w'.heap[gb273]? = some (.cells #[(.slice Ao13 t269.length co13)] 25 (0, 0))) ∧ Aside0 (Below w.heap.size w w'))
       case atStart => exact ⟨(0), (by first | rfl | (simp; done) | (simp [*]; done)), H', ⟨Nat.le_refl _⟩, ⟨by (with_reducible repeat (first | apply Kd.R_alloc | apply Kd.R_drewN | apply Kd.R_drew)); exact HO_274000.out⟩, ⟨by (with_reducible repeat (first | refine blk_drewN ?_ _ | refine blk_drew ?_ | refine blk_alloc ?_ _)); exact BK273.out⟩, ⟨by repeat (first | (with_reducible first | exact HB.out | apply below_alloc | apply pw_below_drewN | apply below_drew1 | refine below_set ?_ GE273.out) | exact HB.out)⟩⟩
       case round =>
        clear H'
        try clear c1
        try clear c2
        try clear p2
        try clear c3
        try clear c4
        try clear c5
        try clear c5b0
        try clear c5b1
        try clear p6
        try clear c8
        try clear c8b0
        try clear c8b1
        try clear c16
        try clear c16b0
        try clear c16b1
        try clear c18
        try clear c18b0
        try clear c18b1
        try clear c24
        try clear hcz14_0
        try clear hcz19_0
        try clear hcz21_0
        try clear hcz23_0
        try clear hfz14_0
        try clear hfz19_0
        try clear hfz21_0
        try clear hfz23_0
        try clear p2
        try clear p6
        obtain ⟨x54_2, rfl, HA, HK2, HO_274000, BK273, HB⟩ := hrel
        cases gk with
        | zero => exact absurd HA.out (by simp [squelchlaw03_FreqScales.l0])
        | succ k2 =>
         have H := HA.out
         clear HA
         simp only [squelchlaw03_FreqScales.l0] at H
         by_cases c25 : x54_2 < (l1.length : Int)
         ·rw [if_pos c25] at H
          have c25b0 : decide (x54_2 < (l1.length : Int)) = true := decide_eq_true c25
          clear c25
          have H' := Aside0.mk H
          clear H
          go_wp2
          repeat (go_quiet (fail); try go_wp2)
          (try simp only [Act.put, List.setIfInBounds_toArray, List.set_cons_zero, List.set_cons_succ])
          go_loopg [59] k2 (fun kq v59 w' => ∃ (x59_3 : Int), v59 = .int .i64 x59_3 ∧ Aside0 (squelchlaw03_FreqScales.l1 kq l1 true x54_2 (l1.length : Int) x54_2 (l1.length : Int) x59_3 t269 = some r) ∧ Aside0 (kq ≤ k2) ∧ Aside0 (Kd.R (Kd.int .i64) 3 w' w.heap.size (fun _ => True) (.slice Ao13 t269.length co13) t269) ∧ Aside0 (w'.heap[gb273]? = some (.cells #[(.slice Ao13 t269.length co13)] 25 (0, 0))) ∧ Aside0 (Below w.heap.size w w'))
          case atStart => exact ⟨(0), (by first | rfl | (simp; done) | (simp [*]; done)), H', ⟨Nat.le_refl _⟩, ⟨by (with_reducible repeat (first | apply Kd.R_alloc | apply Kd.R_drewN | apply Kd.R_drew)); exact HO_274000.out⟩, ⟨by (with_reducible repeat (first | refine blk_drewN ?_ _ | refine blk_drew ?_ | refine blk_alloc ?_ _)); exact BK273.out⟩, ⟨by repeat (first | (with_reducible first | exact HB.out | apply below_alloc | apply pw_below_drewN | apply below_drew1 | refine below_set ?_ GE273.out) | exact HB.out)⟩⟩
          case round =>
           clear H'
           try clear c1
           try clear c2
           try clear p2
           try clear c3
           try clear c4
           try clear c5
           try clear c5b0
           try clear c5b1
           try clear p6
           try clear c8
           try clear c8b0
           try clear c8b1
           try clear c16
           try clear c16b0
           try clear c16b1
           try clear c18
           try clear c18b0
           try clear c18b1
           try clear c24
           try clear c25
           try clear c25b0
           try clear hcz14_0
           try clear hcz19_0
           try clear hcz21_0
           try clear hcz23_0
           try clear hfz14_0
           try clear hfz19_0
           try clear hfz21_0
           try clear hfz23_0
           try clear p2
           try clear p6
           obtain ⟨x59_3, rfl, HA, HK3, HO_274000, BK273, HB⟩ := hrel
           cases gk with
           | zero => exact absurd HA.out (by simp [squelchlaw03_FreqScales.l1])
           | succ k3 =>
            have H := HA.out
            clear HA
            simp only [squelchlaw03_FreqScales.l1] at H
            by_cases c26 : x59_3 < (l1.length : Int)
            ·rw [if_pos c26] at H
             have c26b0 : decide (x59_3 < (l1.length : Int)) = true := decide_eq_true c26
             clear c26
             obtain ⟨ji27, hji27⟩ : ∃ j_ : Int, (wrap64 (x54_2 + 1)) = j_ := ⟨_, rfl⟩
             replace H : (if 0 ≤ (ji27) then (if (ji27) < (t269.length : Int) then (if 0 ≤ x54_2 then (if x54_2 < (t269.length : Int) then (if 0 ≤ (wrap64 (x59_3 + 1)) then (if (wrap64 (x59_3 + 1)) < (t269.length : Int) then (if 0 ≤ x59_3 then (if x59_3 < (t269.length : Int) then (if x54_2 < (l1.length : Int) then (if x59_3 < (l1.length : Int) then (if (rd l1 x54_2) > (rd l1 x59_3) then (if (wrap64 ((rd t269 (ji27)) - (rd t269 x54_2))) < (wrap64 ((wrap64 ((rd t269 (wrap64 (x59_3 + 1))) - (rd t269 x59_3))) - 1)) then (some false) else (if (rd l1 x54_2) = (rd l1 x59_3) then (if (wrap64 ((rd t269 (ji27)) - (rd t269 x54_2))) > (wrap64 ((wrap64 ((rd t269 (wrap64 (x59_3 + 1))) - (rd t269 x59_3))) + 1)) then (some false) else (if (wrap64 ((rd t269 (wrap64 (x59_3 + 1))) - (rd t269 x59_3))) > (wrap64 ((wrap64 ((rd t269 (ji27)) - (rd t269 x54_2))) + 1)) then (some false) else (squelchlaw03_FreqScales.l1 k3 l1 true x54_2 (l1.length : Int) x54_2 (l1.length : Int) (wrap64 (x59_3 + 1)) t269))) else (squelchlaw03_FreqScales.l1 k3 l1 true x54_2 (l1.length : Int) x54_2 (l1.length : Int) (wrap64 (x59_3 + 1)) t269))) else (if (rd l1 x54_2) = (rd l1 x59_3) then (if (wrap64 ((rd t269 (ji27)) - (rd t269 x54_2))) > (wrap64 ((wrap64 ((rd t269 (wrap64 (x59_3 + 1))) - (rd t269 x59_3))) + 1)) then (some false) else (if (wrap64 ((rd t269 (wrap64 (x59_3 + 1))) - (rd t269 x59_3))) > (wrap64 ((wrap64 ((rd t269 (ji27)) - (rd t269 x54_2))) + 1)) then (some false) else (squelchlaw03_FreqScales.l1 k3 l1 true x54_2 (l1.length : Int) x54_2 (l1.length : Int) (wrap64 (x59_3 + 1)) t269))) else (squelchlaw03_FreqScales.l1 k3 l1 true x54_2 (l1.length : Int) x54_2 (l1.length : Int) (wrap64 (x59_3 + 1)) t269))) else (none)) else (none)) else (none)) else (none)) else (none)) else (none)) else (none)) else (none)) else (none)) else (none)) = some r := by first | (rw [hji27] at H; exact H) | (simp only [hji27] at H ⊢; exact H)
             have hji27w : (IntKind.i64.wrap (x54_2 + 1)) = ji27 := (i64_w _).trans hji27
             by_cases c28 : 0 ≤ (ji27)
             ·rw [if_pos c28] at H
              have c28b0 : decide (0 ≤ (ji27)) = true := decide_eq_true c28
              clear c28
              by_cases c29 : (ji27) < (t269.length : Int)
              ·rw [if_pos c29] at H
               have c29b0 : decide ((ji27) < (t269.length : Int)) = true := decide_eq_true c29
               clear c29
               by_cases c30 : 0 ≤ x54_2
               ·rw [if_pos c30] at H
                have c30b0 : decide (0 ≤ x54_2) = true := decide_eq_true c30
                clear c30
                by_cases c31 : x54_2 < (t269.length : Int)
                ·rw [if_pos c31] at H
                 have c31b0 : decide (x54_2 < (t269.length : Int)) = true := decide_eq_true c31
                 clear c31
                 obtain ⟨ji32, hji32⟩ : ∃ j_ : Int, (wrap64 (x59_3 + 1)) = j_ := ⟨_, rfl⟩
                 replace H : (if 0 ≤ (ji32) then (if (ji32) < (t269.length : Int) then (if 0 ≤ x59_3 then (if x59_3 < (t269.length : Int) then (if x54_2 < (l1.length : Int) then (if x59_3 < (l1.length : Int) then (if (rd l1 x54_2) > (rd l1 x59_3) then (if (wrap64 ((rd t269 (ji27)) - (rd t269 x54_2))) < (wrap64 ((wrap64 ((rd t269 (ji32)) - (rd t269 x59_3))) - 1)) then (some false) else (if (rd l1 x54_2) = (rd l1 x59_3) then (if (wrap64 ((rd t269 (ji27)) - (rd t269 x54_2))) > (wrap64 ((wrap64 ((rd t269 (ji32)) - (rd t269 x59_3))) + 1)) then (some false) else (if (wrap64 ((rd t269 (ji32)) - (rd t269 x59_3))) > (wrap64 ((wrap64 ((rd t269 (ji27)) - (rd t269 x54_2))) + 1)) then (some false) else (squelchlaw03_FreqScales.l1 k3 l1 true x54_2 (l1.length : Int) x54_2 (l1.length : Int) ji32 t269))) else (squelchlaw03_FreqScales.l1 k3 l1 true x54_2 (l1.length : Int) x54_2 (l1.length : Int) ji32 t269))) else (if (rd l1 x54_2) = (rd l1 x59_3) then (if (wrap64 ((rd t269 (ji27)) - (rd t269 x54_2))) > (wrap64 ((wrap64 ((rd t269 (ji32)) - (rd t269 x59_3))) + 1)) then (some false) else (if (wrap64 ((rd t269 (ji32)) - (rd t269 x59_3))) > (wrap64 ((wrap64 ((rd t269 (ji27)) - (rd t269 x54_2))) + 1)) then (some false) else (squelchlaw03_FreqScales.l1 k3 l1 true x54_2 (l1.length : Int) x54_2 (l1.length : Int) ji32 t269))) else (squelchlaw03_FreqScales.l1 k3 l1 true x54_2 (l1.length : Int) x54_2 (l1.length : Int) ji32 t269))) else (none)) else (none)) else (none)) else (none)) else (none)) else (none)) = some r := by first | (rw [hji32] at H; exact H) | (simp only [hji32] at H ⊢; exact H)
                 have hji32w : (IntKind.i64.wrap (x59_3 + 1)) = ji32 := (i64_w _).trans hji32
                 by_cases c33 : 0 ≤ (ji32)
                 ·rw [if_pos c33] at H
                  have c33b0 : decide (0 ≤ (ji32)) = true := decide_eq_true c33
                  clear c33
                  by_cases c34 : (ji32) < (t269.length : Int)
                  ·rw [if_pos c34] at H
                   have c34b0 : decide ((ji32) < (t269.length : Int)) = true := decide_eq_true c34
                   clear c34
                   by_cases c35 : 0 ≤ x59_3
                   ·rw [if_pos c35] at H
                    have c35b0 : decide (0 ≤ x59_3) = true := decide_eq_true c35
                    clear c35
                    by_cases c36 : x59_3 < (t269.length : Int)
                    ·rw [if_pos c36] at H
                     have c36b0 : decide (x59_3 < (t269.length : Int)) = true := decide_eq_true c36
                     clear c36
                     by_cases c37 : x54_2 < (l1.length : Int)
                     ·rw [if_pos c37] at H
                      have c37b0 : decide (x54_2 < (l1.length : Int)) = true := decide_eq_true c37
                      clear c37
                      by_cases c38 : x59_3 < (l1.length : Int)
                      ·rw [if_pos c38] at H
                       have c38b0 : decide (x59_3 < (l1.length : Int)) = true := decide_eq_true c38
                       clear c38
                       by_cases c39 : (rd l1 x54_2) > (rd l1 x59_3)
                       ·rw [if_pos c39] at H
                        have c39b0 : decide ((rd l1 x59_3) < (rd l1 x54_2)) = true := decide_eq_true c39
                        clear c39
                        by_cases c40 : (wrap64 ((rd t269 (ji27)) - (rd t269 x54_2))) < (wrap64 ((wrap64 ((rd t269 (ji32)) - (rd t269 x59_3))) - 1))
                        ·rw [if_pos c40] at H
                         have c40b0 : decide ((wrap64 ((rd t269 (ji27)) - (rd t269 x54_2))) < (wrap64 ((wrap64 ((rd t269 (ji32)) - (rd t269 x59_3))) - 1))) = true := decide_eq_true c40
                         clear c40
                         obtain rfl := Option.some.inj H
                         exact absurd HR_.out (by simp)
                        ·rw [if_neg c40] at H
                         have c40b0 : decide ((wrap64 ((rd t269 (ji27)) - (rd t269 x54_2))) < (wrap64 ((wrap64 ((rd t269 (ji32)) - (rd t269 x59_3))) - 1))) = false := decide_eq_false c40
                         clear c40
                         by_cases c41 : (rd l1 x54_2) = (rd l1 x59_3)
                         ·rw [if_pos c41] at H
                          have c41b0 : ((rd l1 x54_2) == (rd l1 x59_3)) = true := beq_iff_eq.mpr c41
                          have c41b1 : ((rd l1 x54_2) != (rd l1 x59_3)) = false := bne_eq_false_iff_eq.mpr c41
                          clear c41
                          by_cases c42 : (wrap64 ((rd t269 (ji27)) - (rd t269 x54_2))) > (wrap64 ((wrap64 ((rd t269 (ji32)) - (rd t269 x59_3))) + 1))
                          ·rw [if_pos c42] at H
                           have c42b0 : decide ((wrap64 ((wrap64 ((rd t269 (ji32)) - (rd t269 x59_3))) + 1)) < (wrap64 ((rd t269 (ji27)) - (rd t269 x54_2)))) = true := decide_eq_true c42
                           clear c42
                           obtain rfl := Option.some.inj H
                           exact absurd HR_.out (by simp)
                          ·rw [if_neg c42] at H
                           have c42b0 : decide ((wrap64 ((wrap64 ((rd t269 (ji32)) - (rd t269 x59_3))) + 1)) < (wrap64 ((rd t269 (ji27)) - (rd t269 x54_2)))) = false := decide_eq_false c42
                           clear c42
                           by_cases c43 : (wrap64 ((rd t269 (ji32)) - (rd t269 x59_3))) > (wrap64 ((wrap64 ((rd t269 (ji27)) - (rd t269 x54_2))) + 1))
                           ·rw [if_pos c43] at H
                            have c43b0 : decide ((wrap64 ((wrap64 ((rd t269 (ji27)) - (rd t269 x54_2))) + 1)) < (wrap64 ((rd t269 (ji32)) - (rd t269 x59_3)))) = true := decide_eq_true c43
                            clear c43
                            obtain rfl := Option.some.inj H
                            exact absurd HR_.out (by simp)
                           ·rw [if_neg c43] at H
                            have c43b0 : decide ((wrap64 ((wrap64 ((rd t269 (ji27)) - (rd t269 x54_2))) + 1)) < (wrap64 ((rd t269 (ji32)) - (rd t269 x59_3)))) = false := decide_eq_false c43
                            clear c43
                            have H' := Aside0.mk H
                            clear H
                            have hcz44_0 : wr.cell? ⟨gb273, 0, none⟩ = some (.slice Ao13 t269.length co13) := (blk_cell BK273.out 0).trans rfl
                            have hfz44_0 := blk_frozen BK273.out 0
                            have p276 : 0 ≤ ((ji27) : Int) := of_decide_eq_true (by first | (with_reducible assumption) | assumption)
                            have q276 : (ji27) < (t269.length : Int) := of_decide_eq_true (by first | (with_reducible assumption) | assumption)
                            obtain ⟨ad276, e276, hx276_0⟩ := Kd.at_int (Kd.R_reads' HO_274000.out).2.2 (ji27) p276 q276
                            cases e276
                            replace p276 := eq_true p276
                            replace q276 := eq_true q276
                            have p277 : 0 ≤ (x54_2 : Int) := of_decide_eq_true (by first | (with_reducible assumption) | assumption)
                            have q277 : x54_2 < (t269.length : Int) := of_decide_eq_true (by first | (with_reducible assumption) | assumption)
                            obtain ⟨ad277, e277, hx277_0⟩ := Kd.at_int (Kd.R_reads' HO_274000.out).2.2 x54_2 p277 q277
                            obtain rfl : ad276 = ad277 := (by injection e277)
                            replace p277 := eq_true p277
                            replace q277 := eq_true q277
                            have p278 : 0 ≤ ((ji32) : Int) := of_decide_eq_true (by first | (with_reducible assumption) | assumption)
                            have q278 : (ji32) < (t269.length : Int) := of_decide_eq_true (by first | (with_reducible assumption) | assumption)
                            obtain ⟨ad278, e278, hx278_0⟩ := Kd.at_int (Kd.R_reads' HO_274000.out).2.2 (ji32) p278 q278
                            obtain rfl : ad276 = ad278 := (by injection e278)
                            replace p278 := eq_true p278
                            replace q278 := eq_true q278
                            have p279 : 0 ≤ (x59_3 : Int) := of_decide_eq_true (by first | (with_reducible assumption) | assumption)
                            have q279 : x59_3 < (t269.length : Int) := of_decide_eq_true (by first | (with_reducible assumption) | assumption)
                            obtain ⟨ad279, e279, hx279_0⟩ := Kd.at_int (Kd.R_reads' HO_274000.out).2.2 x59_3 p279 q279
                            obtain rfl : ad276 = ad279 := (by injection e279)
                            replace p279 := eq_true p279
                            replace q279 := eq_true q279
                            have p280 : 0 ≤ (x54_2 : Int) := of_decide_eq_true (by first | (with_reducible assumption) | assumption)
                            have q280 : x54_2 < (l1.length : Int) := of_decide_eq_true (by first | (with_reducible assumption) | assumption)
                            obtain ⟨ad280, e280, hx280_0⟩ := Kd.at_int HR1.out x54_2 p280 q280
                            cases e280
                            replace hx280_0 := (HB.out.cell (World.block_lt_of_cell? w _ hx280_0)).trans hx280_0
                            replace p280 := eq_true p280
                            replace q280 := eq_true q280
                            have p281 : 0 ≤ (x59_3 : Int) := of_decide_eq_true (by first | (with_reducible assumption) | assumption)
                            have q281 : x59_3 < (l1.length : Int) := of_decide_eq_true (by first | (with_reducible assumption) | assumption)
                            obtain ⟨ad281, e281, hx281_0⟩ := Kd.at_int HR1.out x59_3 p281 q281
                            obtain rfl : ad280 = ad281 := (by injection e281)
                            replace hx281_0 := (HB.out.cell (World.block_lt_of_cell? w _ hx281_0)).trans hx281_0
                            replace p281 := eq_true p281
                            replace q281 := eq_true q281
                            have p282 : 0 ≤ (x54_2 : Int) := of_decide_eq_true (by first | (with_reducible assumption) | assumption)
                            have q282 : x54_2 < (l1.length : Int) := of_decide_eq_true (by first | (with_reducible assumption) | assumption)
                            obtain ⟨ad282, e282, hx282_0⟩ := Kd.at_int HR1.out x54_2 p282 q282
                            obtain rfl : ad280 = ad282 := (by injection e282)
                            replace hx282_0 := (HB.out.cell (World.block_lt_of_cell? w _ hx282_0)).trans hx282_0
                            replace p282 := eq_true p282
                            replace q282 := eq_true q282
                            have p283 : 0 ≤ (x59_3 : Int) := of_decide_eq_true (by first | (with_reducible assumption) | assumption)
                            have q283 : x59_3 < (l1.length : Int) := of_decide_eq_true (by first | (with_reducible assumption) | assumption)
                            obtain ⟨ad283, e283, hx283_0⟩ := Kd.at_int HR1.out x59_3 p283 q283
                            obtain rfl : ad280 = ad283 := (by injection e283)
                            replace hx283_0 := (HB.out.cell (World.block_lt_of_cell? w _ hx283_0)).trans hx283_0
                            replace p283 := eq_true p283
                            replace q283 := eq_true q283
                            go_wp2
                            repeat (go_quiet (fail); try go_wp2)
                            go_roundg k3
                            case measure => have := HJ8.out; have := HK2.out; have := HK3.out; omega
                            case rel => exact ⟨(ji32), (by first | rfl | (simp; done) | (simp only [← hji32] <;> (first | rfl | simp)) | (simp [*]; done)), H', ⟨by have := HJ8.out; have := HK2.out; have := HK3.out; omega⟩, ⟨by (with_reducible repeat (first | apply Kd.R_alloc | apply Kd.R_drewN | apply Kd.R_drew)); exact HO_274000.out⟩, ⟨by (with_reducible repeat (first | refine blk_drewN ?_ _ | refine blk_drew ?_ | refine blk_alloc ?_ _)); exact BK273.out⟩, ⟨by repeat (first | (with_reducible first | exact HB.out | apply below_alloc | apply pw_below_drewN | apply below_drew1 | refine below_set ?_ GE273.out) | exact HB.out)⟩⟩
                         ·rw [if_neg c41] at H
                          have c41b0 : ((rd l1 x54_2) == (rd l1 x59_3)) = false := beq_eq_false_iff_ne.mpr c41
                          have c41b1 : ((rd l1 x54_2) != (rd l1 x59_3)) = true := bne_iff_ne.mpr c41
                          have H' := Aside0.mk H
                          clear H
                          have hcz45_0 : wr.cell? ⟨gb273, 0, none⟩ = some (.slice Ao13 t269.length co13) := (blk_cell BK273.out 0).trans rfl
                          have hfz45_0 := blk_frozen BK273.out 0
                          have p276 : 0 ≤ ((ji27) : Int) := of_decide_eq_true (by first | (with_reducible assumption) | assumption)
                          have q276 : (ji27) < (t269.length : Int) := of_decide_eq_true (by first | (with_reducible assumption) | assumption)
                          obtain ⟨ad276, e276, hx276_0⟩ := Kd.at_int (Kd.R_reads' HO_274000.out).2.2 (ji27) p276 q276
                          cases e276
                          replace p276 := eq_true p276
                          replace q276 := eq_true q276
                          have p277 : 0 ≤ (x54_2 : Int) := of_decide_eq_true (by first | (with_reducible assumption) | assumption)
                          have q277 : x54_2 < (t269.length : Int) := of_decide_eq_true (by first | (with_reducible assumption) | assumption)
                          obtain ⟨ad277, e277, hx277_0⟩ := Kd.at_int (Kd.R_reads' HO_274000.out).2.2 x54_2 p277 q277
                          obtain rfl : ad276 = ad277 := (by injection e277)
                          replace p277 := eq_true p277
                          replace q277 := eq_true q277
                          have p278 : 0 ≤ ((ji32) : Int) := of_decide_eq_true (by first | (with_reducible assumption) | assumption)
                          have q278 : (ji32) < (t269.length : Int) := of_decide_eq_true (by first | (with_reducible assumption) | assumption)
                          obtain ⟨ad278, e278, hx278_0⟩ := Kd.at_int (Kd.R_reads' HO_274000.out).2.2 (ji32) p278 q278
                          obtain rfl : ad276 = ad278 := (by injection e278)
                          replace p278 := eq_true p278
                          replace q278 := eq_true q278
                          have p279 : 0 ≤ (x59_3 : Int) := of_decide_eq_true (by first | (with_reducible assumption) | assumption)
                          have q279 : x59_3 < (t269.length : Int) := of_decide_eq_true (by first | (with_reducible assumption) | assumption)
                          obtain ⟨ad279, e279, hx279_0⟩ := Kd.at_int (Kd.R_reads' HO_274000.out).2.2 x59_3 p279 q279
                          obtain rfl : ad276 = ad279 := (by injection e279)
                          replace p279 := eq_true p279
                          replace q279 := eq_true q279
                          have p280 : 0 ≤ (x54_2 : Int) := of_decide_eq_true (by first | (with_reducible assumption) | assumption)
                          have q280 : x54_2 < (l1.length : Int) := of_decide_eq_true (by first | (with_reducible assumption) | assumption)
                          obtain ⟨ad280, e280, hx280_0⟩ := Kd.at_int HR1.out x54_2 p280 q280
                          cases e280
                          replace hx280_0 := (HB.out.cell (World.block_lt_of_cell? w _ hx280_0)).trans hx280_0
                          replace p280 := eq_true p280
                          replace q280 := eq_true q280
                          have p281 : 0 ≤ (x59_3 : Int) := of_decide_eq_true (by first | (with_reducible assumption) | assumption)
                          have q281 : x59_3 < (l1.length : Int) := of_decide_eq_true (by first | (with_reducible assumption) | assumption)
                          obtain ⟨ad281, e281, hx281_0⟩ := Kd.at_int HR1.out x59_3 p281 q281
                          obtain rfl : ad280 = ad281 := (by injection e281)
                          replace hx281_0 := (HB.out.cell (World.block_lt_of_cell? w _ hx281_0)).trans hx281_0
                          replace p281 := eq_true p281
                          replace q281 := eq_true q281
                          have p282 : 0 ≤ (x54_2 : Int) := of_decide_eq_true (by first | (with_reducible assumption) | assumption)
                          have q282 : x54_2 < (l1.length : Int) := of_decide_eq_true (by first | (with_reducible assumption) | assumption)
                          obtain ⟨ad282, e282, hx282_0⟩ := Kd.at_int HR1.out x54_2 p282 q282
                          obtain rfl : ad280 = ad282 := (by injection e282)
                          replace hx282_0 := (HB.out.cell (World.block_lt_of_cell? w _ hx282_0)).trans hx282_0
                          replace p282 := eq_true p282
                          replace q282 := eq_true q282
                          have p283 : 0 ≤ (x59_3 : Int) := of_decide_eq_true (by first | (with_reducible assumption) | assumption)
                          have q283 : x59_3 < (l1.length : Int) := of_decide_eq_true (by first | (with_reducible assumption) | assumption)
                          obtain ⟨ad283, e283, hx283_0⟩ := Kd.at_int HR1.out x59_3 p283 q283
                          obtain rfl : ad280 = ad283 := (by injection e283)
                          replace hx283_0 := (HB.out.cell (World.block_lt_of_cell? w _ hx283_0)).trans hx283_0
                          replace p283 := eq_true p283
                          replace q283 := eq_true q283
                          go_wp2
                          repeat (go_quiet (fail); try go_wp2)
                          go_roundg k3
                          case measure => have := HJ8.out; have := HK2.out; have := HK3.out; omega
                          case rel => exact ⟨(ji32), (by first | rfl | (simp; done) | (simp only [← hji32] <;> (first | rfl | simp)) | (simp [*]; done)), H', ⟨by have := HJ8.out; have := HK2.out; have := HK3.out; omega⟩, ⟨by (with_reducible repeat (first | apply Kd.R_alloc | apply Kd.R_drewN | apply Kd.R_drew)); exact HO_274000.out⟩, ⟨by (with_reducible repeat (first | refine blk_drewN ?_ _ | refine blk_drew ?_ | refine blk_alloc ?_ _)); exact BK273.out⟩, ⟨by repeat (first | (with_reducible first | exact HB.out | apply below_alloc | apply pw_below_drewN | apply below_drew1 | refine below_set ?_ GE273.out) | exact HB.out)⟩⟩
                       ·rw [if_neg c39] at H
                        have c39b0 : decide ((rd l1 x59_3) < (rd l1 x54_2)) = false := decide_eq_false c39
                        clear c39
                        by_cases c46 : (rd l1 x54_2) = (rd l1 x59_3)
                        ·rw [if_pos c46] at H
                         have c46b0 : ((rd l1 x54_2) == (rd l1 x59_3)) = true := beq_iff_eq.mpr c46
                         have c46b1 : ((rd l1 x54_2) != (rd l1 x59_3)) = false := bne_eq_false_iff_eq.mpr c46
                         clear c46
                         by_cases c47 : (wrap64 ((rd t269 (ji27)) - (rd t269 x54_2))) > (wrap64 ((wrap64 ((rd t269 (ji32)) - (rd t269 x59_3))) + 1))
                         ·rw [if_pos c47] at H
                          have c47b0 : decide ((wrap64 ((wrap64 ((rd t269 (ji32)) - (rd t269 x59_3))) + 1)) < (wrap64 ((rd t269 (ji27)) - (rd t269 x54_2)))) = true := decide_eq_true c47
                          clear c47
                          obtain rfl := Option.some.inj H
                          exact absurd HR_.out (by simp)
                         ·rw [if_neg c47] at H
                          have c47b0 : decide ((wrap64 ((wrap64 ((rd t269 (ji32)) - (rd t269 x59_3))) + 1)) < (wrap64 ((rd t269 (ji27)) - (rd t269 x54_2)))) = false := decide_eq_false c47
                          clear c47
                          by_cases c48 : (wrap64 ((rd t269 (ji32)) - (rd t269 x59_3))) > (wrap64 ((wrap64 ((rd t269 (ji27)) - (rd t269 x54_2))) + 1))
                          ·rw [if_pos c48] at H
                           have c48b0 : decide ((wrap64 ((wrap64 ((rd t269 (ji27)) - (rd t269 x54_2))) + 1)) < (wrap64 ((rd t269 (ji32)) - (rd t269 x59_3)))) = true := decide_eq_true c48
                           clear c48
                           obtain rfl := Option.some.inj H
                           exact absurd HR_.out (by simp)
                          ·rw [if_neg c48] at H
                           have c48b0 : decide ((wrap64 ((wrap64 ((rd t269 (ji27)) - (rd t269 x54_2))) + 1)) < (wrap64 ((rd t269 (ji32)) - (rd t269 x59_3)))) = false := decide_eq_false c48
                           clear c48
                           have H' := Aside0.mk H
                           clear H
                           have hcz49_0 : wr.cell? ⟨gb273, 0, none⟩ = some (.slice Ao13 t269.length co13) := (blk_cell BK273.out 0).trans rfl
                           have hfz49_0 := blk_frozen BK273.out 0
                           have p276 : 0 ≤ ((ji27) : Int) := of_decide_eq_true (by first | (with_reducible assumption) | assumption)
                           have q276 : (ji27) < (t269.length : Int) := of_decide_eq_true (by first | (with_reducible assumption) | assumption)
                           obtain ⟨ad276, e276, hx276_0⟩ := Kd.at_int (Kd.R_reads' HO_274000.out).2.2 (ji27) p276 q276
                           cases e276
                           replace p276 := eq_true p276
                           replace q276 := eq_true q276
                           have p277 : 0 ≤ (x54_2 : Int) := of_decide_eq_true (by first | (with_reducible assumption) | assumption)
                           have q277 : x54_2 < (t269.length : Int) := of_decide_eq_true (by first | (with_reducible assumption) | assumption)
                           obtain ⟨ad277, e277, hx277_0⟩ := Kd.at_int (Kd.R_reads' HO_274000.out).2.2 x54_2 p277 q277
                           obtain rfl : ad276 = ad277 := (by injection e277)
                           replace p277 := eq_true p277
                           replace q277 := eq_true q277
                           have p278 : 0 ≤ ((ji32) : Int) := of_decide_eq_true (by first | (with_reducible assumption) | assumption)
                           have q278 : (ji32) < (t269.length : Int) := of_decide_eq_true (by first | (with_reducible assumption) | assumption)
                           obtain ⟨ad278, e278, hx278_0⟩ := Kd.at_int (Kd.R_reads' HO_274000.out).2.2 (ji32) p278 q278
                           obtain rfl : ad276 = ad278 := (by injection e278)
                           replace p278 := eq_true p278
                           replace q278 := eq_true q278
                           have p279 : 0 ≤ (x59_3 : Int) := of_decide_eq_true (by first | (with_reducible assumption) | assumption)
                           have q279 : x59_3 < (t269.length : Int) := of_decide_eq_true (by first | (with_reducible assumption) | assumption)
                           obtain ⟨ad279, e279, hx279_0⟩ := Kd.at_int (Kd.R_reads' HO_274000.out).2.2 x59_3 p279 q279
                           obtain rfl : ad276 = ad279 := (by injection e279)
                           replace p279 := eq_true p279
                           replace q279 := eq_true q279
                           have p280 : 0 ≤ (x54_2 : Int) := of_decide_eq_true (by first | (with_reducible assumption) | assumption)
                           have q280 : x54_2 < (l1.length : Int) := of_decide_eq_true (by first | (with_reducible assumption) | assumption)
                           obtain ⟨ad280, e280, hx280_0⟩ := Kd.at_int HR1.out x54_2 p280 q280
                           cases e280
                           replace hx280_0 := (HB.out.cell (World.block_lt_of_cell? w _ hx280_0)).trans hx280_0
                           replace p280 := eq_true p280
                           replace q280 := eq_true q280
                           have p281 : 0 ≤ (x59_3 : Int) := of_decide_eq_true (by first | (with_reducible assumption) | assumption)
                           have q281 : x59_3 < (l1.length : Int) := of_decide_eq_true (by first | (with_reducible assumption) | assumption)
                           obtain ⟨ad281, e281, hx281_0⟩ := Kd.at_int HR1.out x59_3 p281 q281
                           obtain rfl : ad280 = ad281 := (by injection e281)
                           replace hx281_0 := (HB.out.cell (World.block_lt_of_cell? w _ hx281_0)).trans hx281_0
                           replace p281 := eq_true p281
                           replace q281 := eq_true q281
                           have p284 : 0 ≤ (x54_2 : Int) := of_decide_eq_true (by first | (with_reducible assumption) | assumption)
                           have q284 : x54_2 < (l1.length : Int) := of_decide_eq_true (by first | (with_reducible assumption) | assumption)
                           obtain ⟨ad284, e284, hx284_0⟩ := Kd.at_int HR1.out x54_2 p284 q284
                           obtain rfl : ad280 = ad284 := (by injection e284)
                           replace hx284_0 := (HB.out.cell (World.block_lt_of_cell? w _ hx284_0)).trans hx284_0
                           replace p284 := eq_true p284
                           replace q284 := eq_true q284
                           have p285 : 0 ≤ (x59_3 : Int) := of_decide_eq_true (by first | (with_reducible assumption) | assumption)
                           have q285 : x59_3 < (l1.length : Int) := of_decide_eq_true (by first | (with_reducible assumption) | assumption)
                           obtain ⟨ad285, e285, hx285_0⟩ := Kd.at_int HR1.out x59_3 p285 q285
                           obtain rfl : ad280 = ad285 := (by injection e285)
                           replace hx285_0 := (HB.out.cell (World.block_lt_of_cell? w _ hx285_0)).trans hx285_0
                           replace p285 := eq_true p285
                           replace q285 := eq_true q285
                           go_wp2
                           repeat (go_quiet (fail); try go_wp2)
                           go_roundg k3
                           case measure => have := HJ8.out; have := HK2.out; have := HK3.out; omega
                           case rel => exact ⟨(ji32), (by first | rfl | (simp; done) | (simp only [← hji32] <;> (first | rfl | simp)) | (simp [*]; done)), H', ⟨by have := HJ8.out; have := HK2.out; have := HK3.out; omega⟩, ⟨by (with_reducible repeat (first | apply Kd.R_alloc | apply Kd.R_drewN | apply Kd.R_drew)); exact HO_274000.out⟩, ⟨by (with_reducible repeat (first | refine blk_drewN ?_ _ | refine blk_drew ?_ | refine blk_alloc ?_ _)); exact BK273.out⟩, ⟨by repeat (first | (with_reducible first | exact HB.out | apply below_alloc | apply pw_below_drewN | apply below_drew1 | refine below_set ?_ GE273.out) | exact HB.out)⟩⟩
                        ·rw [if_neg c46] at H
                         have c46b0 : ((rd l1 x54_2) == (rd l1 x59_3)) = false := beq_eq_false_iff_ne.mpr c46
                         have c46b1 : ((rd l1 x54_2) != (rd l1 x59_3)) = true := bne_iff_ne.mpr c46
                         have H' := Aside0.mk H
                         clear H
                         have hcz50_0 : wr.cell? ⟨gb273, 0, none⟩ = some (.slice Ao13 t269.length co13) := (blk_cell BK273.out 0).trans rfl
                         have hfz50_0 := blk_frozen BK273.out 0
                         have p276 : 0 ≤ ((ji27) : Int) := of_decide_eq_true (by first | (with_reducible assumption) | assumption)
                         have q276 : (ji27) < (t269.length : Int) := of_decide_eq_true (by first | (with_reducible assumption) | assumption)
                         obtain ⟨ad276, e276, hx276_0⟩ := Kd.at_int (Kd.R_reads' HO_274000.out).2.2 (ji27) p276 q276
                         cases e276
                         replace p276 := eq_true p276
                         replace q276 := eq_true q276
                         have p277 : 0 ≤ (x54_2 : Int) := of_decide_eq_true (by first | (with_reducible assumption) | assumption)
                         have q277 : x54_2 < (t269.length : Int) := of_decide_eq_true (by first | (with_reducible assumption) | assumption)
                         obtain ⟨ad277, e277, hx277_0⟩ := Kd.at_int (Kd.R_reads' HO_274000.out).2.2 x54_2 p277 q277
                         obtain rfl : ad276 = ad277 := (by injection e277)
                         replace p277 := eq_true p277
                         replace q277 := eq_true q277
                         have p278 : 0 ≤ ((ji32) : Int) := of_decide_eq_true (by first | (with_reducible assumption) | assumption)
                         have q278 : (ji32) < (t269.length : Int) := of_decide_eq_true (by first | (with_reducible assumption) | assumption)
                         obtain ⟨ad278, e278, hx278_0⟩ := Kd.at_int (Kd.R_reads' HO_274000.out).2.2 (ji32) p278 q278
                         obtain rfl : ad276 = ad278 := (by injection e278)
                         replace p278 := eq_true p278
                         replace q278 := eq_true q278
                         have p279 : 0 ≤ (x59_3 : Int) := of_decide_eq_true (by first | (with_reducible assumption) | assumption)
                         have q279 : x59_3 < (t269.length : Int) := of_decide_eq_true (by first | (with_reducible assumption) | assumption)
                         obtain ⟨ad279, e279, hx279_0⟩ := Kd.at_int (Kd.R_reads' HO_274000.out).2.2 x59_3 p279 q279
                         obtain rfl : ad276 = ad279 := (by injection e279)
                         replace p279 := eq_true p279
                         replace q279 := eq_true q279
                         have p280 : 0 ≤ (x54_2 : Int) := of_decide_eq_true (by first | (with_reducible assumption) | assumption)
                         have q280 : x54_2 < (l1.length : Int) := of_decide_eq_true (by first | (with_reducible assumption) | assumption)
                         obtain ⟨ad280, e280, hx280_0⟩ := Kd.at_int HR1.out x54_2 p280 q280
                         cases e280
                         replace hx280_0 := (HB.out.cell (World.block_lt_of_cell? w _ hx280_0)).trans hx280_0
                         replace p280 := eq_true p280
                         replace q280 := eq_true q280
                         have p281 : 0 ≤ (x59_3 : Int) := of_decide_eq_true (by first | (with_reducible assumption) | assumption)
                         have q281 : x59_3 < (l1.length : Int) := of_decide_eq_true (by first | (with_reducible assumption) | assumption)
                         obtain ⟨ad281, e281, hx281_0⟩ := Kd.at_int HR1.out x59_3 p281 q281
                         obtain rfl : ad280 = ad281 := (by injection e281)
                         replace hx281_0 := (HB.out.cell (World.block_lt_of_cell? w _ hx281_0)).trans hx281_0
                         replace p281 := eq_true p281
                         replace q281 := eq_true q281
                         have p284 : 0 ≤ (x54_2 : Int) := of_decide_eq_true (by first | (with_reducible assumption) | assumption)
                         have q284 : x54_2 < (l1.length : Int) := of_decide_eq_true (by first | (with_reducible assumption) | assumption)
                         obtain ⟨ad284, e284, hx284_0⟩ := Kd.at_int HR1.out x54_2 p284 q284
                         obtain rfl : ad280 = ad284 := (by injection e284)
                         replace hx284_0 := (HB.out.cell (World.block_lt_of_cell? w _ hx284_0)).trans hx284_0
                         replace p284 := eq_true p284
                         replace q284 := eq_true q284
                         have p285 : 0 ≤ (x59_3 : Int) := of_decide_eq_true (by first | (with_reducible assumption) | assumption)
                         have q285 : x59_3 < (l1.length : Int) := of_decide_eq_true (by first | (with_reducible assumption) | assumption)
                         obtain ⟨ad285, e285, hx285_0⟩ := Kd.at_int HR1.out x59_3 p285 q285
                         obtain rfl : ad280 = ad285 := (by injection e285)
                         replace hx285_0 := (HB.out.cell (World.block_lt_of_cell? w _ hx285_0)).trans hx285_0
                         replace p285 := eq_true p285
                         replace q285 := eq_true q285
                         go_wp2
                         repeat (go_quiet (fail); try go_wp2)
                         go_roundg k3
                         case measure => have := HJ8.out; have := HK2.out; have := HK3.out; omega
                         case rel => exact ⟨(ji32), (by first | rfl | (simp; done) | (simp only [← hji32] <;> (first | rfl | simp)) | (simp [*]; done)), H', ⟨by have := HJ8.out; have := HK2.out; have := HK3.out; omega⟩, ⟨by (with_reducible repeat (first | apply Kd.R_alloc | apply Kd.R_drewN | apply Kd.R_drew)); exact HO_274000.out⟩, ⟨by (with_reducible repeat (first | refine blk_drewN ?_ _ | refine blk_drew ?_ | refine blk_alloc ?_ _)); exact BK273.out⟩, ⟨by repeat (first | (with_reducible first | exact HB.out | apply below_alloc | apply pw_below_drewN | apply below_drew1 | refine below_set ?_ GE273.out) | exact HB.out)⟩⟩
                      ·rw [if_neg c38] at H
                       exact absurd H (by simp)
                     ·rw [if_neg c37] at H
                      exact absurd H (by simp)
                    ·rw [if_neg c36] at H
                     exact absurd H (by simp)
                   ·rw [if_neg c35] at H
                    exact absurd H (by simp)
                  ·rw [if_neg c34] at H
                   exact absurd H (by simp)
                 ·rw [if_neg c33] at H
                  exact absurd H (by simp)
                ·rw [if_neg c31] at H
                 exact absurd H (by simp)
               ·rw [if_neg c30] at H
                exact absurd H (by simp)
              ·rw [if_neg c29] at H
               exact absurd H (by simp)
             ·rw [if_neg c28] at H
              exact absurd H (by simp)
            ·rw [if_neg c26] at H
             have c26b0 : decide (x59_3 < (l1.length : Int)) = false := decide_eq_false c26
             clear c26
             have H' := Aside0.mk H
             clear H
             go_wp2
             repeat (go_quiet (fail); try go_wp2)
             go_roundg k3
             case measure => have := HJ8.out; have := HK2.out; have := HK3.out; omega
             case rel => exact ⟨(wrap64 (x54_2 + 1)), (by first | rfl | (simp; done) | (simp [*]; done)), H', ⟨by have := HJ8.out; have := HK2.out; have := HK3.out; omega⟩, ⟨by (with_reducible repeat (first | apply Kd.R_alloc | apply Kd.R_drewN | apply Kd.R_drew)); exact HO_274000.out⟩, ⟨by (with_reducible repeat (first | refine blk_drewN ?_ _ | refine blk_drew ?_ | refine blk_alloc ?_ _)); exact BK273.out⟩, ⟨by repeat (first | (with_reducible first | exact HB.out | apply below_alloc | apply pw_below_drewN | apply below_drew1 | refine below_set ?_ GE273.out) | exact HB.out)⟩⟩
         ·rw [if_neg c25] at H
          have c25b0 : decide (x54_2 < (l1.length : Int)) = false := decide_eq_false c25
          clear c25
          obtain rfl := Option.some.inj H
          go_wp2
          repeat (go_quiet (fail); try go_wp2)
          go_ret
          exact ⟨by first | rfl | (simp [errW_none, errW_some] <;> rfl) | (simp [*, errW_none, errW_some] <;> rfl) | (simp [wrap64]; done), by repeat (first | (with_reducible first | exact HB.out | apply below_alloc | apply pw_below_drewN | apply below_drew1 | refine below_set ?_ GE273.out) | exact HB.out)⟩
   ·rw [if_neg c8] at H
    have c8b0 : (t272 == 0) = false := beq_eq_false_iff_ne.mpr c8
    have c8b1 : (t272 != 0) = true := bne_iff_ne.mpr c8
    obtain rfl := Option.some.inj H
    go_enter Try.func3, Try.ntmps3
    go_wp2_with (first | (go_at_call 8; (with_reducible refine (squelchlaw03_live.calls k  true _ A3.out).mono ?_); rintro e w51 ⟨rfl, hb⟩; have n0_ := Aside0.mk (below_step (by repeat (first | (with_reducible first | exact HB.out | apply below_alloc | apply pw_below_drewN | apply below_drew1) | exact HB.out)) hb); clear HB; have HB := n0_; clear n0_; (try clear hb); (try clear hb2); (try clear hk); (try clear hi)) | (go_at_call 9; (with_reducible refine (freq_Scale.calls k a0 _ _ l1 t269 t272 _ ?side1 ?side2 A7.out).mono ?_); (case side1 => repeat (first | exact (Kd.C_below HR1.out HB.out) | (with_reducible refine Kd.C_alloc ?_ _) | (with_reducible refine Kd.C_drewN ?_ _) | (with_reducible refine Kd.C_drew ?_))); (case side2 => exact HC1.out); rintro e w52 ⟨v270, rfl, ho0, hb⟩; have n0_ := Aside0.mk (Kd.R_lower ho0 (below_size (by repeat (first | (with_reducible first | exact HB.out | apply below_alloc | apply pw_below_drewN | apply below_drew1) | exact HB.out)))); have n1_ := Aside0.mk (below_step (by repeat (first | (with_reducible first | exact HB.out | apply below_alloc | apply pw_below_drewN | apply below_drew1) | exact HB.out)) hb); clear HB; have HO271 := n0_; have HB := n1_; clear n0_ n1_; (try clear hb); (try clear hb2); (try clear hk); (try clear hi); (try clear ho0)) | ((with_reducible refine gate_dst (N := 6) rfl ?_); (try (refine gate_guard (by rfl) ?_; dsimp only)); refine box_event ?hg (N := 6) ?hd (cs := #[.slice none 0 0]) (t := 25) ?hr ?_; (case hd => rfl); (case hg => rfl); (case hr => first | (go_simp; done) | (go_simp; rfl)); intro gb273 hg w53 hbox hb; have n0_ := Aside0.mk (Kd.R_below (by (with_reducible repeat (first | apply Kd.R_alloc | apply Kd.R_drewN | apply Kd.R_drew)); exact HO271.out) hb); have n1_ := Aside0.mk (below_step (by repeat (first | (with_reducible first | exact HB.out | apply below_alloc | apply pw_below_drewN | apply below_drew1) | exact HB.out)) hb); have n2_ := Aside0.mk (hbox); have n3_ := Aside0.mk ((by rw [hg]; exact (below_size (by repeat (first | (with_reducible first | exact HB.out | apply below_alloc | apply pw_below_drewN | apply below_drew1) | exact HB.out))) : w.heap.size ≤ gb273)); have n4_ := Aside0.mk ((by rw [hg]; exact (below_size (by repeat (first | (with_reducible first | exact HB.out | apply below_alloc | apply pw_below_drewN | apply below_drew1) | exact HB.out))) : w.heap.size ≤ gb273)); clear HO271; clear HB; have HO271 := n0_; have HB := n1_; have BK273 := n2_; have GW273 := n3_; have GE273 := n4_; clear n0_ n1_ n2_ n3_ n4_; clear hb hbox hg; obtain ⟨Ao54, co54, eo54⟩ := Kd.R_slice HO271.out; subst eo54; have hcz55_0 : w53.cell? ⟨gb273, 0, none⟩ = some (.slice none 0 0) := (blk_cell BK273.out 0).trans rfl; have hfz55_0 := blk_frozen BK273.out 0))
    repeat (go_quiet (first | (go_at_call 8; (with_reducible refine (squelchlaw03_live.calls k  true _ A3.out).mono ?_); rintro e w51 ⟨rfl, hb⟩; have n0_ := Aside0.mk (below_step (by repeat (first | (with_reducible first | exact HB.out | apply below_alloc | apply pw_below_drewN | apply below_drew1) | exact HB.out)) hb); clear HB; have HB := n0_; clear n0_; (try clear hb); (try clear hb2); (try clear hk); (try clear hi)) | (go_at_call 9; (with_reducible refine (freq_Scale.calls k a0 _ _ l1 t269 t272 _ ?side1 ?side2 A7.out).mono ?_); (case side1 => repeat (first | exact (Kd.C_below HR1.out HB.out) | (with_reducible refine Kd.C_alloc ?_ _) | (with_reducible refine Kd.C_drewN ?_ _) | (with_reducible refine Kd.C_drew ?_))); (case side2 => exact HC1.out); rintro e w52 ⟨v270, rfl, ho0, hb⟩; have n0_ := Aside0.mk (Kd.R_lower ho0 (below_size (by repeat (first | (with_reducible first | exact HB.out | apply below_alloc | apply pw_below_drewN | apply below_drew1) | exact HB.out)))); have n1_ := Aside0.mk (below_step (by repeat (first | (with_reducible first | exact HB.out | apply below_alloc | apply pw_below_drewN | apply below_drew1) | exact HB.out)) hb); clear HB; have HO271 := n0_; have HB := n1_; clear n0_ n1_; (try clear hb); (try clear hb2); (try clear hk); (try clear hi); (try clear ho0)) | ((with_reducible refine gate_dst (N := 6) rfl ?_); (try (refine gate_guard (by rfl) ?_; dsimp only)); refine box_event ?hg (N := 6) ?hd (cs := #[.slice none 0 0]) (t := 25) ?hr ?_; (case hd => rfl); (case hg => rfl); (case hr => first | (go_simp; done) | (go_simp; rfl)); intro gb273 hg w53 hbox hb; have n0_ := Aside0.mk (Kd.R_below (by (with_reducible repeat (first | apply Kd.R_alloc | apply Kd.R_drewN | apply Kd.R_drew)); exact HO271.out) hb); have n1_ := Aside0.mk (below_step (by repeat (first | (with_reducible first | exact HB.out | apply below_alloc | apply pw_below_drewN | apply below_drew1) | exact HB.out)) hb); have n2_ := Aside0.mk (hbox); have n3_ := Aside0.mk ((by rw [hg]; exact (below_size (by repeat (first | (with_reducible first | exact HB.out | apply below_alloc | apply pw_below_drewN | apply below_drew1) | exact HB.out))) : w.heap.size ≤ gb273)); have n4_ := Aside0.mk ((by rw [hg]; exact (below_size (by repeat (first | (with_reducible first | exact HB.out | apply below_alloc | apply pw_below_drewN | apply below_drew1) | exact HB.out))) : w.heap.size ≤ gb273)); clear HO271; clear HB; have HO271 := n0_; have HB := n1_; have BK273 := n2_; have GW273 := n3_; have GE273 := n4_; clear n0_ n1_ n2_ n3_ n4_; clear hb hbox hg; obtain ⟨Ao54, co54, eo54⟩ := Kd.R_slice HO271.out; subst eo54; have hcz55_0 : w53.cell? ⟨gb273, 0, none⟩ = some (.slice none 0 0) := (blk_cell BK273.out 0).trans rfl; have hfz55_0 := blk_frozen BK273.out 0)); try go_wp2_with (first | (go_at_call 8; (with_reducible refine (squelchlaw03_live.calls k  true _ A3.out).mono ?_); rintro e w51 ⟨rfl, hb⟩; have n0_ := Aside0.mk (below_step (by repeat (first | (with_reducible first | exact HB.out | apply below_alloc | apply pw_below_drewN | apply below_drew1) | exact HB.out)) hb); clear HB; have HB := n0_; clear n0_; (try clear hb); (try clear hb2); (try clear hk); (try clear hi)) | (go_at_call 9; (with_reducible refine (freq_Scale.calls k a0 _ _ l1 t269 t272 _ ?side1 ?side2 A7.out).mono ?_); (case side1 => repeat (first | exact (Kd.C_below HR1.out HB.out) | (with_reducible refine Kd.C_alloc ?_ _) | (with_reducible refine Kd.C_drewN ?_ _) | (with_reducible refine Kd.C_drew ?_))); (case side2 => exact HC1.out); rintro e w52 ⟨v270, rfl, ho0, hb⟩; have n0_ := Aside0.mk (Kd.R_lower ho0 (below_size (by repeat (first | (with_reducible first | exact HB.out | apply below_alloc | apply pw_below_drewN | apply below_drew1) | exact HB.out)))); have n1_ := Aside0.mk (below_step (by repeat (first | (with_reducible first | exact HB.out | apply below_alloc | apply pw_below_drewN | apply below_drew1) | exact HB.out)) hb); clear HB; have HO271 := n0_; have HB := n1_; clear n0_ n1_; (try clear hb); (try clear hb2); (try clear hk); (try clear hi); (try clear ho0)) | ((with_reducible refine gate_dst (N := 6) rfl ?_); (try (refine gate_guard (by rfl) ?_; dsimp only)); refine box_event ?hg (N := 6) ?hd (cs := #[.slice none 0 0]) (t := 25) ?hr ?_; (case hd => rfl); (case hg => rfl); (case hr => first | (go_simp; done) | (go_simp; rfl)); intro gb273 hg w53 hbox hb; have n0_ := Aside0.mk (Kd.R_below (by (with_reducible repeat (first | apply Kd.R_alloc | apply Kd.R_drewN | apply Kd.R_drew)); exact HO271.out) hb); have n1_ := Aside0.mk (below_step (by repeat (first | (with_reducible first | exact HB.out | apply below_alloc | apply pw_below_drewN | apply below_drew1) | exact HB.out)) hb); have n2_ := Aside0.mk (hbox); have n3_ := Aside0.mk ((by rw [hg]; exact (below_size (by repeat (first | (with_reducible first | exact HB.out | apply below_alloc | apply pw_below_drewN | apply below_drew1) | exact HB.out))) : w.heap.size ≤ gb273)); have n4_ := Aside0.mk ((by rw [hg]; exact (below_size (by repeat (first | (with_reducible first | exact HB.out | apply below_alloc | apply pw_below_drewN | apply below_drew1) | exact HB.out))) : w.heap.size ≤ gb273)); clear HO271; clear HB; have HO271 := n0_; have HB := n1_; have BK273 := n2_; have GW273 := n3_; have GE273 := n4_; clear n0_ n1_ n2_ n3_ n4_; clear hb hbox hg; obtain ⟨Ao54, co54, eo54⟩ := Kd.R_slice HO271.out; subst eo54; have hcz55_0 : w53.cell? ⟨gb273, 0, none⟩ = some (.slice none 0 0) := (blk_cell BK273.out 0).trans rfl; have hfz55_0 := blk_frozen BK273.out 0)))
    go_ret
    exact ⟨by first | rfl | (simp [errW_none, errW_some] <;> rfl) | (simp [*, errW_none, errW_some] <;> rfl) | (simp [wrap64]; done), by repeat (first | (with_reducible first | exact HB.out | apply below_alloc | apply pw_below_drewN | apply below_drew1 | refine below_set ?_ GE273.out) | exact HB.out)⟩
 ·replace c4 := Bool.eq_false_iff.mpr c4
  subst c4
  have H1 : (some false) = some r := by rw [if_neg (show ¬ (false = true) by decide)] at H; exact H
  clear H
  have H := H1
  clear H1
  obtain rfl := Option.some.inj H
  exact absurd HR_.out (by simp)

def squelchlaw03_FreqScales.Pure : Prop := ∀ (a0 : Int) (l1 : List Int), (Lit.int .i64 a0).wf = true → (l1.length * 8 ≤ 140737488351232 ∧ l1.length ≤ 9223372036854775807 ∧ ∀ y0_ ∈ l1, (Lit.int .i64 y0_).wf = true) → ∃ k, squelchlaw03_FreqScales.f k a0 l1 = some true

end Go.Proofs.Ytdhckdeojplghaa.PA
-- slim
