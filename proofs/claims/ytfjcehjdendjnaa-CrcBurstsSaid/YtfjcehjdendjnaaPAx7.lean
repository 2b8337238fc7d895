-- Written for this claim by this session's own printer (wip/patch_print.py over the kit's print).
import Derived.Test.YtfjcehjdendjnaaPAx0
import Derived.Test.YtfjcehjdendjnaaPAx2
import Derived.Test.YtfjcehjdendjnaaPAx5
import Derived.Test.YtfjcehjdendjnaaHLive
namespace Go.Proofs.Ytfjcehjdendjnaa.PA
open Go.RowKit Go.Proofs.YtfjcehjdendjnaaW.PrintWords Go.Proofs.YtfjcehjdendjnaaW.PrintLast Go.Proofs.YtfjcehjdendjnaaW.PrintMore
attribute [local go_sem] max2_int min2_int max_two min_two max_three min_three max_four min_four   -- for this text's walks alone
set_option linter.unusedVariables false
set_option linter.unusedSimpArgs false

/-! ### squelchlaw02_CrcBursts: function 6 -/
mutual
def squelchlaw02_CrcBursts.j0 : Nat → Int → Int → Bool → List Int → Bool → Option (Bool)
 | 0, _, _, _, _, _ => none
 | k + 1, x1, x2, x7, x8, x53 => if x53 = true then (some false) else (if x2 = 0 then (some x7) else (if (wrap64 ((wrap64 (8 * (x8.length : Int))) - 31)) = 0 then (none) else (squelchlaw02_CrcBursts.l0 k (Int.tmod (wrap64 ((Int.tmod x1 (wrap64 ((wrap64 (8 * (x8.length : Int))) - 31))) + (wrap64 ((wrap64 (8 * (x8.length : Int))) - 31)))) (wrap64 ((wrap64 (8 * (x8.length : Int))) - 31))) x2 x7 x8 0)))
def squelchlaw02_CrcBursts.l0 : Nat → Int → Int → Bool → List Int → Int → Option (Bool)
 | 0, _, _, _, _, _ => none
 | k + 1, x1, x2, x7, x8, x68 => if x68 < 32 then (if 0 ≤ (IntKind.u64.wrap (x68)) then (if (Go.bits .and .u32 (shr .u32 x2 (IntKind.u64.wrap (x68))) 1) = 1 then (if 0 ≤ (wrap64 (Int.tdiv (wrap64 (x1 + x68)) 8)) then (if (wrap64 (Int.tdiv (wrap64 (x1 + x68)) 8)) < (x8.length : Int) then (if 0 ≤ (IntKind.u64.wrap (Int.tmod (wrap64 (x1 + x68)) 8)) then (squelchlaw02_CrcBursts.l0 k x1 x2 x7 (x8.set ((wrap64 (Int.tdiv (wrap64 (x1 + x68)) 8)) : Int).toNat (Go.bits .xor .u8 (rd x8 (wrap64 (Int.tdiv (wrap64 (x1 + x68)) 8))) (shl .u8 1 (IntKind.u64.wrap (Int.tmod (wrap64 (x1 + x68)) 8))))) (wrap64 (x68 + 1))) else (none)) else (none)) else (none)) else (squelchlaw02_CrcBursts.l0 k x1 x2 x7 x8 (wrap64 (x68 + 1)))) else (none)) else ((crc_Open.f k x8).bind fun bt269 => (if x7 = true then (some (bt269.2 == 30)) else (some false)))
end
def squelchlaw02_CrcBursts.f (k : Nat) (l0 : List Int) (a1 : Int) (a2 : Int) : Option (Bool) := (squelchlaw02_live.f).bind fun t258 => (if t258 = true then (if (l0.length : Int) > 5000 then (some t258) else ((crc_Seal.f k l0).bind fun bt259 => ((crc_Open.f k bt259.1).bind fun bt263 => (if bt259.2 = 0 then (if bt263.2 = 0 then (if (bt259.1.length : Int) = (wrap64 ((l0.length : Int) + 4)) then (squelchlaw02_CrcBursts.j0 k a1 a2 t258 bt259.1 ((strOfNums bt263.1).toList != (strOfNums l0).toList)) else (squelchlaw02_CrcBursts.j0 k a1 a2 t258 bt259.1 true)) else (squelchlaw02_CrcBursts.j0 k a1 a2 t258 bt259.1 true)) else (squelchlaw02_CrcBursts.j0 k a1 a2 t258 bt259.1 true))))) else (some false))
theorem squelchlaw02_CrcBursts.mono_l : ∀ k, (∀ y0 y1 y2 y3 y4, LeO (squelchlaw02_CrcBursts.j0 k y0 y1 y2 y3 y4) (squelchlaw02_CrcBursts.j0 (k + 1) y0 y1 y2 y3 y4)) ∧ (∀ y0 y1 y2 y3 y4, LeO (squelchlaw02_CrcBursts.l0 k y0 y1 y2 y3 y4) (squelchlaw02_CrcBursts.l0 (k + 1) y0 y1 y2 y3 y4))
 | 0 => ⟨fun _ _ _ _ _ r h => by simp [squelchlaw02_CrcBursts.j0] at h, fun _ _ _ _ _ r h => by simp [squelchlaw02_CrcBursts.l0] at h⟩
 | k + 1 => by
  obtain ⟨ih0, ih1⟩ := squelchlaw02_CrcBursts.mono_l k
  refine ⟨?_, ?_⟩
  ·intro y0 y1 y2 y3 y4
   unfold squelchlaw02_CrcBursts.j0
   repeat' first
   | (with_reducible exact ih0 _ _ _ _ _)
   | (with_reducible exact ih1 _ _ _ _ _)
   | (with_reducible exact crc_Open.mono _ _)
   | (with_reducible exact crc_Seal.mono _ _)
   | (with_reducible exact LeO.refl _)
   | (with_reducible exact LeO.none _)
   | (with_reducible refine LeO.ite ?_ ?_)
   | (with_reducible refine LeO.bind ?_ (fun _ => ?_))
   | exact ih0 _ _ _ _ _
   | exact ih1 _ _ _ _ _
   | exact crc_Open.mono _ _
   | exact crc_Seal.mono _ _
   | exact LeO.none _
   | refine LeO.ite ?_ ?_
   | refine LeO.bind ?_ (fun _ => ?_)
  ·intro y0 y1 y2 y3 y4
   unfold squelchlaw02_CrcBursts.l0
   repeat' first
   | (with_reducible exact ih0 _ _ _ _ _)
   | (with_reducible exact ih1 _ _ _ _ _)
   | (with_reducible exact crc_Open.mono _ _)
   | (with_reducible exact crc_Seal.mono _ _)
   | (with_reducible exact LeO.refl _)
   | (with_reducible exact LeO.none _)
   | (with_reducible refine LeO.ite ?_ ?_)
   | (with_reducible refine LeO.bind ?_ (fun _ => ?_))
   | exact ih0 _ _ _ _ _
   | exact ih1 _ _ _ _ _
   | exact crc_Open.mono _ _
   | exact crc_Seal.mono _ _
   | exact LeO.none _
   | refine LeO.ite ?_ ?_
   | refine LeO.bind ?_ (fun _ => ?_)
theorem squelchlaw02_CrcBursts.mono : ∀ a0 a1 a2 k, LeO (squelchlaw02_CrcBursts.f k a0 a1 a2) (squelchlaw02_CrcBursts.f (k + 1) a0 a1 a2) := by
 intro a0 a1 a2 k
 obtain ⟨ih0, ih1⟩ := squelchlaw02_CrcBursts.mono_l k
 unfold squelchlaw02_CrcBursts.f
 repeat' first
   | (with_reducible exact ih0 _ _ _ _ _)
   | (with_reducible exact ih1 _ _ _ _ _)
   | (with_reducible exact crc_Open.mono _ _)
   | (with_reducible exact crc_Seal.mono _ _)
   | (with_reducible exact LeO.refl _)
   | (with_reducible exact LeO.none _)
   | (with_reducible refine LeO.ite ?_ ?_)
   | (with_reducible refine LeO.bind ?_ (fun _ => ?_))
   | exact ih0 _ _ _ _ _
   | exact ih1 _ _ _ _ _
   | exact crc_Open.mono _ _
   | exact crc_Seal.mono _ _
   | exact LeO.none _
   | refine LeO.ite ?_ ?_
   | refine LeO.bind ?_ (fun _ => ?_)
set_option maxHeartbeats 8000000 in
set_option maxRecDepth 100000 in
theorem squelchlaw02_CrcBursts.calls (k : Nat) (A0 : Option Addr) (c0 : Nat) (l0 : List Int) (a1 : Int) (a2 : Int) (r : Bool) (w : World) (hr0 : Kd.C (Kd.int .u8) w A0 l0.length l0) (hc0 : l0.length ≤ c0) (h : squelchlaw02_CrcBursts.f k l0 a1 a2 = some r) :
  Calls Try.prog 6 #[.slice A0 l0.length c0, .int .i64 a1, .int .u32 a2] w fun e w' => e = .returned (.bool r) ∧ Below w.heap.size w w' := by
 have HR0 := Aside0.mk hr0
 have HC0 := Aside0.mk hc0
 clear hr0 hc0
 have HB := Aside0.mk (Below.refl w.heap.size w)
 have H : ((squelchlaw02_live.f).bind fun t258 => (if t258 = true then (if (l0.length : Int) > 5000 then (some t258) else ((crc_Seal.f k l0).bind fun bt259 => ((crc_Open.f k bt259.1).bind fun bt263 => (if bt259.2 = 0 then (if bt263.2 = 0 then (if (bt259.1.length : Int) = (wrap64 ((l0.length : Int) + 4)) then (squelchlaw02_CrcBursts.j0 k a1 a2 t258 bt259.1 ((strOfNums bt263.1).toList != (strOfNums l0).toList)) else (squelchlaw02_CrcBursts.j0 k a1 a2 t258 bt259.1 true)) else (squelchlaw02_CrcBursts.j0 k a1 a2 t258 bt259.1 true)) else (squelchlaw02_CrcBursts.j0 k a1 a2 t258 bt259.1 true))))) else (some false))) = some r := h
 clear h
 replace H := Option.bind_eq_some_iff.mp H
 obtain ⟨t258, A40, H⟩ := H
 replace H : (if t258 = true then (if (l0.length : Int) > 5000 then (some t258) else ((crc_Seal.f k l0).bind fun bt259 => ((crc_Open.f k bt259.1).bind fun bt263 => (if bt259.2 = 0 then (if bt263.2 = 0 then (if (bt259.1.length : Int) = (wrap64 ((l0.length : Int) + 4)) then (squelchlaw02_CrcBursts.j0 k a1 a2 t258 bt259.1 ((strOfNums bt263.1).toList != (strOfNums l0).toList)) else (squelchlaw02_CrcBursts.j0 k a1 a2 t258 bt259.1 true)) else (squelchlaw02_CrcBursts.j0 k a1 a2 t258 bt259.1 true)) else (squelchlaw02_CrcBursts.j0 k a1 a2 t258 bt259.1 true))))) else (some false)) = some r := H
 have A4 := Aside0.mk A40
 clear A40
 by_cases c5 : t258 = true
 ·subst c5
  have H1 : (if (l0.length : Int) > 5000 then (some true) else ((crc_Seal.f k l0).bind fun bt259 => ((crc_Open.f k bt259.1).bind fun bt263 => (if bt259.2 = 0 then (if bt263.2 = 0 then (if (bt259.1.length : Int) = (wrap64 ((l0.length : Int) + 4)) then (squelchlaw02_CrcBursts.j0 k a1 a2 true bt259.1 ((strOfNums bt263.1).toList != (strOfNums l0).toList)) else (squelchlaw02_CrcBursts.j0 k a1 a2 true bt259.1 true)) else (squelchlaw02_CrcBursts.j0 k a1 a2 true bt259.1 true)) else (squelchlaw02_CrcBursts.j0 k a1 a2 true bt259.1 true))))) = some r := by rw [if_pos rfl] at H; exact H
  clear H
  have H := H1
  clear H1
  by_cases c6 : (l0.length : Int) > 5000
  ·rw [if_pos c6] at H
   have c6b0 : decide (5000 < (l0.length : Int)) = true := decide_eq_true c6
   have c6b1 : decide (5000 < l0.length) = true := decide_eq_true (by omega)
   clear c6
   obtain rfl := Option.some.inj H
   go_enter Try.func6, Try.ntmps6
   go_wp2_with (first | ((with_reducible refine gate_callee (f := 9) rfl ?_); refine goesL_ (some 16) rfl rfl Try.func9 (by kernel_rfl) rfl #[] rfl (by (try simp only [List.map_toArray, List.map_cons, List.map_nil]); first | done | rfl | (simp only [List.length_drop, List.length_take]; rfl)) ?_; (with_reducible refine (squelchlaw02_live.calls  true _ A4.out).mono ?_); rintro e w7 ⟨rfl, hb⟩; refine ⟨_, rfl, ?_⟩; have n0_ := Aside0.mk (below_step (by repeat (first | (with_reducible first | exact HB.out | apply below_alloc | apply pw_below_drewN | apply below_drew1) | exact HB.out)) hb); clear HB; have HB := n0_; clear n0_; (try clear hb); (try clear hb2); (try clear hk); (try clear hi)))
   go_ret
   exact ⟨by first | rfl | (simp [errW_none, errW_some] <;> rfl) | (simp [*, errW_none, errW_some] <;> rfl), by repeat (first | (with_reducible first | exact HB.out | apply below_alloc | apply pw_below_drewN | apply below_drew1) | exact HB.out)⟩
  ·rw [if_neg c6] at H
   have c6b0 : decide (5000 < (l0.length : Int)) = false := decide_eq_false c6
   have c6b1 : decide (5000 < l0.length) = false := decide_eq_false (by omega)
   clear c6
   replace H := Option.bind_eq_some_iff.mp H
   obtain ⟨⟨t259, t262⟩, A80, H⟩ := H
   replace H : ((crc_Open.f k t259).bind fun bt263 => (if t262 = 0 then (if bt263.2 = 0 then (if (t259.length : Int) = (wrap64 ((l0.length : Int) + 4)) then (squelchlaw02_CrcBursts.j0 k a1 a2 true t259 ((strOfNums bt263.1).toList != (strOfNums l0).toList)) else (squelchlaw02_CrcBursts.j0 k a1 a2 true t259 true)) else (squelchlaw02_CrcBursts.j0 k a1 a2 true t259 true)) else (squelchlaw02_CrcBursts.j0 k a1 a2 true t259 true))) = some r := H
   have A8 := Aside0.mk A80
   clear A80
   replace H := Option.bind_eq_some_iff.mp H
   obtain ⟨⟨t263, t266⟩, A90, H⟩ := H
   replace H : (if t262 = 0 then (if t266 = 0 then (if (t259.length : Int) = (wrap64 ((l0.length : Int) + 4)) then (squelchlaw02_CrcBursts.j0 k a1 a2 true t259 ((strOfNums t263).toList != (strOfNums l0).toList)) else (squelchlaw02_CrcBursts.j0 k a1 a2 true t259 true)) else (squelchlaw02_CrcBursts.j0 k a1 a2 true t259 true)) else (squelchlaw02_CrcBursts.j0 k a1 a2 true t259 true)) = some r := H
   have A9 := Aside0.mk A90
   clear A90
   have HC10 := Aside0.mk H
   clear H
   go_enter Try.func6, Try.ntmps6
   go_upto_region 8 with (first | ((with_reducible refine gate_callee (f := 9) rfl ?_); refine goesL_ (some 16) rfl rfl Try.func9 (by kernel_rfl) rfl #[] rfl (by (try simp only [List.map_toArray, List.map_cons, List.map_nil]); first | done | rfl | (simp only [List.length_drop, List.length_take]; rfl)) ?_; (with_reducible refine (squelchlaw02_live.calls  true _ A4.out).mono ?_); rintro e w11 ⟨rfl, hb⟩; refine ⟨_, rfl, ?_⟩; have n0_ := Aside0.mk (below_step (by repeat (first | (with_reducible first | exact HB.out | apply below_alloc | apply pw_below_drewN | apply below_drew1) | exact HB.out)) hb); clear HB; have HB := n0_; clear n0_; (try clear hb); (try clear hb2); (try clear hk); (try clear hi)) | ((with_reducible refine gate_callee (f := 15) rfl ?_); refine goesL_ (some 25) rfl rfl Try.func15 (by kernel_rfl) rfl #[.slice A0 l0.length c0] rfl (by (try simp only [List.map_toArray, List.map_cons, List.map_nil]); first | done | rfl | (simp only [List.length_drop, List.length_take]; rfl)) ?_; (with_reducible refine (crc_Seal.calls k (fun k_ => k_ < w.heap.size) _ _ l0 t259 t262 _ ?side1 A8.out).mono ?_); (case side1 => exact Kd.V_mk HC0.out (Kd.F_below (Kd.C_F (Kd.heap_int .u8) HR0.out) (by repeat (first | (with_reducible first | exact HB.out | apply below_alloc | apply pw_below_drewN | apply below_drew1) | exact HB.out)))); rintro e w12 ⟨v260, rfl, ho0, hb⟩; refine ⟨_, rfl, ?_⟩; have n0_ := Aside0.mk (Kd.R_lower (Kd.R_mono (ok' := fun k_ => True) ho0 (fun _ hk_ => trivial)) (below_size (by repeat (first | (with_reducible first | exact HB.out | apply below_alloc | apply pw_below_drewN | apply below_drew1) | exact HB.out)))); have n1_ := Aside0.mk (below_step (by repeat (first | (with_reducible first | exact HB.out | apply below_alloc | apply pw_below_drewN | apply below_drew1) | exact HB.out)) hb); clear HB; have HO261 := n0_; have HB := n1_; clear n0_ n1_; (try clear hb); (try clear hb2); (try clear hk); (try clear hi); (try clear ho0); obtain ⟨Ao13, co13, eo13⟩ := Kd.R_slice HO261.out; subst eo13) | ((with_reducible refine gate_callee (f := 16) rfl ?_); refine goesL_ (some 30) rfl rfl Try.func16 (by kernel_rfl) rfl #[.slice Ao13 t259.length co13] rfl (by (try simp only [List.map_toArray, List.map_cons, List.map_nil]); first | done | rfl | (simp only [List.length_drop, List.length_take]; rfl)) ?_; (with_reducible refine (crc_Open.calls k (fun k_ => some k_ = (.slice Ao13 t259.length co13 : Value).ownBlock) _ _ t259 t263 t266 _ ?side1 A9.out).mono ?_); (case side1 => exact Kd.R_V (Kd.R_tight rfl (HO261.out))); rintro e w14 ⟨v264, rfl, ho0, hb⟩; refine ⟨_, rfl, ?_⟩; have n0_ := Aside0.mk (Kd.R_elder' (by (with_reducible repeat (first | apply Kd.R_alloc | apply Kd.R_drewN | apply Kd.R_drew)); exact HO261.out) (Kd.R_base ho0) hb); have n1_ := Aside0.mk (Kd.R_lower (Kd.R_new' (Kd.R_mono (ok' := fun k_ => True) ho0 (fun _ hk_ => trivial)) (Kd.R_lt (by (with_reducible repeat (first | apply Kd.R_alloc | apply Kd.R_drewN | apply Kd.R_drew)); exact HO261.out))) (below_size (by repeat (first | (with_reducible first | exact HB.out | apply below_alloc | apply pw_below_drewN | apply below_drew1) | exact HB.out)))); have n2_ := Aside0.mk (below_step (by repeat (first | (with_reducible first | exact HB.out | apply below_alloc | apply pw_below_drewN | apply below_drew1) | exact HB.out)) hb); clear HO261; clear HB; have HO261 := n0_; have HO265 := n1_; have HB := n2_; clear n0_ n1_ n2_; (try clear hb); (try clear hb2); (try clear hk); (try clear hi); (try clear ho0)))
   (try simp only [Act.put, List.setIfInBounds_toArray, List.set_cons_zero, List.set_cons_succ])
   go_cut [53] (fun v53 wc => ∃ (kq : Nat) (x53_9 : Bool), v53 = .bool x53_9 ∧ Aside0 (squelchlaw02_CrcBursts.j0 kq a1 a2 true t259 x53_9 = some r) ∧ Aside0 (kq ≤ k) ∧ Aside0 (Kd.R (Kd.int .u8) 5 wc w.heap.size (fun _ => True) (.slice Ao13 t259.length co13) t259) ∧ Aside0 (Below w.heap.size w wc))
   case first =>
    have H := HC10.out
    clear HC10
    by_cases c15 : t262 = 0
    ·rw [if_pos c15] at H
     have c15b0 : (t262 == 0) = true := beq_iff_eq.mpr c15
     have c15b1 : (t262 != 0) = false := bne_eq_false_iff_eq.mpr c15
     clear c15
     (first | rw [c15b0] | (simp only [i64_w, i32_w]; rw [c15b0]) | skip)
     by_cases c16 : t266 = 0
     ·rw [if_pos c16] at H
      have c16b0 : (t266 == 0) = true := beq_iff_eq.mpr c16
      have c16b1 : (t266 != 0) = false := bne_eq_false_iff_eq.mpr c16
      clear c16
      by_cases c17 : (t259.length : Int) = (wrap64 ((l0.length : Int) + 4))
      ·rw [if_pos c17] at H
       have c17b0 : ((t259.length : Int) == (wrap64 ((l0.length : Int) + 4))) = true := beq_iff_eq.mpr c17
       have c17b1 : ((t259.length : Int) != (wrap64 ((l0.length : Int) + 4))) = false := bne_eq_false_iff_eq.mpr c17
       clear c17
       have H' := Aside0.mk H
       clear H
       have hcv18 := own_string (P := Try.prog) Try.underlying22 Try.underlying5 Try.underlying9 (Kd.own_of_R HO265.out)
       have hcv18d := fun n_ => own_string (P := Try.prog) Try.underlying22 Try.underlying5 Try.underlying9 (Kd.own_of_R (Kd.R_drewN HO265.out n_))
       have hcv19 := Kd.C_string (P := Try.prog) (A := A0) (c := c0) Try.underlying22 Try.underlying5 Try.underlying9 (Kd.C_below HR0.out HB.out)
       go_wp2
       go_meet
       case rel => exact ⟨_, (((strOfNums t263).toList != (strOfNums l0).toList)), (by first | rfl | (simp; done) | (simp [*]; done)), H', ⟨by first | omega | exact Nat.le_refl _⟩, ⟨by (with_reducible repeat (first | apply Kd.R_alloc | apply Kd.R_drewN | apply Kd.R_drew)); exact Kd.R_mono HO261.out (fun _ hk => trivial)⟩, ⟨by repeat (first | (with_reducible first | exact HB.out | apply below_alloc | apply pw_below_drewN | apply below_drew1) | exact HB.out)⟩⟩
      ·rw [if_neg c17] at H
       have c17b0 : ((t259.length : Int) == (wrap64 ((l0.length : Int) + 4))) = false := beq_eq_false_iff_ne.mpr c17
       have c17b1 : ((t259.length : Int) != (wrap64 ((l0.length : Int) + 4))) = true := bne_iff_ne.mpr c17
       have H' := Aside0.mk H
       clear H
       go_wp2
       go_meet
       case rel => exact ⟨_, (true), (by first | rfl | (simp; done) | (simp [*]; done)), H', ⟨by first | omega | exact Nat.le_refl _⟩, ⟨by (with_reducible repeat (first | apply Kd.R_alloc | apply Kd.R_drewN | apply Kd.R_drew)); exact Kd.R_mono HO261.out (fun _ hk => trivial)⟩, ⟨by repeat (first | (with_reducible first | exact HB.out | apply below_alloc | apply pw_below_drewN | apply below_drew1) | exact HB.out)⟩⟩
     ·rw [if_neg c16] at H
      have c16b0 : (t266 == 0) = false := beq_eq_false_iff_ne.mpr c16
      have c16b1 : (t266 != 0) = true := bne_iff_ne.mpr c16
      have H' := Aside0.mk H
      clear H
      go_wp2
      go_meet
      case rel => exact ⟨_, (true), (by first | rfl | (simp; done) | (simp [*]; done)), H', ⟨by first | omega | exact Nat.le_refl _⟩, ⟨by (with_reducible repeat (first | apply Kd.R_alloc | apply Kd.R_drewN | apply Kd.R_drew)); exact Kd.R_mono HO261.out (fun _ hk => trivial)⟩, ⟨by repeat (first | (with_reducible first | exact HB.out | apply below_alloc | apply pw_below_drewN | apply below_drew1) | exact HB.out)⟩⟩
    ·rw [if_neg c15] at H
     have c15b0 : (t262 == 0) = false := beq_eq_false_iff_ne.mpr c15
     have c15b1 : (t262 != 0) = true := bne_iff_ne.mpr c15
     (first | rw [c15b0] | (simp only [i64_w, i32_w]; rw [c15b0]) | skip)
     have H' := Aside0.mk H
     clear H
     go_wp2
     go_meet
     case rel => exact ⟨_, (true), (by first | rfl | (simp; done) | (simp [*]; done)), H', ⟨by first | omega | exact Nat.le_refl _⟩, ⟨by (with_reducible repeat (first | apply Kd.R_alloc | apply Kd.R_drewN | apply Kd.R_drew)); exact Kd.R_mono HO261.out (fun _ hk => trivial)⟩, ⟨by repeat (first | (with_reducible first | exact HB.out | apply below_alloc | apply pw_below_drewN | apply below_drew1) | exact HB.out)⟩⟩
   case rest =>
    clear HC10
    try clear c1
    try clear hcv1
    try clear p2
    try clear c5
    try clear c6
    try clear c6b0
    try clear c6b1
    try clear p6
    try clear c9
    try clear c15
    try clear c15b0
    try clear c15b1
    try clear c16
    try clear c16b0
    try clear c16b1
    try clear c17
    try clear c17b0
    try clear c17b1
    try clear hcv18
    try clear hcv19
    obtain ⟨kq, x53_9, rfl, HA, HJ9, HO_8, HB⟩ := hcut
    cases kq with
    | zero => exact absurd HA.out (by simp [squelchlaw02_CrcBursts.j0])
    | succ kj9 =>
     have H := HA.out
     clear HA
     simp only [squelchlaw02_CrcBursts.j0] at H
     by_cases c20 : x53_9 = true
     ·subst c20
      have H1 : (some false) = some r := by rw [if_pos rfl] at H; exact H
      clear H
      have H := H1
      clear H1
      obtain rfl := Option.some.inj H
      go_wp2
      go_ret
      exact ⟨by first | rfl | (simp [errW_none, errW_some] <;> rfl) | (simp [*, errW_none, errW_some] <;> rfl), by repeat (first | (with_reducible first | exact HB.out | apply below_alloc | apply pw_below_drewN | apply below_drew1) | exact HB.out)⟩
     ·replace c20 := Bool.eq_false_iff.mpr c20
      subst c20
      have H1 : (if a2 = 0 then (some true) else (if (wrap64 ((wrap64 (8 * (t259.length : Int))) - 31)) = 0 then (none) else (squelchlaw02_CrcBursts.l0 kj9 (Int.tmod (wrap64 ((Int.tmod a1 (wrap64 ((wrap64 (8 * (t259.length : Int))) - 31))) + (wrap64 ((wrap64 (8 * (t259.length : Int))) - 31)))) (wrap64 ((wrap64 (8 * (t259.length : Int))) - 31))) a2 true t259 0))) = some r := by rw [if_neg (show ¬ (false = true) by decide)] at H; exact H
      clear H
      have H := H1
      clear H1
      by_cases c21 : a2 = 0
      ·rw [if_pos c21] at H
       have c21b0 : (a2 == 0) = true := beq_iff_eq.mpr c21
       have c21b1 : (a2 != 0) = false := bne_eq_false_iff_eq.mpr c21
       clear c21
       obtain rfl := Option.some.inj H
       go_wp2
       go_ret
       exact ⟨by first | rfl | (simp [errW_none, errW_some] <;> rfl) | (simp [*, errW_none, errW_some] <;> rfl), by repeat (first | (with_reducible first | exact HB.out | apply below_alloc | apply pw_below_drewN | apply below_drew1) | exact HB.out)⟩
      ·rw [if_neg c21] at H
       have c21b0 : (a2 == 0) = false := beq_eq_false_iff_ne.mpr c21
       have c21b1 : (a2 != 0) = true := bne_iff_ne.mpr c21
       by_cases c22 : (wrap64 ((wrap64 (8 * (t259.length : Int))) - 31)) = 0
       ·rw [if_pos c22] at H
        exact absurd H (by simp)
       ·rw [if_neg c22] at H
        have c22b0 : ((wrap64 ((wrap64 (8 * (t259.length : Int))) - 31)) == 0) = false := beq_eq_false_iff_ne.mpr c22
        have c22b1 : ((wrap64 ((wrap64 (8 * (t259.length : Int))) - 31)) != 0) = true := bne_iff_ne.mpr c22
        have H' := Aside0.mk H
        clear H
        go_wp2
        (try simp only [Act.put, List.setIfInBounds_toArray, List.set_cons_zero, List.set_cons_succ])
        go_loopg [68] kj9 (fun kq v68 w' => ∃ (x8_2 : List Int) (x68_2 : Int), v68 = .int .i64 x68_2 ∧ Aside0 (squelchlaw02_CrcBursts.l0 kq (Int.tmod (wrap64 ((Int.tmod a1 (wrap64 ((wrap64 (8 * (t259.length : Int))) - 31))) + (wrap64 ((wrap64 (8 * (t259.length : Int))) - 31)))) (wrap64 ((wrap64 (8 * (t259.length : Int))) - 31))) a2 true x8_2 x68_2 = some r) ∧ Aside0 (kq ≤ kj9) ∧ Aside0 (Kd.R (Kd.int .u8) 5 w' w.heap.size (fun _ => True) (.slice Ao13 t259.length co13) x8_2) ∧ Aside0 (Below w.heap.size w w'))
        case atStart => exact ⟨(t259), (0), (by first | rfl | (simp; done) | (simp [*]; done)), H', ⟨Nat.le_refl _⟩, ⟨by (with_reducible repeat (first | apply Kd.R_alloc | apply Kd.R_drewN | apply Kd.R_drew)); exact HO_8.out⟩, ⟨by repeat (first | (with_reducible first | exact HB.out | apply below_alloc | apply pw_below_drewN | apply below_drew1) | exact HB.out)⟩⟩
        case round =>
         clear H'
         try clear c1
         try clear hcv1
         try clear c2
         try clear p2
         try clear c5
         try clear c6
         try clear c6b0
         try clear c6b1
         try clear p6
         try clear c9
         try clear c15
         try clear c15b0
         try clear c15b1
         try clear c16
         try clear c16b0
         try clear c16b1
         try clear c17
         try clear c17b0
         try clear c17b1
         try clear hcv18
         try clear hcv19
         try clear c20
         try clear c21
         try clear c21b0
         try clear c21b1
         try clear c22
         try clear c22b0
         try clear c22b1
         try clear p2
         try clear p6
         obtain ⟨x8_2, x68_2, rfl, HA, HK2, HO_8, HB⟩ := hrel
         have hl8_2 := (Kd.R_reads' HO_8.out).1
         rw [hl8_2] at HO_8
         (try simp only [hl8_2])
         cases gk with
         | zero => exact absurd HA.out (by simp [squelchlaw02_CrcBursts.l0])
         | succ k2 =>
          have H := HA.out
          clear HA
          simp only [squelchlaw02_CrcBursts.l0] at H
          by_cases c23 : x68_2 < 32
          ·rw [if_pos c23] at H
           have c23b0 : decide (x68_2 < 32) = true := decide_eq_true c23
           clear c23
           obtain ⟨ji24, hji24⟩ : ∃ j_ : Int, (IntKind.u64.wrap (x68_2)) = j_ := ⟨_, rfl⟩
           replace H : (if 0 ≤ (ji24) then (if (Go.bits .and .u32 (shr .u32 a2 (ji24)) 1) = 1 then (if 0 ≤ (wrap64 (Int.tdiv (wrap64 ((Int.tmod (wrap64 ((Int.tmod a1 (wrap64 ((wrap64 (8 * (t259.length : Int))) - 31))) + (wrap64 ((wrap64 (8 * (t259.length : Int))) - 31)))) (wrap64 ((wrap64 (8 * (t259.length : Int))) - 31))) + x68_2)) 8)) then (if (wrap64 (Int.tdiv (wrap64 ((Int.tmod (wrap64 ((Int.tmod a1 (wrap64 ((wrap64 (8 * (t259.length : Int))) - 31))) + (wrap64 ((wrap64 (8 * (t259.length : Int))) - 31)))) (wrap64 ((wrap64 (8 * (t259.length : Int))) - 31))) + x68_2)) 8)) < (x8_2.length : Int) then (if 0 ≤ (IntKind.u64.wrap (Int.tmod (wrap64 ((Int.tmod (wrap64 ((Int.tmod a1 (wrap64 ((wrap64 (8 * (t259.length : Int))) - 31))) + (wrap64 ((wrap64 (8 * (t259.length : Int))) - 31)))) (wrap64 ((wrap64 (8 * (t259.length : Int))) - 31))) + x68_2)) 8)) then (squelchlaw02_CrcBursts.l0 k2 (Int.tmod (wrap64 ((Int.tmod a1 (wrap64 ((wrap64 (8 * (t259.length : Int))) - 31))) + (wrap64 ((wrap64 (8 * (t259.length : Int))) - 31)))) (wrap64 ((wrap64 (8 * (t259.length : Int))) - 31))) a2 true (x8_2.set ((wrap64 (Int.tdiv (wrap64 ((Int.tmod (wrap64 ((Int.tmod a1 (wrap64 ((wrap64 (8 * (t259.length : Int))) - 31))) + (wrap64 ((wrap64 (8 * (t259.length : Int))) - 31)))) (wrap64 ((wrap64 (8 * (t259.length : Int))) - 31))) + x68_2)) 8)) : Int).toNat (Go.bits .xor .u8 (rd x8_2 (wrap64 (Int.tdiv (wrap64 ((Int.tmod (wrap64 ((Int.tmod a1 (wrap64 ((wrap64 (8 * (t259.length : Int))) - 31))) + (wrap64 ((wrap64 (8 * (t259.length : Int))) - 31)))) (wrap64 ((wrap64 (8 * (t259.length : Int))) - 31))) + x68_2)) 8))) (shl .u8 1 (IntKind.u64.wrap (Int.tmod (wrap64 ((Int.tmod (wrap64 ((Int.tmod a1 (wrap64 ((wrap64 (8 * (t259.length : Int))) - 31))) + (wrap64 ((wrap64 (8 * (t259.length : Int))) - 31)))) (wrap64 ((wrap64 (8 * (t259.length : Int))) - 31))) + x68_2)) 8))))) (wrap64 (x68_2 + 1))) else (none)) else (none)) else (none)) else (squelchlaw02_CrcBursts.l0 k2 (Int.tmod (wrap64 ((Int.tmod a1 (wrap64 ((wrap64 (8 * (t259.length : Int))) - 31))) + (wrap64 ((wrap64 (8 * (t259.length : Int))) - 31)))) (wrap64 ((wrap64 (8 * (t259.length : Int))) - 31))) a2 true x8_2 (wrap64 (x68_2 + 1)))) else (none)) = some r := by first | (rw [hji24] at H; exact H) | (simp only [hji24] at H ⊢; exact H)
           by_cases c25 : 0 ≤ (ji24)
           ·rw [if_pos c25] at H
            have c25b0 := eq_true c25
            have c25b1 : decide (0 ≤ (ji24)) = true := decide_eq_true c25
            clear c25
            obtain ⟨ji26, hji26⟩ : ∃ j_ : Int, (shr .u32 a2 (ji24)) = j_ := ⟨_, rfl⟩
            replace H : (if (Go.bits .and .u32 (ji26) 1) = 1 then (if 0 ≤ (wrap64 (Int.tdiv (wrap64 ((Int.tmod (wrap64 ((Int.tmod a1 (wrap64 ((wrap64 (8 * (t259.length : Int))) - 31))) + (wrap64 ((wrap64 (8 * (t259.length : Int))) - 31)))) (wrap64 ((wrap64 (8 * (t259.length : Int))) - 31))) + x68_2)) 8)) then (if (wrap64 (Int.tdiv (wrap64 ((Int.tmod (wrap64 ((Int.tmod a1 (wrap64 ((wrap64 (8 * (t259.length : Int))) - 31))) + (wrap64 ((wrap64 (8 * (t259.length : Int))) - 31)))) (wrap64 ((wrap64 (8 * (t259.length : Int))) - 31))) + x68_2)) 8)) < (x8_2.length : Int) then (if 0 ≤ (IntKind.u64.wrap (Int.tmod (wrap64 ((Int.tmod (wrap64 ((Int.tmod a1 (wrap64 ((wrap64 (8 * (t259.length : Int))) - 31))) + (wrap64 ((wrap64 (8 * (t259.length : Int))) - 31)))) (wrap64 ((wrap64 (8 * (t259.length : Int))) - 31))) + x68_2)) 8)) then (squelchlaw02_CrcBursts.l0 k2 (Int.tmod (wrap64 ((Int.tmod a1 (wrap64 ((wrap64 (8 * (t259.length : Int))) - 31))) + (wrap64 ((wrap64 (8 * (t259.length : Int))) - 31)))) (wrap64 ((wrap64 (8 * (t259.length : Int))) - 31))) a2 true (x8_2.set ((wrap64 (Int.tdiv (wrap64 ((Int.tmod (wrap64 ((Int.tmod a1 (wrap64 ((wrap64 (8 * (t259.length : Int))) - 31))) + (wrap64 ((wrap64 (8 * (t259.length : Int))) - 31)))) (wrap64 ((wrap64 (8 * (t259.length : Int))) - 31))) + x68_2)) 8)) : Int).toNat (Go.bits .xor .u8 (rd x8_2 (wrap64 (Int.tdiv (wrap64 ((Int.tmod (wrap64 ((Int.tmod a1 (wrap64 ((wrap64 (8 * (t259.length : Int))) - 31))) + (wrap64 ((wrap64 (8 * (t259.length : Int))) - 31)))) (wrap64 ((wrap64 (8 * (t259.length : Int))) - 31))) + x68_2)) 8))) (shl .u8 1 (IntKind.u64.wrap (Int.tmod (wrap64 ((Int.tmod (wrap64 ((Int.tmod a1 (wrap64 ((wrap64 (8 * (t259.length : Int))) - 31))) + (wrap64 ((wrap64 (8 * (t259.length : Int))) - 31)))) (wrap64 ((wrap64 (8 * (t259.length : Int))) - 31))) + x68_2)) 8))))) (wrap64 (x68_2 + 1))) else (none)) else (none)) else (none)) else (squelchlaw02_CrcBursts.l0 k2 (Int.tmod (wrap64 ((Int.tmod a1 (wrap64 ((wrap64 (8 * (t259.length : Int))) - 31))) + (wrap64 ((wrap64 (8 * (t259.length : Int))) - 31)))) (wrap64 ((wrap64 (8 * (t259.length : Int))) - 31))) a2 true x8_2 (wrap64 (x68_2 + 1)))) = some r := by first | (rw [hji26] at H; exact H) | (simp only [hji26] at H ⊢; exact H)
            have hji26_ : (a2 / 2 ^ min (ji24).toNat 32) = ji26 := hji26
            have hji26z : (ji24) ≤ 32 → (a2 / 2 ^ (ji24).toNat) = ji26 := shr_small hji26
            by_cases c27 : (Go.bits .and .u32 (ji26) 1) = 1
            ·rw [if_pos c27] at H
             have c27b0 : ((Go.bits .and .u32 (ji26) 1) == 1) = true := beq_iff_eq.mpr c27
             have c27b1 : ((Go.bits .and .u32 (ji26) 1) != 1) = false := bne_eq_false_iff_eq.mpr c27
             clear c27
             obtain ⟨ji28, hji28⟩ : ∃ j_ : Int, (wrap64 (Int.tdiv (wrap64 ((Int.tmod (wrap64 ((Int.tmod a1 (wrap64 ((wrap64 (8 * (t259.length : Int))) - 31))) + (wrap64 ((wrap64 (8 * (t259.length : Int))) - 31)))) (wrap64 ((wrap64 (8 * (t259.length : Int))) - 31))) + x68_2)) 8)) = j_ := ⟨_, rfl⟩
             replace H : (if 0 ≤ (ji28) then (if (ji28) < (x8_2.length : Int) then (if 0 ≤ (IntKind.u64.wrap (Int.tmod (wrap64 ((Int.tmod (wrap64 ((Int.tmod a1 (wrap64 ((wrap64 (8 * (t259.length : Int))) - 31))) + (wrap64 ((wrap64 (8 * (t259.length : Int))) - 31)))) (wrap64 ((wrap64 (8 * (t259.length : Int))) - 31))) + x68_2)) 8)) then (squelchlaw02_CrcBursts.l0 k2 (Int.tmod (wrap64 ((Int.tmod a1 (wrap64 ((wrap64 (8 * (t259.length : Int))) - 31))) + (wrap64 ((wrap64 (8 * (t259.length : Int))) - 31)))) (wrap64 ((wrap64 (8 * (t259.length : Int))) - 31))) a2 true (x8_2.set ((ji28) : Int).toNat (Go.bits .xor .u8 (rd x8_2 (ji28)) (shl .u8 1 (IntKind.u64.wrap (Int.tmod (wrap64 ((Int.tmod (wrap64 ((Int.tmod a1 (wrap64 ((wrap64 (8 * (t259.length : Int))) - 31))) + (wrap64 ((wrap64 (8 * (t259.length : Int))) - 31)))) (wrap64 ((wrap64 (8 * (t259.length : Int))) - 31))) + x68_2)) 8))))) (wrap64 (x68_2 + 1))) else (none)) else (none)) else (none)) = some r := by first | (rw [hji28] at H; exact H) | (simp only [hji28] at H ⊢; exact H)
             have hji28w : (IntKind.i64.wrap (Int.tdiv (wrap64 ((Int.tmod (wrap64 ((Int.tmod a1 (wrap64 ((wrap64 (8 * (t259.length : Int))) - 31))) + (wrap64 ((wrap64 (8 * (t259.length : Int))) - 31)))) (wrap64 ((wrap64 (8 * (t259.length : Int))) - 31))) + x68_2)) 8)) = ji28 := (i64_w _).trans hji28
             by_cases c29 : 0 ≤ (ji28)
             ·rw [if_pos c29] at H
              have c29b0 : decide (0 ≤ (ji28)) = true := decide_eq_true c29
              clear c29
              by_cases c30 : (ji28) < (x8_2.length : Int)
              ·rw [if_pos c30] at H
               have c30b0 : decide ((ji28) < (x8_2.length : Int)) = true := decide_eq_true c30
               clear c30
               obtain ⟨ji31, hji31⟩ : ∃ j_ : Int, (IntKind.u64.wrap (Int.tmod (wrap64 ((Int.tmod (wrap64 ((Int.tmod a1 (wrap64 ((wrap64 (8 * (t259.length : Int))) - 31))) + (wrap64 ((wrap64 (8 * (t259.length : Int))) - 31)))) (wrap64 ((wrap64 (8 * (t259.length : Int))) - 31))) + x68_2)) 8)) = j_ := ⟨_, rfl⟩
               replace H : (if 0 ≤ (ji31) then (squelchlaw02_CrcBursts.l0 k2 (Int.tmod (wrap64 ((Int.tmod a1 (wrap64 ((wrap64 (8 * (t259.length : Int))) - 31))) + (wrap64 ((wrap64 (8 * (t259.length : Int))) - 31)))) (wrap64 ((wrap64 (8 * (t259.length : Int))) - 31))) a2 true (x8_2.set ((ji28) : Int).toNat (Go.bits .xor .u8 (rd x8_2 (ji28)) (shl .u8 1 (ji31)))) (wrap64 (x68_2 + 1))) else (none)) = some r := by first | (rw [hji31] at H; exact H) | (simp only [hji31] at H ⊢; exact H)
               by_cases c32 : 0 ≤ (ji31)
               ·rw [if_pos c32] at H
                have c32b0 := eq_true c32
                have c32b1 : decide (0 ≤ (ji31)) = true := decide_eq_true c32
                clear c32
                obtain ⟨ji33, hji33⟩ : ∃ j_ : Int, (shl .u8 1 (ji31)) = j_ := ⟨_, rfl⟩
                replace H : (squelchlaw02_CrcBursts.l0 k2 (Int.tmod (wrap64 ((Int.tmod a1 (wrap64 ((wrap64 (8 * (t259.length : Int))) - 31))) + (wrap64 ((wrap64 (8 * (t259.length : Int))) - 31)))) (wrap64 ((wrap64 (8 * (t259.length : Int))) - 31))) a2 true (x8_2.set ((ji28) : Int).toNat (Go.bits .xor .u8 (rd x8_2 (ji28)) (ji33))) (wrap64 (x68_2 + 1))) = some r := by first | (rw [hji33] at H; exact H) | (simp only [hji33] at H ⊢; exact H)
                have hji33_ : (IntKind.u8.wrap (1 * 2 ^ min (ji31).toNat 8)) = ji33 := hji33
                have hji33z : (ji31) ≤ 8 → (IntKind.u8.wrap (1 * 2 ^ (ji31).toNat)) = ji33 := shl_small hji33
                have hji33k_ : (1 * 2 ^ min (ji31).toNat 8) % 256 = ji33 := (IntKind.wrap_u8 _).symm.trans hji33_
                have hji33u : (IntKind.u8.wrap (2 ^ min (ji31).toNat 8)) = ji33 := by have h_ := hji33_; rw [Int.one_mul] at h_; exact h_
                have hji33v : (ji31) ≤ 8 → (IntKind.u8.wrap (2 ^ (ji31).toNat)) = ji33 := fun hle_ => by have h_ := hji33z hle_; rw [Int.one_mul] at h_; exact h_
                obtain ⟨y268, hy268⟩ : ∃ y_ : List Int, y_ = (x8_2.set ((ji28) : Int).toNat (Go.bits .xor .u8 (rd x8_2 (ji28)) (ji33))) := ⟨_, rfl⟩
                replace H : (squelchlaw02_CrcBursts.l0 k2 (Int.tmod (wrap64 ((Int.tmod a1 (wrap64 ((wrap64 (8 * (t259.length : Int))) - 31))) + (wrap64 ((wrap64 (8 * (t259.length : Int))) - 31)))) (wrap64 ((wrap64 (8 * (t259.length : Int))) - 31))) a2 true y268 (wrap64 (x68_2 + 1))) = some r := by first | (rw [hy268]; with_reducible exact H) | (have H2_ := (Option.bind_some _ _).symm.trans H; rw [hy268]; with_reducible exact H2_) | (have H2_ := (Option.bind_some _ _).symm.trans H; with_reducible exact H2_) | with_reducible exact H | (rw [hy268]; exact H) | exact H
                have Ny268 := Aside0.mk hy268
                clear hy268
                have H' := Aside0.mk H
                clear H
                have p267 : 0 ≤ ((ji28) : Int) := of_decide_eq_true (by first | (with_reducible assumption) | assumption)
                have q267 : (ji28) < (x8_2.length : Int) := of_decide_eq_true (by first | (with_reducible assumption) | assumption)
                obtain ⟨ad267, e267, hx267_0⟩ := Kd.at_int (Kd.R_reads' HO_8.out).2.2 (ji28) p267 q267
                cases e267
                replace p267 := eq_true p267
                replace q267 := eq_true q267
                have p34 : 0 ≤ ((ji28) : Int) := of_decide_eq_true (by first | (with_reducible assumption) | assumption)
                have q34 : ((ji28) : Int) < ((x8_2.length : Int) : Int) := of_decide_eq_true (by first | (with_reducible assumption) | assumption)
                obtain ⟨go34, co34, eo34, gb34, gl34, cl34, HG34⟩ := Kd.R_form HO_8.out (by omega)
                (first | cases eo34 | (injection eo34 with ea_ en_ ec_; (first | subst ea_ | (injection ea_ with ea_; subst ea_)); subst ec_; clear en_))
                have GB34 := Aside0.mk gb34
                have GG34 := Aside0.mk HG34
                clear gb34 gl34 HG34
                (first | simp only [add_plain] at hx267_0 | skip)
                obtain ⟨hx34_0, hf34_0⟩ := Kd.R_celln 0 HO_8.out ((ji28) : Int) p34 q34
                replace p34 := eq_true p34
                replace q34 := eq_true q34
                have HP35 := Kd.R_putg HO_8.out ((ji28) : Int) (Go.bits .xor .u8 (rd x8_2 (ji28)) (ji33))
                (try simp only [hl8_2] at hji28)
                (try simp only [hl8_2] at hji28w)
                (try simp only [hl8_2] at c30b0)
                (try simp only [hl8_2] at hji31)
                go_wp2_with (first | ((with_reducible refine gate_store (t := 5) (p := 91) rfl ?_); refine store_event (t := 5) (p := 91) (v := ?vo_w36) (w1 := (wr.setCell ⟨go34, ((ji28) : Int).toNat, none⟩ (.int .u8 (Go.bits .xor .u8 (rd x8_2 (ji28)) (ji33))))) ?hg ?ho ?hn ?hr ?_; (case ho => rfl); (case hg => rfl); (case hn => rfl); (case hr => first | (go_simp; done) | (go_simp; rfl)); intro w36 hw; have hg : wr.grownBy w36 (some go34) := (by rw [hw]; exact HP35.2); have hp_ : Kd.R (Kd.int .u8) 5 w36 w.heap.size (fun _ => True) (.slice (some ⟨go34, 0, none⟩) x8_2.length co13) y268 := (by rw [hw, Ny268.out]; exact HP35.1); clear HP35; have n0_ := Aside0.mk (hp_); have n1_ := Aside0.mk ((by rw [hw]; exact below_set (HB.out) GB34.out : Below w.heap.size w w36)); clear HO_8; clear HB; have HO_8 := n0_; have HB := n1_; clear n0_ n1_; clear hg hw hp_))
                (try simp only [← hl8_2])
                go_roundg k2
                case measure => have := HJ9.out; have := HK2.out; omega
                case rel => exact ⟨(y268), (wrap64 (x68_2 + 1)), (by first | rfl | (simp; done) | (simp [*]; done)), H', ⟨by have := HJ9.out; have := HK2.out; omega⟩, ⟨by (try simp only [hl8_2]); (with_reducible repeat (first | apply Kd.R_alloc | apply Kd.R_drewN | apply Kd.R_drew)); exact HO_8.out⟩, ⟨by repeat (first | (with_reducible first | exact HB.out | apply below_alloc | apply pw_below_drewN | apply below_drew1) | exact HB.out)⟩⟩
               ·rw [if_neg c32] at H
                exact absurd H (by simp)
              ·rw [if_neg c30] at H
               exact absurd H (by simp)
             ·rw [if_neg c29] at H
              exact absurd H (by simp)
            ·rw [if_neg c27] at H
             have c27b0 : ((Go.bits .and .u32 (ji26) 1) == 1) = false := beq_eq_false_iff_ne.mpr c27
             have c27b1 : ((Go.bits .and .u32 (ji26) 1) != 1) = true := bne_iff_ne.mpr c27
             have H' := Aside0.mk H
             clear H
             (try simp only [hl8_2] at hji28)
             (try simp only [hl8_2] at hji28w)
             go_wp2
             (try simp only [← hl8_2])
             go_roundg k2
             case measure => have := HJ9.out; have := HK2.out; omega
             case rel => exact ⟨(x8_2), (wrap64 (x68_2 + 1)), (by first | rfl | (simp; done) | (simp [*]; done)), H', ⟨by have := HJ9.out; have := HK2.out; omega⟩, ⟨by (try simp only [hl8_2]); (with_reducible repeat (first | apply Kd.R_alloc | apply Kd.R_drewN | apply Kd.R_drew)); exact HO_8.out⟩, ⟨by repeat (first | (with_reducible first | exact HB.out | apply below_alloc | apply pw_below_drewN | apply below_drew1) | exact HB.out)⟩⟩
           ·rw [if_neg c25] at H
            exact absurd H (by simp)
          ·rw [if_neg c23] at H
           have c23b0 : decide (x68_2 < 32) = false := decide_eq_false c23
           clear c23
           replace H := Option.bind_eq_some_iff.mp H
           obtain ⟨⟨t269, t272⟩, A370, H⟩ := H
           replace H : (if true = true then (some (t272 == 30)) else (some false)) = some r := H
           have A37 := Aside0.mk A370
           clear A370
           have H1 : (some (t272 == 30)) = some r := by first | (rw [if_pos rfl] at H; exact H) | (rw [if_pos trivial] at H; exact H)
           clear H
           have H := H1
           clear H1
           obtain rfl := Option.some.inj H
           go_wp2_with (first | ((with_reducible refine gate_callee (f := 16) rfl ?_); refine goesL_ (some 95) rfl rfl Try.func16 (by kernel_rfl) rfl #[.slice Ao13 x8_2.length co13] rfl (by (try simp only [List.map_toArray, List.map_cons, List.map_nil]); first | done | rfl | (simp only [List.length_drop, List.length_take]; rfl)) ?_; (with_reducible refine (crc_Open.calls k2 (fun k_ => some k_ = (.slice Ao13 x8_2.length co13 : Value).ownBlock) _ _ x8_2 t269 t272 _ ?side1 A37.out).mono ?_); (case side1 => exact Kd.R_V (Kd.R_tight rfl (HO_8.out))); rintro e w38 ⟨v270, rfl, ho0, hb⟩; refine ⟨_, rfl, ?_⟩; have n0_ := Aside0.mk (Kd.R_elder' (by (with_reducible repeat (first | apply Kd.R_alloc | apply Kd.R_drewN | apply Kd.R_drew)); exact HO_8.out) (Kd.R_base ho0) hb); have n1_ := Aside0.mk (Kd.R_lower (Kd.R_new' (Kd.R_mono (ok' := fun k_ => True) ho0 (fun _ hk_ => trivial)) (Kd.R_lt (by (with_reducible repeat (first | apply Kd.R_alloc | apply Kd.R_drewN | apply Kd.R_drew)); exact HO_8.out))) (below_size (by repeat (first | (with_reducible first | exact HB.out | apply below_alloc | apply pw_below_drewN | apply below_drew1) | exact HB.out)))); have n2_ := Aside0.mk (below_step (by repeat (first | (with_reducible first | exact HB.out | apply below_alloc | apply pw_below_drewN | apply below_drew1) | exact HB.out)) hb); clear HO_8; clear HB; have HO_8 := n0_; have HO271 := n1_; have HB := n2_; clear n0_ n1_ n2_; (try clear hb); (try clear hb2); (try clear hk); (try clear hi); (try clear ho0)))
           go_ret
           exact ⟨by first | rfl | (simp [errW_none, errW_some] <;> rfl) | (simp [*, errW_none, errW_some] <;> rfl), by repeat (first | (with_reducible first | exact HB.out | apply below_alloc | apply pw_below_drewN | apply below_drew1) | exact HB.out)⟩
 ·replace c5 := Bool.eq_false_iff.mpr c5
  subst c5
  have H1 : (some false) = some r := by rw [if_neg (show ¬ (false = true) by decide)] at H; exact H
  clear H
  have H := H1
  clear H1
  obtain rfl := Option.some.inj H
  go_enter Try.func6, Try.ntmps6
  go_wp2_with (first | ((with_reducible refine gate_callee (f := 9) rfl ?_); refine goesL_ (some 16) rfl rfl Try.func9 (by kernel_rfl) rfl #[] rfl (by (try simp only [List.map_toArray, List.map_cons, List.map_nil]); first | done | rfl | (simp only [List.length_drop, List.length_take]; rfl)) ?_; (with_reducible refine (squelchlaw02_live.calls  false _ A4.out).mono ?_); rintro e w39 ⟨rfl, hb⟩; refine ⟨_, rfl, ?_⟩; have n0_ := Aside0.mk (below_step (by repeat (first | (with_reducible first | exact HB.out | apply below_alloc | apply pw_below_drewN | apply below_drew1) | exact HB.out)) hb); clear HB; have HB := n0_; clear n0_; (try clear hb); (try clear hb2); (try clear hk); (try clear hi)))
  go_ret
  exact ⟨by first | rfl | (simp [errW_none, errW_some] <;> rfl) | (simp [*, errW_none, errW_some] <;> rfl), by repeat (first | (with_reducible first | exact HB.out | apply below_alloc | apply pw_below_drewN | apply below_drew1) | exact HB.out)⟩

def squelchlaw02_CrcBursts.Pure : Prop := ∀ (l0 : List Int) (a1 : Int) (a2 : Int), (l0.length * 1 ≤ 140737488351232 ∧ l0.length ≤ 9223372036854775807 ∧ ∀ y0_ ∈ l0, (Lit.int .u8 y0_).wf = true) → (Lit.int .i64 a1).wf = true → (Lit.int .u32 a2).wf = true → ∃ k, squelchlaw02_CrcBursts.f k l0 a1 a2 = some true

end Go.Proofs.Ytfjcehjdendjnaa.PA
-- slim
