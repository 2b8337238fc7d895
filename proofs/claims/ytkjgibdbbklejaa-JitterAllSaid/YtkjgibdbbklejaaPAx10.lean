-- Written for this claim by this session's own printer (wip/patch_print.py over the kit's print).
import Derived.Test.YtkjgibdbbklejaaPAx0
import Derived.Test.YtkjgibdbbklejaaPAx1
import Derived.Test.YtkjgibdbbklejaaPAx7
import Derived.Test.YtkjgibdbbklejaaHPull
import Derived.Test.YtkjgibdbbklejaaHPut
import Derived.Test.YtkjgibdbbklejaaHLive
namespace Go.Proofs.Ytkjgibdbbklejaa.PA
open Go.RowKit Go.Proofs.YtkjgibdbbklejaaW.PrintWords Go.Proofs.YtkjgibdbbklejaaW.PrintLast Go.Proofs.YtkjgibdbbklejaaW.PrintMore
attribute [local go_sem] max2_int min2_int max_two min_two max_three min_three max_four min_four   -- for this text's walks alone
set_option linter.unusedVariables false
set_option linter.unusedSimpArgs false

/-! ### squelchlaw13_JitterAll: function 4 -/
mutual
def squelchlaw13_JitterAll.j0 : Nat → Int → Int → Bool → Int → Bool → Bool → Int → Int → Int → List (S41) → Option (Bool)
 | 0, _, _, _, _, _, _, _, _, _, _ => none
 | k + 1, x1, x2, x7, x9, x50, x223000, x223001, x223002, x223003, x223004 => if x50 = true then (if x7 = true then (some (x9 == 0)) else (some false)) else (squelchlaw13_JitterAll.l0 k x1 x2 x7 x2 0 x223000 x223001 x223002 x223003 x223004)
def squelchlaw13_JitterAll.l0 : Nat → Int → Int → Bool → Int → Int → Bool → Int → Int → Int → List (S41) → Option (Bool)
 | 0, _, _, _, _, _, _, _, _, _, _ => none
 | k + 1, x1, x2, x7, x56, x57, x223000, x223001, x223002, x223003, x223004 => if x57 < x56 then ((jitter_Put.f k x223000 x223001 x223002 x223003 x223004 (([(⟨wrap64 ((wrap64 ((wrap64 (x1 + x2)) - 1)) - x57), (([(x57) % 256] : List Int))⟩ : S41)] : List (S41)))).bind fun bt229 => (if bt229.2.2.2.2.2.2 = 0 then (if (bt229.2.2.2.2.2.1.length : Int) = 1 then (if 0 < (bt229.2.2.2.2.2.1.length : Int) then (if (rd bt229.2.2.2.2.2.1 0) = 0 then ((jitter_Gaps.f k bt229.1 bt229.2.1 bt229.2.2.1 bt229.2.2.2.1 bt229.2.2.2.2.1).bind fun t242 => (if (t242.length : Int) = 0 then (squelchlaw13_JitterAll.l0 k x1 x2 x7 x56 (wrap64 (x57 + 1)) bt229.1 bt229.2.1 bt229.2.2.1 bt229.2.2.2.1 bt229.2.2.2.2.1) else (some false))) else (some false)) else (none)) else (some false)) else (some false))) else (squelchlaw13_JitterAll.l1 k x2 x7 x2 0 x223000 x223001 x223002 x223003 x223004)
def squelchlaw13_JitterAll.l1 : Nat → Int → Bool → Int → Int → Bool → Int → Int → Int → List (S41) → Option (Bool)
 | 0, _, _, _, _, _, _, _, _, _ => none
 | k + 1, x2, x7, x98, x99, x223000, x223001, x223002, x223003, x223004 => if x99 < x98 then ((jitter_Pull.f k x223000 x223001 x223002 x223003 x223004).bind fun bt245 => (if bt245.2.2.2.2.2.2.2 = 0 then (if bt245.2.2.2.2.2.1 = 1 then (if (bt245.2.2.2.2.2.2.1.length : Int) = 1 then (if 0 < (bt245.2.2.2.2.2.2.1.length : Int) then (if (wrap64 (rd bt245.2.2.2.2.2.2.1 0)) = (wrap64 ((wrap64 (x2 - 1)) - x99)) then (squelchlaw13_JitterAll.l1 k x2 x7 x98 (wrap64 (x99 + 1)) bt245.1 bt245.2.1 bt245.2.2.1 bt245.2.2.2.1 bt245.2.2.2.2.1) else (some false)) else (none)) else (some false)) else (some false)) else (some false))) else ((jitter_Pull.f k x223000 x223001 x223002 x223003 x223004).bind fun bt259 => (if x7 = true then (if bt259.2.2.2.2.2.2.2 = 0 then (some (bt259.2.2.2.2.2.1 == 2)) else (some false)) else (some false)))
end
def squelchlaw13_JitterAll.f (k : Nat) (a0 : Int) (a1 : Int) (a2 : Int) : Option (Bool) := (squelchlaw13_live.f).bind fun t213 => (if t213 = true then ((jitter_New.f (wrap64 (1 + (Int.tmod (wrap64 ((Int.tmod a0 16) + 16)) 16)))).bind fun bt214 => (if bt214.2.2.2.2.2 = 0 then (squelchlaw13_JitterAll.j0 k (Int.tmod (wrap64 ((Int.tmod a1 1099511627776) + 1099511627776)) 1099511627776) (wrap64 (16 + (Int.tmod (wrap64 ((Int.tmod a2 40) + 40)) 40))) t213 bt214.2.2.2.2.2 (decide ((Int.tmod (wrap64 ((Int.tmod a1 1099511627776) + 1099511627776)) 1099511627776) > 1099511627676)) bt214.1 bt214.2.1 bt214.2.2.1 bt214.2.2.2.1 bt214.2.2.2.2.1) else (squelchlaw13_JitterAll.j0 k (Int.tmod (wrap64 ((Int.tmod a1 1099511627776) + 1099511627776)) 1099511627776) (wrap64 (16 + (Int.tmod (wrap64 ((Int.tmod a2 40) + 40)) 40))) t213 bt214.2.2.2.2.2 true bt214.1 bt214.2.1 bt214.2.2.1 bt214.2.2.2.1 bt214.2.2.2.2.1))) else (some false))
theorem squelchlaw13_JitterAll.mono_l : ∀ k, (∀ y0 y1 y2 y3 y4 y5 y6 y7 y8 y9, LeO (squelchlaw13_JitterAll.j0 k y0 y1 y2 y3 y4 y5 y6 y7 y8 y9) (squelchlaw13_JitterAll.j0 (k + 1) y0 y1 y2 y3 y4 y5 y6 y7 y8 y9)) ∧ (∀ y0 y1 y2 y3 y4 y5 y6 y7 y8 y9, LeO (squelchlaw13_JitterAll.l0 k y0 y1 y2 y3 y4 y5 y6 y7 y8 y9) (squelchlaw13_JitterAll.l0 (k + 1) y0 y1 y2 y3 y4 y5 y6 y7 y8 y9)) ∧ (∀ y0 y1 y2 y3 y4 y5 y6 y7 y8, LeO (squelchlaw13_JitterAll.l1 k y0 y1 y2 y3 y4 y5 y6 y7 y8) (squelchlaw13_JitterAll.l1 (k + 1) y0 y1 y2 y3 y4 y5 y6 y7 y8))
 | 0 => ⟨fun _ _ _ _ _ _ _ _ _ _ r h => by simp [squelchlaw13_JitterAll.j0] at h, fun _ _ _ _ _ _ _ _ _ _ r h => by simp [squelchlaw13_JitterAll.l0] at h, fun _ _ _ _ _ _ _ _ _ r h => by simp [squelchlaw13_JitterAll.l1] at h⟩
 | k + 1 => by
  obtain ⟨ih0, ih1, ih2⟩ := squelchlaw13_JitterAll.mono_l k
  refine ⟨?_, ?_, ?_⟩
  ·intro y0 y1 y2 y3 y4 y5 y6 y7 y8 y9
   unfold squelchlaw13_JitterAll.j0
   repeat' first
   | (with_reducible exact ih0 _ _ _ _ _ _ _ _ _ _)
   | (with_reducible exact ih1 _ _ _ _ _ _ _ _ _ _)
   | (with_reducible exact ih2 _ _ _ _ _ _ _ _ _)
   | (with_reducible exact jitter_Gaps.mono _ _ _ _ _ _)
   | (with_reducible exact jitter_Pull.mono _ _ _ _ _ _)
   | (with_reducible exact jitter_Put.mono _ _ _ _ _ _ _)
   | (with_reducible exact LeO.refl _)
   | (with_reducible exact LeO.none _)
   | (with_reducible refine LeO.ite ?_ ?_)
   | (with_reducible refine LeO.bind ?_ (fun _ => ?_))
   | exact ih0 _ _ _ _ _ _ _ _ _ _
   | exact ih1 _ _ _ _ _ _ _ _ _ _
   | exact ih2 _ _ _ _ _ _ _ _ _
   | exact jitter_Gaps.mono _ _ _ _ _ _
   | exact jitter_Pull.mono _ _ _ _ _ _
   | exact jitter_Put.mono _ _ _ _ _ _ _
   | exact LeO.none _
   | refine LeO.ite ?_ ?_
   | refine LeO.bind ?_ (fun _ => ?_)
  ·intro y0 y1 y2 y3 y4 y5 y6 y7 y8 y9
   unfold squelchlaw13_JitterAll.l0
   repeat' first
   | (with_reducible exact ih0 _ _ _ _ _ _ _ _ _ _)
   | (with_reducible exact ih1 _ _ _ _ _ _ _ _ _ _)
   | (with_reducible exact ih2 _ _ _ _ _ _ _ _ _)
   | (with_reducible exact jitter_Gaps.mono _ _ _ _ _ _)
   | (with_reducible exact jitter_Pull.mono _ _ _ _ _ _)
   | (with_reducible exact jitter_Put.mono _ _ _ _ _ _ _)
   | (with_reducible exact LeO.refl _)
   | (with_reducible exact LeO.none _)
   | (with_reducible refine LeO.ite ?_ ?_)
   | (with_reducible refine LeO.bind ?_ (fun _ => ?_))
   | exact ih0 _ _ _ _ _ _ _ _ _ _
   | exact ih1 _ _ _ _ _ _ _ _ _ _
   | exact ih2 _ _ _ _ _ _ _ _ _
   | exact jitter_Gaps.mono _ _ _ _ _ _
   | exact jitter_Pull.mono _ _ _ _ _ _
   | exact jitter_Put.mono _ _ _ _ _ _ _
   | exact LeO.none _
   | refine LeO.ite ?_ ?_
   | refine LeO.bind ?_ (fun _ => ?_)
  ·intro y0 y1 y2 y3 y4 y5 y6 y7 y8
   unfold squelchlaw13_JitterAll.l1
   repeat' first
   | (with_reducible exact ih0 _ _ _ _ _ _ _ _ _ _)
   | (with_reducible exact ih1 _ _ _ _ _ _ _ _ _ _)
   | (with_reducible exact ih2 _ _ _ _ _ _ _ _ _)
   | (with_reducible exact jitter_Gaps.mono _ _ _ _ _ _)
   | (with_reducible exact jitter_Pull.mono _ _ _ _ _ _)
   | (with_reducible exact jitter_Put.mono _ _ _ _ _ _ _)
   | (with_reducible exact LeO.refl _)
   | (with_reducible exact LeO.none _)
   | (with_reducible refine LeO.ite ?_ ?_)
   | (with_reducible refine LeO.bind ?_ (fun _ => ?_))
   | exact ih0 _ _ _ _ _ _ _ _ _ _
   | exact ih1 _ _ _ _ _ _ _ _ _ _
   | exact ih2 _ _ _ _ _ _ _ _ _
   | exact jitter_Gaps.mono _ _ _ _ _ _
   | exact jitter_Pull.mono _ _ _ _ _ _
   | exact jitter_Put.mono _ _ _ _ _ _ _
   | exact LeO.none _
   | refine LeO.ite ?_ ?_
   | refine LeO.bind ?_ (fun _ => ?_)
theorem squelchlaw13_JitterAll.mono : ∀ a0 a1 a2 k, LeO (squelchlaw13_JitterAll.f k a0 a1 a2) (squelchlaw13_JitterAll.f (k + 1) a0 a1 a2) := by
 intro a0 a1 a2 k
 obtain ⟨ih0, ih1, ih2⟩ := squelchlaw13_JitterAll.mono_l k
 unfold squelchlaw13_JitterAll.f
 repeat' first
   | (with_reducible exact ih0 _ _ _ _ _ _ _ _ _ _)
   | (with_reducible exact ih1 _ _ _ _ _ _ _ _ _ _)
   | (with_reducible exact ih2 _ _ _ _ _ _ _ _ _)
   | (with_reducible exact jitter_Gaps.mono _ _ _ _ _ _)
   | (with_reducible exact jitter_Pull.mono _ _ _ _ _ _)
   | (with_reducible exact jitter_Put.mono _ _ _ _ _ _ _)
   | (with_reducible exact LeO.refl _)
   | (with_reducible exact LeO.none _)
   | (with_reducible refine LeO.ite ?_ ?_)
   | (with_reducible refine LeO.bind ?_ (fun _ => ?_))
   | exact ih0 _ _ _ _ _ _ _ _ _ _
   | exact ih1 _ _ _ _ _ _ _ _ _ _
   | exact ih2 _ _ _ _ _ _ _ _ _
   | exact jitter_Gaps.mono _ _ _ _ _ _
   | exact jitter_Pull.mono _ _ _ _ _ _
   | exact jitter_Put.mono _ _ _ _ _ _ _
   | exact LeO.none _
   | refine LeO.ite ?_ ?_
   | refine LeO.bind ?_ (fun _ => ?_)
set_option maxHeartbeats 8000000 in
set_option maxRecDepth 100000 in
theorem squelchlaw13_JitterAll.calls (k : Nat) (a0 : Int) (a1 : Int) (a2 : Int) (r : Bool) (w : World) (h : squelchlaw13_JitterAll.f k a0 a1 a2 = some r) (hr_ : r = true) :
  Calls Try.prog 4 #[.int .i64 a0, .int .i64 a1, .int .i64 a2] w fun e w' => e = .returned (.bool r) ∧ Below w.heap.size w w' := by
 have HR_ := Aside0.mk hr_
 clear hr_
 have hu26 := Try.underlying26
 have hu41 := Try.underlying41
 have HB := Aside0.mk (Below.refl w.heap.size w)
 have H : ((squelchlaw13_live.f).bind fun t213 => (if t213 = true then ((jitter_New.f (wrap64 (1 + (Int.tmod (wrap64 ((Int.tmod a0 16) + 16)) 16)))).bind fun bt214 => (if bt214.2.2.2.2.2 = 0 then (squelchlaw13_JitterAll.j0 k (Int.tmod (wrap64 ((Int.tmod a1 1099511627776) + 1099511627776)) 1099511627776) (wrap64 (16 + (Int.tmod (wrap64 ((Int.tmod a2 40) + 40)) 40))) t213 bt214.2.2.2.2.2 (decide ((Int.tmod (wrap64 ((Int.tmod a1 1099511627776) + 1099511627776)) 1099511627776) > 1099511627676)) bt214.1 bt214.2.1 bt214.2.2.1 bt214.2.2.2.1 bt214.2.2.2.2.1) else (squelchlaw13_JitterAll.j0 k (Int.tmod (wrap64 ((Int.tmod a1 1099511627776) + 1099511627776)) 1099511627776) (wrap64 (16 + (Int.tmod (wrap64 ((Int.tmod a2 40) + 40)) 40))) t213 bt214.2.2.2.2.2 true bt214.1 bt214.2.1 bt214.2.2.1 bt214.2.2.2.1 bt214.2.2.2.2.1))) else (some false))) = some r := h
 clear h
 replace H := Option.bind_eq_some_iff.mp H
 obtain ⟨t213, A40, H⟩ := H
 replace H : (if t213 = true then ((jitter_New.f (wrap64 (1 + (Int.tmod (wrap64 ((Int.tmod a0 16) + 16)) 16)))).bind fun bt214 => (if bt214.2.2.2.2.2 = 0 then (squelchlaw13_JitterAll.j0 k (Int.tmod (wrap64 ((Int.tmod a1 1099511627776) + 1099511627776)) 1099511627776) (wrap64 (16 + (Int.tmod (wrap64 ((Int.tmod a2 40) + 40)) 40))) t213 bt214.2.2.2.2.2 (decide ((Int.tmod (wrap64 ((Int.tmod a1 1099511627776) + 1099511627776)) 1099511627776) > 1099511627676)) bt214.1 bt214.2.1 bt214.2.2.1 bt214.2.2.2.1 bt214.2.2.2.2.1) else (squelchlaw13_JitterAll.j0 k (Int.tmod (wrap64 ((Int.tmod a1 1099511627776) + 1099511627776)) 1099511627776) (wrap64 (16 + (Int.tmod (wrap64 ((Int.tmod a2 40) + 40)) 40))) t213 bt214.2.2.2.2.2 true bt214.1 bt214.2.1 bt214.2.2.1 bt214.2.2.2.1 bt214.2.2.2.2.1))) else (some false)) = some r := H
 have A4 := Aside0.mk A40
 clear A40
 by_cases c5 : t213 = true
 ·subst c5
  have H1 : ((jitter_New.f (wrap64 (1 + (Int.tmod (wrap64 ((Int.tmod a0 16) + 16)) 16)))).bind fun bt214 => (if bt214.2.2.2.2.2 = 0 then (squelchlaw13_JitterAll.j0 k (Int.tmod (wrap64 ((Int.tmod a1 1099511627776) + 1099511627776)) 1099511627776) (wrap64 (16 + (Int.tmod (wrap64 ((Int.tmod a2 40) + 40)) 40))) true bt214.2.2.2.2.2 (decide ((Int.tmod (wrap64 ((Int.tmod a1 1099511627776) + 1099511627776)) 1099511627776) > 1099511627676)) bt214.1 bt214.2.1 bt214.2.2.1 bt214.2.2.2.1 bt214.2.2.2.2.1) else (squelchlaw13_JitterAll.j0 k (Int.tmod (wrap64 ((Int.tmod a1 1099511627776) + 1099511627776)) 1099511627776) (wrap64 (16 + (Int.tmod (wrap64 ((Int.tmod a2 40) + 40)) 40))) true bt214.2.2.2.2.2 true bt214.1 bt214.2.1 bt214.2.2.1 bt214.2.2.2.1 bt214.2.2.2.2.1))) = some r := by rw [if_pos rfl] at H; exact H
  clear H
  have H := H1
  clear H1
  replace H := Option.bind_eq_some_iff.mp H
  obtain ⟨⟨t214, t215, t216, t217, t218, t221⟩, A60, H⟩ := H
  replace H : (if t221 = 0 then (squelchlaw13_JitterAll.j0 k (Int.tmod (wrap64 ((Int.tmod a1 1099511627776) + 1099511627776)) 1099511627776) (wrap64 (16 + (Int.tmod (wrap64 ((Int.tmod a2 40) + 40)) 40))) true t221 (decide ((Int.tmod (wrap64 ((Int.tmod a1 1099511627776) + 1099511627776)) 1099511627776) > 1099511627676)) t214 t215 t216 t217 t218) else (squelchlaw13_JitterAll.j0 k (Int.tmod (wrap64 ((Int.tmod a1 1099511627776) + 1099511627776)) 1099511627776) (wrap64 (16 + (Int.tmod (wrap64 ((Int.tmod a2 40) + 40)) 40))) true t221 true t214 t215 t216 t217 t218)) = some r := H
  have A6 := Aside0.mk A60
  clear A60
  have HC7 := Aside0.mk H
  clear H
  go_enter Try.func4, Try.ntmps4
  go_upto_region 8 with (first | ((with_reducible refine gate_callee (f := 8) rfl ?_); refine goesL_ (some 23) rfl rfl Try.func8 (by kernel_rfl) rfl #[] rfl (by (try simp only [List.map_toArray, List.map_cons, List.map_nil]); first | done | rfl | (simp only [List.length_drop, List.length_take]; rfl)) ?_; (with_reducible refine (squelchlaw13_live.calls  true _ A4.out).mono ?_); rintro e w8 ⟨rfl, hb⟩; refine ⟨_, rfl, ?_⟩; have n0_ := Aside0.mk (below_step (by repeat (first | (with_reducible first | exact HB.out | apply below_alloc | apply pw_below_drewN | apply below_drew1) | exact HB.out)) hb); clear HB; have HB := n0_; clear n0_; (try clear hb); (try clear hb2); (try clear hk); (try clear hi)) | ((with_reducible refine gate_callee (f := 9) rfl ?_); refine goesL_ (some 42) rfl rfl Try.func9 (by kernel_rfl) rfl #[.int .i64 (wrap64 (1 + (Int.tmod (wrap64 ((Int.tmod a0 16) + 16)) 16)))] rfl (by (try simp only [List.map_toArray, List.map_cons, List.map_nil]); first | done | rfl | (simp only [List.length_drop, List.length_take]; rfl)) ?_; (with_reducible refine (jitter_New.calls (wrap64 (1 + (Int.tmod (wrap64 ((Int.tmod a0 16) + 16)) 16))) t214 t215 t216 t217 t218 t221 _ A6.out).mono ?_); rintro e w9 ⟨v219, rfl, ho0, hb⟩; refine ⟨_, rfl, ?_⟩; have n0_ := Aside0.mk (Kd.N_lower (Kd.N_mono (ok' := fun k_ => True) (Kd.S_N (Kd.S_bound ho0)) (fun k_ hk_ => trivial)) (below_size (by repeat (first | (with_reducible first | exact HB.out | apply below_alloc | apply pw_below_drewN | apply below_drew1) | exact HB.out)))); have n1_ := Aside0.mk (below_step (by repeat (first | (with_reducible first | exact HB.out | apply below_alloc | apply pw_below_drewN | apply below_drew1) | exact HB.out)) hb); clear HB; have HO220 := n0_; have HB := n1_; clear n0_ n1_; (try clear hb); (try clear hb2); (try clear hk); (try clear hi); (try clear ho0)) | ((with_reducible refine gate_dst (N := 8) rfl ?_); (try (refine gate_guard (by rfl) ?_; dsimp only)); refine box_event ?hg (N := 8) ?hd (cs := #[.bool false, .int .i64 0, .int .i64 0, .int .i64 0, .slice none 0 0]) (t := 26) ?hr ?_; (case hd => rfl); (case hg => rfl); (case hr => first | (go_simp; done) | (go_simp; rfl)); intro gb222 hg w10 hbox hb; have n0_ := Aside0.mk (Kd.N_below (Kd.N_elderB (by (with_reducible repeat (first | apply Kd.N_alloc | apply Kd.N_drewN | apply Kd.N_drew)); exact HO220.out) gb222 (Nat.le_of_eq hg.symm)) hb); have n1_ := Aside0.mk (below_step (by repeat (first | (with_reducible first | exact HB.out | apply below_alloc | apply pw_below_drewN | apply below_drew1) | exact HB.out)) hb); have n2_ := Aside0.mk (hbox); have n3_ := Aside0.mk ((by rw [hg]; exact (below_size (by repeat (first | (with_reducible first | exact HB.out | apply below_alloc | apply pw_below_drewN | apply below_drew1) | exact HB.out))) : w.heap.size ≤ gb222)); have n4_ := Aside0.mk ((by rw [hg]; exact (below_size (by repeat (first | (with_reducible first | exact HB.out | apply below_alloc | apply pw_below_drewN | apply below_drew1) | exact HB.out))) : w.heap.size ≤ gb222)); clear HO220; clear HB; have HO220 := n0_; have HB := n1_; have BK222 := n2_; have GW222 := n3_; have GE222 := n4_; clear n0_ n1_ n2_ n3_ n4_; clear hb hbox hg; have hcz11_0 : w10.cell? ⟨gb222, 0, none⟩ = some (.bool false) := (blk_cell BK222.out 0).trans rfl; have hcz11_1 : w10.cell? ⟨gb222, 1, none⟩ = some (.int .i64 0) := (blk_cell BK222.out 1).trans rfl; have hcz11_2 : w10.cell? ⟨gb222, 2, none⟩ = some (.int .i64 0) := (blk_cell BK222.out 2).trans rfl; have hcz11_3 : w10.cell? ⟨gb222, 3, none⟩ = some (.int .i64 0) := (blk_cell BK222.out 3).trans rfl; have hcz11_4 : w10.cell? ⟨gb222, 4, none⟩ = some (.slice none 0 0) := (blk_cell BK222.out 4).trans rfl; have hfz11_0 := blk_frozen BK222.out 0; have hfz11_1 := blk_frozen BK222.out 1; have hfz11_2 := blk_frozen BK222.out 2; have hfz11_3 := blk_frozen BK222.out 3; have hfz11_4 := blk_frozen BK222.out 4; obtain ⟨Ao12, co12, eo12⟩ := Kd.N_slice HO220.out; subst eo12))
  (try simp only [Act.put, List.setIfInBounds_toArray, List.set_cons_zero, List.set_cons_succ])
  go_cut [50] (fun v50 wc => ∃ (kq : Nat) (x50_6 : Bool), v50 = .bool x50_6 ∧ Aside0 (squelchlaw13_JitterAll.j0 kq (Int.tmod (wrap64 ((Int.tmod a1 1099511627776) + 1099511627776)) 1099511627776) (wrap64 (16 + (Int.tmod (wrap64 ((Int.tmod a2 40) + 40)) 40))) true t221 x50_6 t214 t215 t216 t217 t218 = some r) ∧ Aside0 (kq ≤ k) ∧ Aside0 (Kd.N k41 41 wc w.heap.size (fun k_ => k_ ≠ gb222) (.slice Ao12 t218.length co12) t218) ∧ Aside0 (wc.heap[gb222]? = some (.cells #[.bool t214, .int .i64 t215, .int .i64 t216, .int .i64 t217, (.slice Ao12 t218.length co12)] 26 (0, 0))) ∧ Aside0 (Below w.heap.size w wc))
  case first =>
   have H := HC7.out
   clear HC7
   by_cases c13 : t221 = 0
   ·rw [if_pos c13] at H
    have c13b0 : (t221 == 0) = true := beq_iff_eq.mpr c13
    have c13b1 : (t221 != 0) = false := bne_eq_false_iff_eq.mpr c13
    clear c13
    (first | rw [c13b0] | (simp only [i64_w, i32_w]; rw [c13b0]) | skip)
    have H' := Aside0.mk H
    clear H
    go_wp2
    go_meet
    case rel => exact ⟨_, (decide ((Int.tmod (wrap64 ((Int.tmod a1 1099511627776) + 1099511627776)) 1099511627776) > 1099511627676)), (by first | rfl | (simp; done) | (simp [*]; done)), H', ⟨by first | omega | exact Nat.le_refl _⟩, ⟨by (with_reducible repeat (first | apply Kd.N_alloc | apply Kd.N_drewN | apply Kd.N_drew)); exact Kd.N_mono (Kd.N_far (p := ⟨gb222, 4, none⟩) (Kd.N_far (p := ⟨gb222, 3, none⟩) (Kd.N_far (p := ⟨gb222, 2, none⟩) (Kd.N_far (p := ⟨gb222, 1, none⟩) (Kd.N_far (p := ⟨gb222, 0, none⟩) (Kd.N_mono HO220.out (fun k_ hk => (⟨hk, hk.2⟩ : _ ∧ k_ ≠ gb222))) (fun _ hk => hk.2) (.bool t214)) (fun _ hk => hk.2) (.int .i64 t215)) (fun _ hk => hk.2) (.int .i64 t216)) (fun _ hk => hk.2) (.int .i64 t217)) (fun _ hk => hk.2) (.slice Ao12 t218.length co12)) (fun _ hk => hk.1.2)⟩, ⟨by (with_reducible repeat (first | refine blk_drewN ?_ _ | refine blk_drew ?_ | refine blk_alloc ?_ _)); refine blk_put (cs := #[.bool t214, .int .i64 t215, .int .i64 t216, .int .i64 t217, .slice none 0 0]) ?_ 4 _ rfl; (with_reducible repeat (first | refine blk_drewN ?_ _ | refine blk_drew ?_ | refine blk_alloc ?_ _)); refine blk_put (cs := #[.bool t214, .int .i64 t215, .int .i64 t216, .int .i64 0, .slice none 0 0]) ?_ 3 _ rfl; (with_reducible repeat (first | refine blk_drewN ?_ _ | refine blk_drew ?_ | refine blk_alloc ?_ _)); refine blk_put (cs := #[.bool t214, .int .i64 t215, .int .i64 0, .int .i64 0, .slice none 0 0]) ?_ 2 _ rfl; (with_reducible repeat (first | refine blk_drewN ?_ _ | refine blk_drew ?_ | refine blk_alloc ?_ _)); refine blk_put (cs := #[.bool t214, .int .i64 0, .int .i64 0, .int .i64 0, .slice none 0 0]) ?_ 1 _ rfl; (with_reducible repeat (first | refine blk_drewN ?_ _ | refine blk_drew ?_ | refine blk_alloc ?_ _)); refine blk_put (cs := #[.bool false, .int .i64 0, .int .i64 0, .int .i64 0, .slice none 0 0]) ?_ 0 _ rfl; (with_reducible repeat (first | refine blk_drewN ?_ _ | refine blk_drew ?_ | refine blk_alloc ?_ _)); exact BK222.out⟩, ⟨by repeat (first | (with_reducible first | exact HB.out | apply below_alloc | apply pw_below_drewN | apply below_drew1 | refine below_set ?_ GE222.out) | exact HB.out)⟩⟩
   ·rw [if_neg c13] at H
    have c13b0 : (t221 == 0) = false := beq_eq_false_iff_ne.mpr c13
    have c13b1 : (t221 != 0) = true := bne_iff_ne.mpr c13
    (first | rw [c13b0] | (simp only [i64_w, i32_w]; rw [c13b0]) | skip)
    have H' := Aside0.mk H
    clear H
    go_wp2
    go_meet
    case rel => exact ⟨_, (true), (by first | rfl | (simp; done) | (simp [*]; done)), H', ⟨by first | omega | exact Nat.le_refl _⟩, ⟨by (with_reducible repeat (first | apply Kd.N_alloc | apply Kd.N_drewN | apply Kd.N_drew)); exact Kd.N_mono (Kd.N_far (p := ⟨gb222, 4, none⟩) (Kd.N_far (p := ⟨gb222, 3, none⟩) (Kd.N_far (p := ⟨gb222, 2, none⟩) (Kd.N_far (p := ⟨gb222, 1, none⟩) (Kd.N_far (p := ⟨gb222, 0, none⟩) (Kd.N_mono HO220.out (fun k_ hk => (⟨hk, hk.2⟩ : _ ∧ k_ ≠ gb222))) (fun _ hk => hk.2) (.bool t214)) (fun _ hk => hk.2) (.int .i64 t215)) (fun _ hk => hk.2) (.int .i64 t216)) (fun _ hk => hk.2) (.int .i64 t217)) (fun _ hk => hk.2) (.slice Ao12 t218.length co12)) (fun _ hk => hk.1.2)⟩, ⟨by (with_reducible repeat (first | refine blk_drewN ?_ _ | refine blk_drew ?_ | refine blk_alloc ?_ _)); refine blk_put (cs := #[.bool t214, .int .i64 t215, .int .i64 t216, .int .i64 t217, .slice none 0 0]) ?_ 4 _ rfl; (with_reducible repeat (first | refine blk_drewN ?_ _ | refine blk_drew ?_ | refine blk_alloc ?_ _)); refine blk_put (cs := #[.bool t214, .int .i64 t215, .int .i64 t216, .int .i64 0, .slice none 0 0]) ?_ 3 _ rfl; (with_reducible repeat (first | refine blk_drewN ?_ _ | refine blk_drew ?_ | refine blk_alloc ?_ _)); refine blk_put (cs := #[.bool t214, .int .i64 t215, .int .i64 0, .int .i64 0, .slice none 0 0]) ?_ 2 _ rfl; (with_reducible repeat (first | refine blk_drewN ?_ _ | refine blk_drew ?_ | refine blk_alloc ?_ _)); refine blk_put (cs := #[.bool t214, .int .i64 0, .int .i64 0, .int .i64 0, .slice none 0 0]) ?_ 1 _ rfl; (with_reducible repeat (first | refine blk_drewN ?_ _ | refine blk_drew ?_ | refine blk_alloc ?_ _)); refine blk_put (cs := #[.bool false, .int .i64 0, .int .i64 0, .int .i64 0, .slice none 0 0]) ?_ 0 _ rfl; (with_reducible repeat (first | refine blk_drewN ?_ _ | refine blk_drew ?_ | refine blk_alloc ?_ _)); exact BK222.out⟩, ⟨by repeat (first | (with_reducible first | exact HB.out | apply below_alloc | apply pw_below_drewN | apply below_drew1 | refine below_set ?_ GE222.out) | exact HB.out)⟩⟩
  case rest =>
   clear HC7
   try clear c1
   try clear p2
   try clear c4
   try clear c5
   try clear p6
   try clear c8
   try clear c9
   try clear c13
   try clear c13b0
   try clear c13b1
   try clear hcz11_0
   try clear hcz11_1
   try clear hcz11_2
   try clear hcz11_3
   try clear hcz11_4
   try clear hfz11_0
   try clear hfz11_1
   try clear hfz11_2
   try clear hfz11_3
   try clear hfz11_4
   obtain ⟨kq, x50_6, rfl, HA, HJ6, HO_223004, BK222, HB⟩ := hcut
   cases kq with
   | zero => exact absurd HA.out (by simp [squelchlaw13_JitterAll.j0])
   | succ kj6 =>
    have H := HA.out
    clear HA
    simp only [squelchlaw13_JitterAll.j0] at H
    by_cases c14 : x50_6 = true
    ·subst c14
     have H1 : (if true = true then (some (t221 == 0)) else (some false)) = some r := by rw [if_pos rfl] at H; exact H
     clear H
     have H := H1
     clear H1
     have H1 : (some (t221 == 0)) = some r := by first | (rw [if_pos rfl] at H; exact H) | (rw [if_pos trivial] at H; exact H)
     clear H
     have H := H1
     clear H1
     obtain rfl := Option.some.inj H
     go_wp2
     go_ret
     exact ⟨by first | rfl | (simp [errW_none, errW_some] <;> rfl) | (simp [*, errW_none, errW_some] <;> rfl) | (simp [wrap64]; done), by repeat (first | (with_reducible first | exact HB.out | apply below_alloc | apply pw_below_drewN | apply below_drew1 | refine below_set ?_ GE222.out) | exact HB.out)⟩
    ·replace c14 := Bool.eq_false_iff.mpr c14
     subst c14
     have H1 : (squelchlaw13_JitterAll.l0 kj6 (Int.tmod (wrap64 ((Int.tmod a1 1099511627776) + 1099511627776)) 1099511627776) (wrap64 (16 + (Int.tmod (wrap64 ((Int.tmod a2 40) + 40)) 40))) true (wrap64 (16 + (Int.tmod (wrap64 ((Int.tmod a2 40) + 40)) 40))) 0 t214 t215 t216 t217 t218) = some r := by rw [if_neg (show ¬ (false = true) by decide)] at H; exact H
     clear H
     have H := H1
     clear H1
     have H' := Aside0.mk H
     clear H
     go_wp2
     (try simp only [Act.put, List.setIfInBounds_toArray, List.set_cons_zero, List.set_cons_succ])
     go_loopg [57] kj6 (fun kq v57 w' => ∃ (x57_2 : Int) (x223000_2 : Bool) (x223001_2 : Int) (x223002_2 : Int) (x223003_2 : Int) (x223004_2 : List (S41)) (u223004 : Value), v57 = .int .i64 x57_2 ∧ Aside0 (squelchlaw13_JitterAll.l0 kq (Int.tmod (wrap64 ((Int.tmod a1 1099511627776) + 1099511627776)) 1099511627776) (wrap64 (16 + (Int.tmod (wrap64 ((Int.tmod a2 40) + 40)) 40))) true (wrap64 (16 + (Int.tmod (wrap64 ((Int.tmod a2 40) + 40)) 40))) x57_2 x223000_2 x223001_2 x223002_2 x223003_2 x223004_2 = some r) ∧ Aside0 (kq ≤ kj6) ∧ Aside0 (Kd.V k41 41 w' w.heap.size (fun k_ => k_ ≠ gb222) u223004 x223004_2) ∧ Aside0 (w'.heap[gb222]? = some (.cells #[.bool x223000_2, .int .i64 x223001_2, .int .i64 x223002_2, .int .i64 x223003_2, u223004] 26 (0, 0))) ∧ Aside0 (Below w.heap.size w w'))
     case atStart => exact ⟨(0), (t214), (t215), (t216), (t217), (t218), (.slice Ao12 t218.length co12), (by first | rfl | (simp; done) | (simp [*]; done)), H', ⟨Nat.le_refl _⟩, ⟨Kd.N_V (by (with_reducible repeat (first | apply Kd.N_alloc | apply Kd.N_drewN | apply Kd.N_drew)); exact HO_223004.out)⟩, ⟨by (with_reducible repeat (first | refine blk_drewN ?_ _ | refine blk_drew ?_ | refine blk_alloc ?_ _)); exact BK222.out⟩, ⟨by repeat (first | (with_reducible first | exact HB.out | apply below_alloc | apply pw_below_drewN | apply below_drew1 | refine below_set ?_ GE222.out) | exact HB.out)⟩⟩
     case round =>
      clear H'
      try clear c1
      try clear p2
      try clear c4
      try clear c5
      try clear p6
      try clear c8
      try clear c9
      try clear c13
      try clear c13b0
      try clear c13b1
      try clear c14
      try clear hcz11_0
      try clear hcz11_1
      try clear hcz11_2
      try clear hcz11_3
      try clear hcz11_4
      try clear hfz11_0
      try clear hfz11_1
      try clear hfz11_2
      try clear hfz11_3
      try clear hfz11_4
      try clear p2
      try clear p6
      obtain ⟨x57_2, x223000_2, x223001_2, x223002_2, x223003_2, x223004_2, u223004, rfl, HA, HK2, HO_223004, BK222, HB⟩ := hrel
      cases gk with
      | zero => exact absurd HA.out (by simp [squelchlaw13_JitterAll.l0])
      | succ k2 =>
       have H := HA.out
       clear HA
       simp only [squelchlaw13_JitterAll.l0] at H
       by_cases c15 : x57_2 < (wrap64 (16 + (Int.tmod (wrap64 ((Int.tmod a2 40) + 40)) 40)))
       ·rw [if_pos c15] at H
        have c15b0 : decide (x57_2 < (wrap64 (16 + (Int.tmod (wrap64 ((Int.tmod a2 40) + 40)) 40)))) = true := decide_eq_true c15
        clear c15
        obtain ⟨y223, hy223⟩ : ∃ y_ : List Int, y_ = (([(x57_2) % 256] : List Int)) := ⟨_, rfl⟩
        replace H : ((jitter_Put.f k2 x223000_2 x223001_2 x223002_2 x223003_2 x223004_2 (([(⟨wrap64 ((wrap64 ((wrap64 ((Int.tmod (wrap64 ((Int.tmod a1 1099511627776) + 1099511627776)) 1099511627776) + (wrap64 (16 + (Int.tmod (wrap64 ((Int.tmod a2 40) + 40)) 40))))) - 1)) - x57_2), y223⟩ : S41)] : List (S41)))).bind fun bt229 => (if bt229.2.2.2.2.2.2 = 0 then (if (bt229.2.2.2.2.2.1.length : Int) = 1 then (if 0 < (bt229.2.2.2.2.2.1.length : Int) then (if (rd bt229.2.2.2.2.2.1 0) = 0 then ((jitter_Gaps.f k2 bt229.1 bt229.2.1 bt229.2.2.1 bt229.2.2.2.1 bt229.2.2.2.2.1).bind fun t242 => (if (t242.length : Int) = 0 then (squelchlaw13_JitterAll.l0 k2 (Int.tmod (wrap64 ((Int.tmod a1 1099511627776) + 1099511627776)) 1099511627776) (wrap64 (16 + (Int.tmod (wrap64 ((Int.tmod a2 40) + 40)) 40))) true (wrap64 (16 + (Int.tmod (wrap64 ((Int.tmod a2 40) + 40)) 40))) (wrap64 (x57_2 + 1)) bt229.1 bt229.2.1 bt229.2.2.1 bt229.2.2.2.1 bt229.2.2.2.2.1) else (some false))) else (some false)) else (none)) else (some false)) else (some false))) = some r := by first | (rw [hy223]; with_reducible exact H) | (have H2_ := (Option.bind_some _ _).symm.trans H; rw [hy223]; with_reducible exact H2_) | (have H2_ := (Option.bind_some _ _).symm.trans H; with_reducible exact H2_) | with_reducible exact H | (rw [hy223]; exact H) | exact H
        have Ny223 := Aside0.mk hy223
        clear hy223
        obtain ⟨y226, hy226⟩ : ∃ y_ : List (S41), y_ = (([(⟨wrap64 ((wrap64 ((wrap64 ((Int.tmod (wrap64 ((Int.tmod a1 1099511627776) + 1099511627776)) 1099511627776) + (wrap64 (16 + (Int.tmod (wrap64 ((Int.tmod a2 40) + 40)) 40))))) - 1)) - x57_2), y223⟩ : S41)] : List (S41))) := ⟨_, rfl⟩
        replace H : ((jitter_Put.f k2 x223000_2 x223001_2 x223002_2 x223003_2 x223004_2 y226).bind fun bt229 => (if bt229.2.2.2.2.2.2 = 0 then (if (bt229.2.2.2.2.2.1.length : Int) = 1 then (if 0 < (bt229.2.2.2.2.2.1.length : Int) then (if (rd bt229.2.2.2.2.2.1 0) = 0 then ((jitter_Gaps.f k2 bt229.1 bt229.2.1 bt229.2.2.1 bt229.2.2.2.1 bt229.2.2.2.2.1).bind fun t242 => (if (t242.length : Int) = 0 then (squelchlaw13_JitterAll.l0 k2 (Int.tmod (wrap64 ((Int.tmod a1 1099511627776) + 1099511627776)) 1099511627776) (wrap64 (16 + (Int.tmod (wrap64 ((Int.tmod a2 40) + 40)) 40))) true (wrap64 (16 + (Int.tmod (wrap64 ((Int.tmod a2 40) + 40)) 40))) (wrap64 (x57_2 + 1)) bt229.1 bt229.2.1 bt229.2.2.1 bt229.2.2.2.1 bt229.2.2.2.2.1) else (some false))) else (some false)) else (none)) else (some false)) else (some false))) = some r := by first | (rw [hy226]; with_reducible exact H) | (have H2_ := (Option.bind_some _ _).symm.trans H; rw [hy226]; with_reducible exact H2_) | (have H2_ := (Option.bind_some _ _).symm.trans H; with_reducible exact H2_) | with_reducible exact H | (rw [hy226]; exact H) | exact H
        have Ny226 := Aside0.mk hy226
        clear hy226
        replace H := Option.bind_eq_some_iff.mp H
        obtain ⟨⟨t229, t230, t231, t232, t233, t236, t239⟩, A160, H⟩ := H
        replace H : (if t239 = 0 then (if (t236.length : Int) = 1 then (if 0 < (t236.length : Int) then (if (rd t236 0) = 0 then ((jitter_Gaps.f k2 t229 t230 t231 t232 t233).bind fun t242 => (if (t242.length : Int) = 0 then (squelchlaw13_JitterAll.l0 k2 (Int.tmod (wrap64 ((Int.tmod a1 1099511627776) + 1099511627776)) 1099511627776) (wrap64 (16 + (Int.tmod (wrap64 ((Int.tmod a2 40) + 40)) 40))) true (wrap64 (16 + (Int.tmod (wrap64 ((Int.tmod a2 40) + 40)) 40))) (wrap64 (x57_2 + 1)) t229 t230 t231 t232 t233) else (some false))) else (some false)) else (none)) else (some false)) else (some false)) = some r := H
        have A16 := Aside0.mk A160
        clear A160
        by_cases c17 : t239 = 0
        ·rw [if_pos c17] at H
         have c17b0 : (t239 == 0) = true := beq_iff_eq.mpr c17
         have c17b1 : (t239 != 0) = false := bne_eq_false_iff_eq.mpr c17
         clear c17
         by_cases c18 : (t236.length : Int) = 1
         ·rw [if_pos c18] at H
          have c18b0 : ((t236.length : Int) == 1) = true := beq_iff_eq.mpr c18
          have c18b1 : ((t236.length : Int) != 1) = false := bne_eq_false_iff_eq.mpr c18
          clear c18
          by_cases c19 : 0 < (t236.length : Int)
          ·rw [if_pos c19] at H
           have c19b0 : decide (0 < (t236.length : Int)) = true := decide_eq_true c19
           have c19b1 : decide (0 < t236.length) = true := decide_eq_true (by omega)
           clear c19
           by_cases c20 : (rd t236 0) = 0
           ·rw [if_pos c20] at H
            have c20b0 : ((rd t236 0) == 0) = true := beq_iff_eq.mpr c20
            have c20b1 : ((rd t236 0) != 0) = false := bne_eq_false_iff_eq.mpr c20
            clear c20
            replace H := Option.bind_eq_some_iff.mp H
            obtain ⟨t242, A210, H⟩ := H
            replace H : (if (t242.length : Int) = 0 then (squelchlaw13_JitterAll.l0 k2 (Int.tmod (wrap64 ((Int.tmod a1 1099511627776) + 1099511627776)) 1099511627776) (wrap64 (16 + (Int.tmod (wrap64 ((Int.tmod a2 40) + 40)) 40))) true (wrap64 (16 + (Int.tmod (wrap64 ((Int.tmod a2 40) + 40)) 40))) (wrap64 (x57_2 + 1)) t229 t230 t231 t232 t233) else (some false)) = some r := H
            have A21 := Aside0.mk A210
            clear A210
            by_cases c22 : (t242.length : Int) = 0
            ·rw [if_pos c22] at H
             have c22b0 : ((t242.length : Int) == 0) = true := beq_iff_eq.mpr c22
             have c22b1 : ((t242.length : Int) != 0) = false := bne_eq_false_iff_eq.mpr c22
             clear c22
             have H' := Aside0.mk H
             clear H
             have hcz23_0 : wr.cell? ⟨gb222, 0, none⟩ = some (.bool x223000_2) := (blk_cell BK222.out 0).trans rfl
             have hcz23_1 : wr.cell? ⟨gb222, 1, none⟩ = some (.int .i64 x223001_2) := (blk_cell BK222.out 1).trans rfl
             have hcz23_2 : wr.cell? ⟨gb222, 2, none⟩ = some (.int .i64 x223002_2) := (blk_cell BK222.out 2).trans rfl
             have hcz23_3 : wr.cell? ⟨gb222, 3, none⟩ = some (.int .i64 x223003_2) := (blk_cell BK222.out 3).trans rfl
             have hcz23_4 : wr.cell? ⟨gb222, 4, none⟩ = some (u223004) := (blk_cell BK222.out 4).trans rfl
             have hfz23_0 := blk_frozen BK222.out 0
             have hfz23_1 := blk_frozen BK222.out 1
             have hfz23_2 := blk_frozen BK222.out 2
             have hfz23_3 := blk_frozen BK222.out 3
             have hfz23_4 := blk_frozen BK222.out 4
             go_wp2_with (first | ((with_reducible refine gate_dst (N := 70) rfl ?_); (try (refine gate_guard (by rfl) ?_; dsimp only)); refine Kd.R_lit (Kd.int .u8) _ 5 ?hg (N := 70) ?hd (xs := ([(x57_2) % 256] : List Int)) (inner := [.int .u8 ((x57_2) % 256)]) (ok := fun _ => True) (okp := fun _ => True) ?hr ?hp (fun _ hk => hk) trivial (Below.refl _ _) (Nat.le_refl _) (by simp) ?_; (case hd => rfl); (case hg => rfl); (case hr => first | (go_simp; done) | (go_simp; rfl)); (case hp => exact (Reps.one (show Kd.M (Kd.int .u8) _ _ _ ((x57_2) % 256) [.int .u8 ((x57_2) % 256)] from rfl) (Reps.none _ _))); intro v224 w24 ho25 hb hg_ hnew_; clear hg_ hnew_; (first | rw [← Ny223.out] at ho25 | (simp only [Int.reduceToNat] at ho25; rw [← Ny223.out] at ho25)); have n0_ := Aside0.mk (Kd.V_elder' (by (with_reducible repeat (first | apply Kd.V_alloc | apply Kd.V_drewN | apply Kd.V_drew)); exact HO_223004.out) (Kd.R_base ho25) hb); have n1_ := Aside0.mk (Kd.R_lower ho25 (below_size (by repeat (first | (with_reducible first | exact HB.out | apply below_alloc | apply pw_below_drewN | apply below_drew1 | refine below_set ?_ GE222.out) | exact HB.out)))); have n2_ := Aside0.mk (blk_below (g := gb222) (o := .cells #[.bool x223000_2, .int .i64 x223001_2, .int .i64 x223002_2, .int .i64 x223003_2, u223004] 26 (0, 0)) (by (with_reducible repeat (first | refine blk_drewN ?_ _ | refine blk_drew ?_ | refine blk_alloc ?_ _)); exact BK222.out) hb); have n3_ := Aside0.mk (below_step (by repeat (first | (with_reducible first | exact HB.out | apply below_alloc | apply pw_below_drewN | apply below_drew1 | refine below_set ?_ GE222.out) | exact HB.out)) hb); clear HO_223004; clear BK222; clear HB; have HO_223004 := n0_; have HO225 := n1_; have BK222 := n2_; have HB := n3_; clear n0_ n1_ n2_ n3_; clear hb ho25; obtain ⟨Ao26, co26, eo26⟩ := Kd.R_slice HO225.out; subst eo26) | ((with_reducible refine gate_dst (N := 72) rfl ?_); (try (refine gate_guard (by rfl) ?_; dsimp only)); refine Kd.N_lit k41 _ 41 ?hg (N' := 72) ?hd (xs := ([(⟨wrap64 ((wrap64 ((wrap64 ((Int.tmod (wrap64 ((Int.tmod a1 1099511627776) + 1099511627776)) 1099511627776) + (wrap64 (16 + (Int.tmod (wrap64 ((Int.tmod a2 40) + 40)) 40))))) - 1)) - x57_2), y223⟩ : S41)] : List (S41))) (inner := [.int .i64 (wrap64 ((wrap64 ((wrap64 ((Int.tmod (wrap64 ((Int.tmod a1 1099511627776) + 1099511627776)) 1099511627776) + (wrap64 (16 + (Int.tmod (wrap64 ((Int.tmod a2 40) + 40)) 40))))) - 1)) - x57_2)), .slice Ao26 y223.length co26]) (ok := (fun k_ => k_ ≠ gb222)) (okp := (fun k_ => k_ ≠ gb222)) ?hr ?hp (fun _ hk => hk) ((show ∀ k_, w24.heap.size ≤ k_ → (fun k_ => k_ ≠ gb222) k_ from fun k_ hk => Kd.freshB (g := gb222) (o := .cells #[.bool x223000_2, .int .i64 x223001_2, .int .i64 x223002_2, .int .i64 x223003_2, u223004] 26 (0, 0)) (by (with_reducible repeat (first | refine blk_drewN ?_ _ | refine blk_drew ?_ | refine blk_alloc ?_ _)); exact BK222.out) k_ hk) _ (Nat.le_refl _)) (Below.refl _ _) (Nat.le_refl _) (by simp) ?_; (case hd => rfl); (case hg => rfl); (case hr => first | (go_simp; done) | (go_simp; rfl)); (case hp => exact (Reps.c2 (show Kd.FK k41 _ _ (⟨wrap64 ((wrap64 ((wrap64 ((Int.tmod (wrap64 ((Int.tmod a1 1099511627776) + 1099511627776)) 1099511627776) + (wrap64 (16 + (Int.tmod (wrap64 ((Int.tmod a2 40) + 40)) 40))))) - 1)) - x57_2), y223⟩ : S41) [.int .i64 (wrap64 ((wrap64 ((wrap64 ((Int.tmod (wrap64 ((Int.tmod a1 1099511627776) + 1099511627776)) 1099511627776) + (wrap64 (16 + (Int.tmod (wrap64 ((Int.tmod a2 40) + 40)) 40))))) - 1)) - x57_2)), .slice Ao26 y223.length co26] from (k41_mkF _ _ (⟨wrap64 ((wrap64 ((wrap64 ((Int.tmod (wrap64 ((Int.tmod a1 1099511627776) + 1099511627776)) 1099511627776) + (wrap64 (16 + (Int.tmod (wrap64 ((Int.tmod a2 40) + 40)) 40))))) - 1)) - x57_2), y223⟩ : S41) (Kd.R_reads' (Kd.R_mono (ok' := (fun k_ => k_ ≠ gb222)) (Kd.R_types (HO225.out) BK222.out (by decide)) (fun k_ hk => hk.2))).2.1 (Kd.R_F (Kd.R_mono (ok' := (fun k_ => k_ ≠ gb222)) (Kd.R_types (HO225.out) BK222.out (by decide)) (fun k_ hk => hk.2))))) (Reps.none _ _))); intro v227 w27 ho28 hb hg_ hnew_; clear hg_ hnew_; (first | rw [← Ny226.out] at ho28 | (simp only [Int.reduceToNat] at ho28; rw [← Ny226.out] at ho28)); have n0_ := Aside0.mk (Kd.V_elder' (by (with_reducible repeat (first | apply Kd.V_alloc | apply Kd.V_drewN | apply Kd.V_drew)); exact HO_223004.out) (by first | exact Kd.N_base ho28 | exact Kd.S_base ho28) hb); have n1_ := Aside0.mk (Kd.N_lower ho28 (below_size (by repeat (first | (with_reducible first | exact HB.out | apply below_alloc | apply pw_below_drewN | apply below_drew1 | refine below_set ?_ GE222.out) | exact HB.out)))); have n2_ := Aside0.mk (blk_below (g := gb222) (o := .cells #[.bool x223000_2, .int .i64 x223001_2, .int .i64 x223002_2, .int .i64 x223003_2, u223004] 26 (0, 0)) (by (with_reducible repeat (first | refine blk_drewN ?_ _ | refine blk_drew ?_ | refine blk_alloc ?_ _)); exact BK222.out) hb); have n3_ := Aside0.mk (below_step (by repeat (first | (with_reducible first | exact HB.out | apply below_alloc | apply pw_below_drewN | apply below_drew1 | refine below_set ?_ GE222.out) | exact HB.out)) hb); clear HO_223004; clear BK222; clear HB; clear HO225; have HO_223004 := n0_; have HO228 := n1_; have BK222 := n2_; have HB := n3_; clear n0_ n1_ n2_ n3_; clear hb ho28; obtain ⟨Ao29, co29, eo29⟩ := Kd.V_slice HO_223004.out; subst eo29; obtain ⟨Ao30, co30, eo30⟩ := Kd.N_slice HO228.out; subst eo30) | ((with_reducible refine gate_callee (f := 11) rfl ?_); refine goesL_ (some 73) rfl rfl Try.func11 (by kernel_rfl) rfl #[.agg #[.bool x223000_2, .int .i64 x223001_2, .int .i64 x223002_2, .int .i64 x223003_2, .slice Ao29 x223004_2.length co29], .slice Ao30 y226.length co30] rfl (by (try simp only [List.map_toArray, List.map_cons, List.map_nil]); first | done | rfl | (simp only [List.length_drop, List.length_take]; rfl)) ?_; (with_reducible refine (jitter_Put.calls k2 x223000_2 x223001_2 x223002_2 x223003_2 _ _ x223004_2 _ _ y226 t229 t230 t231 t232 t233 t236 t239 _ ?side1 ?side2 ?side3 ?side4 A16.out).mono ?_); (case side1 => repeat (first | exact (Kd.V_reads' HO_223004.out).2.2 | (with_reducible refine Kd.C_alloc ?_ _) | (with_reducible refine Kd.C_drewN ?_ _) | (with_reducible refine Kd.C_drew ?_))); (case side2 => exact (Kd.V_reads' HO_223004.out).2.1); (case side3 => repeat (first | exact (Kd.N_reads' HO228.out).2.2 | (with_reducible refine Kd.C_alloc ?_ _) | (with_reducible refine Kd.C_drewN ?_ _) | (with_reducible refine Kd.C_drew ?_))); (case side4 => exact (Kd.N_reads' HO228.out).2.1); rintro e w31 ⟨v234, v237, rfl, ho0, ho1, hb⟩; refine ⟨_, rfl, ?_⟩; have n0_ := Aside0.mk (Kd.V_mono (Kd.V_told (Kd.V_told (Kd.V_old (by (with_reducible repeat (first | apply Kd.V_alloc | apply Kd.V_drewN | apply Kd.V_drew)); exact HO_223004.out) hb) (by first | exact Kd.N_base ho0 | exact Kd.S_base ho0)) (Kd.R_base ho1)) (fun _ h_ => h_.1)); have n1_ := Aside0.mk (Kd.N_mono (Kd.N_told (Kd.N_told (Kd.N_old (by (with_reducible repeat (first | apply Kd.N_alloc | apply Kd.N_drewN | apply Kd.N_drew)); exact HO228.out) hb) (by first | exact Kd.N_base ho0 | exact Kd.S_base ho0)) (Kd.R_base ho1)) (fun _ h_ => h_.1)); have n2_ := Aside0.mk (Kd.N_lower (Kd.N_mono (ok' := fun k_ => some k_ ≠ (v237 : Value).ownBlock ∧ some k_ ≠ (.slice Ao30 y226.length co30 : Value).ownBlock ∧ k_ ≠ gb222) (Kd.S_N (Kd.S_bound (Kd.S_apart' ho0 (Kd.R_typed ho1) (by decide)))) (fun k_ hk_ => ⟨hk_.1.2, (Kd.fresh' (Kd.N_lt (by (with_reducible repeat (first | apply Kd.N_alloc | apply Kd.N_drewN | apply Kd.N_drew)); exact HO228.out)) k_ hk_.2.1), (Kd.freshB (g := gb222) (o := .cells #[.bool x223000_2, .int .i64 x223001_2, .int .i64 x223002_2, .int .i64 x223003_2, .slice Ao29 x223004_2.length co29] 26 (0, 0)) (by (with_reducible repeat (first | refine blk_drewN ?_ _ | refine blk_drew ?_ | refine blk_alloc ?_ _)); exact BK222.out) k_ hk_.2.1)⟩)) (below_size (by repeat (first | (with_reducible first | exact HB.out | apply below_alloc | apply pw_below_drewN | apply below_drew1 | refine below_set ?_ GE222.out) | exact HB.out)))); have n3_ := Aside0.mk (Kd.R_lower ho1 (below_size (by repeat (first | (with_reducible first | exact HB.out | apply below_alloc | apply pw_below_drewN | apply below_drew1 | refine below_set ?_ GE222.out) | exact HB.out)))); have n4_ := Aside0.mk (blk_below (g := gb222) (o := .cells #[.bool x223000_2, .int .i64 x223001_2, .int .i64 x223002_2, .int .i64 x223003_2, .slice Ao29 x223004_2.length co29] 26 (0, 0)) (by (with_reducible repeat (first | refine blk_drewN ?_ _ | refine blk_drew ?_ | refine blk_alloc ?_ _)); exact BK222.out) hb); have n5_ := Aside0.mk (below_step (by repeat (first | (with_reducible first | exact HB.out | apply below_alloc | apply pw_below_drewN | apply below_drew1 | refine below_set ?_ GE222.out) | exact HB.out)) hb); clear HO_223004; clear HO228; clear BK222; clear HB; have HO_223004 := n0_; have HO228 := n1_; have HO235 := n2_; have HO238 := n3_; have BK222 := n4_; have HB := n5_; clear n0_ n1_ n2_ n3_ n4_ n5_; (try clear hb); (try clear hb2); (try clear hk); (try clear hi); (try clear ho0); (try clear ho1)) | ((with_reducible refine gate_dst (N := 11) rfl ?_); (try (refine gate_guard (by rfl) ?_; dsimp only)); refine box_event ?hg (N := 11) ?hd (cs := #[.bool false, .int .i64 0, .int .i64 0, .int .i64 0, .slice none 0 0]) (t := 26) ?hr ?_; (case hd => rfl); (case hg => rfl); (case hr => first | (go_simp; done) | (go_simp; rfl)); intro gb240 hg w32 hbox hb; have n0_ := Aside0.mk (Kd.V_below (Kd.V_elderB (by (with_reducible repeat (first | apply Kd.V_alloc | apply Kd.V_drewN | apply Kd.V_drew)); exact HO_223004.out) gb240 (Nat.le_of_eq hg.symm)) hb); have n1_ := Aside0.mk (Kd.N_below (Kd.N_elderB (by (with_reducible repeat (first | apply Kd.N_alloc | apply Kd.N_drewN | apply Kd.N_drew)); exact HO228.out) gb240 (Nat.le_of_eq hg.symm)) hb); have n2_ := Aside0.mk (Kd.N_below (Kd.N_elderB (by (with_reducible repeat (first | apply Kd.N_alloc | apply Kd.N_drewN | apply Kd.N_drew)); exact HO235.out) gb240 (Nat.le_of_eq hg.symm)) hb); have n3_ := Aside0.mk (Kd.R_below (by (with_reducible repeat (first | apply Kd.R_alloc | apply Kd.R_drewN | apply Kd.R_drew)); exact HO238.out) hb); have n4_ := Aside0.mk (blk_below (g := gb222) (o := .cells #[.bool x223000_2, .int .i64 x223001_2, .int .i64 x223002_2, .int .i64 x223003_2, .slice Ao29 x223004_2.length co29] 26 (0, 0)) (by (with_reducible repeat (first | refine blk_drewN ?_ _ | refine blk_drew ?_ | refine blk_alloc ?_ _)); exact BK222.out) hb); have n5_ := Aside0.mk (below_step (by repeat (first | (with_reducible first | exact HB.out | apply below_alloc | apply pw_below_drewN | apply below_drew1 | refine below_set ?_ GE222.out) | exact HB.out)) hb); have n6_ := Aside0.mk (hbox); have n7_ := Aside0.mk ((by rw [hg]; exact (below_size (by repeat (first | (with_reducible first | exact HB.out | apply below_alloc | apply pw_below_drewN | apply below_drew1 | refine below_set ?_ GE222.out) | exact HB.out))) : w.heap.size ≤ gb240)); have n8_ := Aside0.mk ((by rw [hg]; exact (below_size (by repeat (first | (with_reducible first | exact HB.out | apply below_alloc | apply pw_below_drewN | apply below_drew1 | refine below_set ?_ GE222.out) | exact HB.out))) : w.heap.size ≤ gb240)); have n9_ := Aside0.mk ((by rw [hg]; exact Nat.ne_of_lt (blk_lt (g := gb222) (o := .cells #[.bool x223000_2, .int .i64 x223001_2, .int .i64 x223002_2, .int .i64 x223003_2, .slice Ao29 x223004_2.length co29] 26 (0, 0)) (by (with_reducible repeat (first | refine blk_drewN ?_ _ | refine blk_drew ?_ | refine blk_alloc ?_ _)); exact BK222.out)) : gb222 ≠ gb240)); have n10_ := Aside0.mk ((by rw [hg]; exact Nat.ne_of_gt (blk_lt (g := gb222) (o := .cells #[.bool x223000_2, .int .i64 x223001_2, .int .i64 x223002_2, .int .i64 x223003_2, .slice Ao29 x223004_2.length co29] 26 (0, 0)) (by (with_reducible repeat (first | refine blk_drewN ?_ _ | refine blk_drew ?_ | refine blk_alloc ?_ _)); exact BK222.out)) : gb240 ≠ gb222)); clear HO_223004; clear HO228; clear HO235; clear HO238; clear BK222; clear HB; have HO_223004 := n0_; have HO228 := n1_; have HO235 := n2_; have HO238 := n3_; have BK222 := n4_; have HB := n5_; have BK240 := n6_; have GW240 := n7_; have GE240 := n8_; have NB222_240 := n9_; have NB240_222 := n10_; clear n0_ n1_ n2_ n3_ n4_ n5_ n6_ n7_ n8_ n9_ n10_; clear hb hbox hg; have hnb33 := NB240_222.out; have hnc33 := NB222_240.out; have hcz34_0 : w32.cell? ⟨gb240, 0, none⟩ = some (.bool false) := (blk_cell BK240.out 0).trans rfl; have hcz34_1 : w32.cell? ⟨gb240, 1, none⟩ = some (.int .i64 0) := (blk_cell BK240.out 1).trans rfl; have hcz34_2 : w32.cell? ⟨gb240, 2, none⟩ = some (.int .i64 0) := (blk_cell BK240.out 2).trans rfl; have hcz34_3 : w32.cell? ⟨gb240, 3, none⟩ = some (.int .i64 0) := (blk_cell BK240.out 3).trans rfl; have hcz34_4 : w32.cell? ⟨gb240, 4, none⟩ = some (.slice none 0 0) := (blk_cell BK240.out 4).trans rfl; have hfz34_0 := blk_frozen BK240.out 0; have hfz34_1 := blk_frozen BK240.out 1; have hfz34_2 := blk_frozen BK240.out 2; have hfz34_3 := blk_frozen BK240.out 3; have hfz34_4 := blk_frozen BK240.out 4; obtain ⟨Ao35, co35, eo35⟩ := Kd.N_slice HO235.out; subst eo35; obtain ⟨Ao36, co36, eo36⟩ := Kd.R_slice HO238.out; subst eo36; have p241 : 0 ≤ (0 : Int) := (by omega); have q241 : 0 < (t236.length : Int) := of_decide_eq_true (by first | (with_reducible assumption) | assumption); obtain ⟨ad241, e241, hx241_0⟩ := Kd.at_int (Kd.R_reads' HO238.out).2.2 0 p241 q241; cases e241; have qi241 : (0 < t236.length) = True := eq_true (by omega); (try rw [show ((0 : Int)).toNat = 0 from rfl] at hx241_0); (try rw [Addr.add_zero'] at hx241_0); have hn241_0 : ad241.block ≠ gb240 := Kd.own_blk (Kd.R_ne HO238.out BK240.out (by decide)); have hn241_1 : ad241.block ≠ gb240 := Kd.own_blk (Kd.R_ne HO238.out BK240.out (by decide)); have hn241_2 : ad241.block ≠ gb240 := Kd.own_blk (Kd.R_ne HO238.out BK240.out (by decide)); have hn241_3 : ad241.block ≠ gb240 := Kd.own_blk (Kd.R_ne HO238.out BK240.out (by decide)); have hn241_4 : ad241.block ≠ gb240 := Kd.own_blk (Kd.R_ne HO238.out BK240.out (by decide)); replace hx241_0 := (cell_far (p := ⟨gb240, 0, none⟩) (by first | (rw [add_block]; exact hn241_0) | (show (Addr.add _ _).block ≠ _; rw [add_block]; exact hn241_0) | exact hn241_0) (.bool t229)).trans hx241_0; replace hx241_0 := (cell_far (p := ⟨gb240, 1, none⟩) (by first | (rw [add_block]; exact hn241_1) | (show (Addr.add _ _).block ≠ _; rw [add_block]; exact hn241_1) | exact hn241_1) (.int .i64 t230)).trans hx241_0; replace hx241_0 := (cell_far (p := ⟨gb240, 2, none⟩) (by first | (rw [add_block]; exact hn241_2) | (show (Addr.add _ _).block ≠ _; rw [add_block]; exact hn241_2) | exact hn241_2) (.int .i64 t231)).trans hx241_0; replace hx241_0 := (cell_far (p := ⟨gb240, 3, none⟩) (by first | (rw [add_block]; exact hn241_3) | (show (Addr.add _ _).block ≠ _; rw [add_block]; exact hn241_3) | exact hn241_3) (.int .i64 t232)).trans hx241_0; replace hx241_0 := (cell_far (p := ⟨gb240, 4, none⟩) (by first | (rw [add_block]; exact hn241_4) | (show (Addr.add _ _).block ≠ _; rw [add_block]; exact hn241_4) | exact hn241_4) (.slice Ao35 t233.length co35)).trans hx241_0; clear hn241_0; clear hn241_1; clear hn241_2; clear hn241_3; clear hn241_4; replace p241 := eq_true p241; replace q241 := eq_true q241) | (go_at_call 15; (with_reducible refine (jitter_Gaps.calls k2 t229 t230 t231 t232 _ _ t233 t242 _ ?side1 ?side2 A21.out).mono ?_); (case side1 => refine (Kd.N_reads' (e := 41) (base := w.heap.size) (ok := fun k_ => ((some k_ ≠ (.slice (some ad241) t236.length co36 : Value).ownBlock ∧ (some k_ ≠ (.slice Ao30 y226.length co30 : Value).ownBlock ∧ k_ ≠ gb222)) ∧ k_ ≠ gb240)) (n := t233.length) (c := co35) ?_).2.2; exact (by (with_reducible repeat (first | apply Kd.N_alloc | apply Kd.N_drewN | apply Kd.N_drew)); exact (Kd.N_mono (Kd.N_far (p := ⟨gb240, 4, none⟩) (Kd.N_far (p := ⟨gb240, 3, none⟩) (Kd.N_far (p := ⟨gb240, 2, none⟩) (Kd.N_far (p := ⟨gb240, 1, none⟩) (Kd.N_far (p := ⟨gb240, 0, none⟩) (Kd.N_mono HO235.out (fun k_ hk => (⟨hk, hk.2⟩ : _ ∧ k_ ≠ gb240))) (fun _ hk => hk.2) (.bool t229)) (fun _ hk => hk.2) (.int .i64 t230)) (fun _ hk => hk.2) (.int .i64 t231)) (fun _ hk => hk.2) (.int .i64 t232)) (fun _ hk => hk.2) (.slice Ao35 t233.length co35)) (fun _ h_ => h_.1)))); (case side2 => exact (Kd.N_reads' HO235.out).2.1); rintro e w37 ⟨v243, rfl, ho0, hb⟩; have n0_ := Aside0.mk (Kd.V_elder' (by (with_reducible repeat (first | apply Kd.V_alloc | apply Kd.V_drewN | apply Kd.V_drew)); exact (Kd.V_mono (Kd.V_far (p := ⟨gb240, 4, none⟩) (Kd.V_far (p := ⟨gb240, 3, none⟩) (Kd.V_far (p := ⟨gb240, 2, none⟩) (Kd.V_far (p := ⟨gb240, 1, none⟩) (Kd.V_far (p := ⟨gb240, 0, none⟩) (Kd.V_mono HO_223004.out (fun k_ hk => (⟨hk, hk.2⟩ : _ ∧ k_ ≠ gb240))) (fun _ hk => hk.2) (.bool t229)) (fun _ hk => hk.2) (.int .i64 t230)) (fun _ hk => hk.2) (.int .i64 t231)) (fun _ hk => hk.2) (.int .i64 t232)) (fun _ hk => hk.2) (.slice Ao35 t233.length co35)) (fun _ h_ => h_.1))) (Kd.R_base ho0) hb); have n1_ := Aside0.mk (Kd.N_elder' (by (with_reducible repeat (first | apply Kd.N_alloc | apply Kd.N_drewN | apply Kd.N_drew)); exact (Kd.N_mono (Kd.N_far (p := ⟨gb240, 4, none⟩) (Kd.N_far (p := ⟨gb240, 3, none⟩) (Kd.N_far (p := ⟨gb240, 2, none⟩) (Kd.N_far (p := ⟨gb240, 1, none⟩) (Kd.N_far (p := ⟨gb240, 0, none⟩) (Kd.N_mono HO228.out (fun k_ hk => (⟨hk, hk.2⟩ : _ ∧ k_ ≠ gb240))) (fun _ hk => hk.2) (.bool t229)) (fun _ hk => hk.2) (.int .i64 t230)) (fun _ hk => hk.2) (.int .i64 t231)) (fun _ hk => hk.2) (.int .i64 t232)) (fun _ hk => hk.2) (.slice Ao35 t233.length co35)) (fun _ h_ => h_.1))) (Kd.R_base ho0) hb); have n2_ := Aside0.mk (Kd.N_elder' (by (with_reducible repeat (first | apply Kd.N_alloc | apply Kd.N_drewN | apply Kd.N_drew)); exact (Kd.N_mono (Kd.N_far (p := ⟨gb240, 4, none⟩) (Kd.N_far (p := ⟨gb240, 3, none⟩) (Kd.N_far (p := ⟨gb240, 2, none⟩) (Kd.N_far (p := ⟨gb240, 1, none⟩) (Kd.N_far (p := ⟨gb240, 0, none⟩) (Kd.N_mono HO235.out (fun k_ hk => (⟨hk, hk.2⟩ : _ ∧ k_ ≠ gb240))) (fun _ hk => hk.2) (.bool t229)) (fun _ hk => hk.2) (.int .i64 t230)) (fun _ hk => hk.2) (.int .i64 t231)) (fun _ hk => hk.2) (.int .i64 t232)) (fun _ hk => hk.2) (.slice Ao35 t233.length co35)) (fun _ h_ => h_.1))) (Kd.R_base ho0) hb); have n3_ := Aside0.mk (Kd.R_elder' (by (with_reducible repeat (first | apply Kd.R_alloc | apply Kd.R_drewN | apply Kd.R_drew)); exact (Kd.R_mono (Kd.R_far (p := ⟨gb240, 4, none⟩) (Kd.R_far (p := ⟨gb240, 3, none⟩) (Kd.R_far (p := ⟨gb240, 2, none⟩) (Kd.R_far (p := ⟨gb240, 1, none⟩) (Kd.R_far (p := ⟨gb240, 0, none⟩) (Kd.R_types HO238.out BK240.out (by decide)) (fun _ hk => hk.2) (.bool t229)) (fun _ hk => hk.2) (.int .i64 t230)) (fun _ hk => hk.2) (.int .i64 t231)) (fun _ hk => hk.2) (.int .i64 t232)) (fun _ hk => hk.2) (.slice Ao35 t233.length co35)) (fun _ h_ => h_.1))) (Kd.R_base ho0) hb); have n4_ := Aside0.mk (Kd.R_lower (Kd.R_new' ho0 (Kd.R_lt (by (with_reducible repeat (first | apply Kd.R_alloc | apply Kd.R_drewN | apply Kd.R_drew)); exact (Kd.R_mono (Kd.R_far (p := ⟨gb240, 4, none⟩) (Kd.R_far (p := ⟨gb240, 3, none⟩) (Kd.R_far (p := ⟨gb240, 2, none⟩) (Kd.R_far (p := ⟨gb240, 1, none⟩) (Kd.R_far (p := ⟨gb240, 0, none⟩) (Kd.R_types HO238.out BK240.out (by decide)) (fun _ hk => hk.2) (.bool t229)) (fun _ hk => hk.2) (.int .i64 t230)) (fun _ hk => hk.2) (.int .i64 t231)) (fun _ hk => hk.2) (.int .i64 t232)) (fun _ hk => hk.2) (.slice Ao35 t233.length co35)) (fun _ h_ => h_.1))))) (below_size (by repeat (first | (with_reducible first | exact HB.out | apply below_alloc | apply pw_below_drewN | apply below_drew1 | refine below_set ?_ GE222.out | refine below_set ?_ GE240.out) | exact HB.out)))); have n5_ := Aside0.mk (blk_below (g := gb222) (o := .cells #[.bool x223000_2, .int .i64 x223001_2, .int .i64 x223002_2, .int .i64 x223003_2, .slice Ao29 x223004_2.length co29] 26 (0, 0)) (by (with_reducible repeat (first | refine blk_drewN ?_ _ | refine blk_drew ?_ | refine blk_alloc ?_ _)); refine blk_far ?_ NB222_240.out _; (with_reducible repeat (first | refine blk_drewN ?_ _ | refine blk_drew ?_ | refine blk_alloc ?_ _)); refine blk_far ?_ NB222_240.out _; (with_reducible repeat (first | refine blk_drewN ?_ _ | refine blk_drew ?_ | refine blk_alloc ?_ _)); refine blk_far ?_ NB222_240.out _; (with_reducible repeat (first | refine blk_drewN ?_ _ | refine blk_drew ?_ | refine blk_alloc ?_ _)); refine blk_far ?_ NB222_240.out _; (with_reducible repeat (first | refine blk_drewN ?_ _ | refine blk_drew ?_ | refine blk_alloc ?_ _)); refine blk_far ?_ NB222_240.out _; (with_reducible repeat (first | refine blk_drewN ?_ _ | refine blk_drew ?_ | refine blk_alloc ?_ _)); exact BK222.out) hb); have n6_ := Aside0.mk (blk_below (g := gb240) (o := .cells #[.bool t229, .int .i64 t230, .int .i64 t231, .int .i64 t232, .slice Ao35 t233.length co35] 26 (0, 0)) (by (with_reducible repeat (first | refine blk_drewN ?_ _ | refine blk_drew ?_ | refine blk_alloc ?_ _)); refine blk_put (cs := #[.bool t229, .int .i64 t230, .int .i64 t231, .int .i64 t232, .slice none 0 0]) ?_ 4 _ rfl; (with_reducible repeat (first | refine blk_drewN ?_ _ | refine blk_drew ?_ | refine blk_alloc ?_ _)); refine blk_put (cs := #[.bool t229, .int .i64 t230, .int .i64 t231, .int .i64 0, .slice none 0 0]) ?_ 3 _ rfl; (with_reducible repeat (first | refine blk_drewN ?_ _ | refine blk_drew ?_ | refine blk_alloc ?_ _)); refine blk_put (cs := #[.bool t229, .int .i64 t230, .int .i64 0, .int .i64 0, .slice none 0 0]) ?_ 2 _ rfl; (with_reducible repeat (first | refine blk_drewN ?_ _ | refine blk_drew ?_ | refine blk_alloc ?_ _)); refine blk_put (cs := #[.bool t229, .int .i64 0, .int .i64 0, .int .i64 0, .slice none 0 0]) ?_ 1 _ rfl; (with_reducible repeat (first | refine blk_drewN ?_ _ | refine blk_drew ?_ | refine blk_alloc ?_ _)); refine blk_put (cs := #[.bool false, .int .i64 0, .int .i64 0, .int .i64 0, .slice none 0 0]) ?_ 0 _ rfl; (with_reducible repeat (first | refine blk_drewN ?_ _ | refine blk_drew ?_ | refine blk_alloc ?_ _)); exact BK240.out) hb); have n7_ := Aside0.mk (below_step (by repeat (first | (with_reducible first | exact HB.out | apply below_alloc | apply pw_below_drewN | apply below_drew1 | refine below_set ?_ GE222.out | refine below_set ?_ GE240.out) | exact HB.out)) hb); clear HO_223004; clear HO228; clear HO235; clear HO238; clear BK222; clear BK240; clear HB; have HO_223004 := n0_; have HO228 := n1_; have HO235 := n2_; have HO238 := n3_; have HO244 := n4_; have BK222 := n5_; have BK240 := n6_; have HB := n7_; clear n0_ n1_ n2_ n3_ n4_ n5_ n6_ n7_; (try clear hb); (try clear hb2); (try clear hk); (try clear hi); (try clear ho0); obtain ⟨Ao38, co38, eo38⟩ := Kd.R_slice HO244.out; subst eo38; have hcz39_0 : w37.cell? ⟨gb240, 0, none⟩ = some (.bool t229) := (blk_cell BK240.out 0).trans rfl; have hcz39_1 : w37.cell? ⟨gb240, 1, none⟩ = some (.int .i64 t230) := (blk_cell BK240.out 1).trans rfl; have hcz39_2 : w37.cell? ⟨gb240, 2, none⟩ = some (.int .i64 t231) := (blk_cell BK240.out 2).trans rfl; have hcz39_3 : w37.cell? ⟨gb240, 3, none⟩ = some (.int .i64 t232) := (blk_cell BK240.out 3).trans rfl; have hcz39_4 : w37.cell? ⟨gb240, 4, none⟩ = some (.slice Ao35 t233.length co35) := (blk_cell BK240.out 4).trans rfl; have hfz39_0 := blk_frozen BK240.out 0; have hfz39_1 := blk_frozen BK240.out 1; have hfz39_2 := blk_frozen BK240.out 2; have hfz39_3 := blk_frozen BK240.out 3; have hfz39_4 := blk_frozen BK240.out 4; have hcz40_0 : w37.cell? ⟨gb222, 0, none⟩ = some (.bool x223000_2) := (blk_cell BK222.out 0).trans rfl; have hcz40_1 : w37.cell? ⟨gb222, 1, none⟩ = some (.int .i64 x223001_2) := (blk_cell BK222.out 1).trans rfl; have hcz40_2 : w37.cell? ⟨gb222, 2, none⟩ = some (.int .i64 x223002_2) := (blk_cell BK222.out 2).trans rfl; have hcz40_3 : w37.cell? ⟨gb222, 3, none⟩ = some (.int .i64 x223003_2) := (blk_cell BK222.out 3).trans rfl; have hcz40_4 : w37.cell? ⟨gb222, 4, none⟩ = some (.slice Ao29 x223004_2.length co29) := (blk_cell BK222.out 4).trans rfl; have hfz40_0 := blk_frozen BK222.out 0; have hfz40_1 := blk_frozen BK222.out 1; have hfz40_2 := blk_frozen BK222.out 2; have hfz40_3 := blk_frozen BK222.out 3; have hfz40_4 := blk_frozen BK222.out 4))
             go_roundg k2
             case measure => have := HJ6.out; have := HK2.out; omega
             case rel => exact ⟨(wrap64 (x57_2 + 1)), (t229), (t230), (t231), (t232), (t233), (.slice Ao35 t233.length co35), (by first | rfl | (simp; done) | (simp [*]; done)), H', ⟨by have := HJ6.out; have := HK2.out; omega⟩, ⟨Kd.N_V (by (with_reducible repeat (first | apply Kd.N_alloc | apply Kd.N_drewN | apply Kd.N_drew)); exact Kd.N_mono (Kd.N_far (p := ⟨gb222, 4, none⟩) (Kd.N_far (p := ⟨gb222, 3, none⟩) (Kd.N_far (p := ⟨gb222, 2, none⟩) (Kd.N_far (p := ⟨gb222, 1, none⟩) (Kd.N_far (p := ⟨gb222, 0, none⟩) (Kd.N_mono HO235.out (fun k_ hk => (⟨hk, hk.1.1.2.2⟩ : _ ∧ k_ ≠ gb222))) (fun _ hk => hk.2) (.bool t229)) (fun _ hk => hk.2) (.int .i64 t230)) (fun _ hk => hk.2) (.int .i64 t231)) (fun _ hk => hk.2) (.int .i64 t232)) (fun _ hk => hk.2) (.slice Ao35 t233.length co35)) (fun _ hk => hk.1.1.1.2.2))⟩, ⟨by (with_reducible repeat (first | refine blk_drewN ?_ _ | refine blk_drew ?_ | refine blk_alloc ?_ _)); refine blk_put (cs := #[.bool t229, .int .i64 t230, .int .i64 t231, .int .i64 t232, .slice Ao29 x223004_2.length co29]) ?_ 4 _ rfl; (with_reducible repeat (first | refine blk_drewN ?_ _ | refine blk_drew ?_ | refine blk_alloc ?_ _)); refine blk_put (cs := #[.bool t229, .int .i64 t230, .int .i64 t231, .int .i64 x223003_2, .slice Ao29 x223004_2.length co29]) ?_ 3 _ rfl; (with_reducible repeat (first | refine blk_drewN ?_ _ | refine blk_drew ?_ | refine blk_alloc ?_ _)); refine blk_put (cs := #[.bool t229, .int .i64 t230, .int .i64 x223002_2, .int .i64 x223003_2, .slice Ao29 x223004_2.length co29]) ?_ 2 _ rfl; (with_reducible repeat (first | refine blk_drewN ?_ _ | refine blk_drew ?_ | refine blk_alloc ?_ _)); refine blk_put (cs := #[.bool t229, .int .i64 x223001_2, .int .i64 x223002_2, .int .i64 x223003_2, .slice Ao29 x223004_2.length co29]) ?_ 1 _ rfl; (with_reducible repeat (first | refine blk_drewN ?_ _ | refine blk_drew ?_ | refine blk_alloc ?_ _)); refine blk_put (cs := #[.bool x223000_2, .int .i64 x223001_2, .int .i64 x223002_2, .int .i64 x223003_2, .slice Ao29 x223004_2.length co29]) ?_ 0 _ rfl; (with_reducible repeat (first | refine blk_drewN ?_ _ | refine blk_drew ?_ | refine blk_alloc ?_ _)); exact BK222.out⟩, ⟨by repeat (first | (with_reducible first | exact HB.out | apply below_alloc | apply pw_below_drewN | apply below_drew1 | refine below_set ?_ GE222.out | refine below_set ?_ GE240.out) | exact HB.out)⟩⟩
            ·rw [if_neg c22] at H
             have c22b0 : ((t242.length : Int) == 0) = false := beq_eq_false_iff_ne.mpr c22
             have c22b1 : ((t242.length : Int) != 0) = true := bne_iff_ne.mpr c22
             have c22b2 : ¬ (t242 = []) := fun h_ => c22 (by rw [h_]; rfl)
             obtain rfl := Option.some.inj H
             exact absurd HR_.out (by simp)
           ·rw [if_neg c20] at H
            have c20b0 : ((rd t236 0) == 0) = false := beq_eq_false_iff_ne.mpr c20
            have c20b1 : ((rd t236 0) != 0) = true := bne_iff_ne.mpr c20
            obtain rfl := Option.some.inj H
            exact absurd HR_.out (by simp)
          ·rw [if_neg c19] at H
           exact absurd H (by simp)
         ·rw [if_neg c18] at H
          have c18b0 : ((t236.length : Int) == 1) = false := beq_eq_false_iff_ne.mpr c18
          have c18b1 : ((t236.length : Int) != 1) = true := bne_iff_ne.mpr c18
          obtain rfl := Option.some.inj H
          exact absurd HR_.out (by simp)
        ·rw [if_neg c17] at H
         have c17b0 : (t239 == 0) = false := beq_eq_false_iff_ne.mpr c17
         have c17b1 : (t239 != 0) = true := bne_iff_ne.mpr c17
         obtain rfl := Option.some.inj H
         exact absurd HR_.out (by simp)
       ·rw [if_neg c15] at H
        have c15b0 : decide (x57_2 < (wrap64 (16 + (Int.tmod (wrap64 ((Int.tmod a2 40) + 40)) 40)))) = false := decide_eq_false c15
        clear c15
        have H' := Aside0.mk H
        clear H
        go_wp2
        (try simp only [Act.put, List.setIfInBounds_toArray, List.set_cons_zero, List.set_cons_succ])
        go_loopg [99] k2 (fun kq v99 w' => ∃ (x99_3 : Int) (x223000_3 : Bool) (x223001_3 : Int) (x223002_3 : Int) (x223003_3 : Int) (x223004_3 : List (S41)) (u223004 : Value), v99 = .int .i64 x99_3 ∧ Aside0 (squelchlaw13_JitterAll.l1 kq (wrap64 (16 + (Int.tmod (wrap64 ((Int.tmod a2 40) + 40)) 40))) true (wrap64 (16 + (Int.tmod (wrap64 ((Int.tmod a2 40) + 40)) 40))) x99_3 x223000_3 x223001_3 x223002_3 x223003_3 x223004_3 = some r) ∧ Aside0 (kq ≤ k2) ∧ Aside0 (Kd.V k41 41 w' w.heap.size (fun k_ => k_ ≠ gb222) u223004 x223004_3) ∧ Aside0 (w'.heap[gb222]? = some (.cells #[.bool x223000_3, .int .i64 x223001_3, .int .i64 x223002_3, .int .i64 x223003_3, u223004] 26 (0, 0))) ∧ Aside0 (Below w.heap.size w w'))
        case atStart => exact ⟨(0), (x223000_2), (x223001_2), (x223002_2), (x223003_2), (x223004_2), (u223004), (by first | rfl | (simp; done) | (simp [*]; done)), H', ⟨Nat.le_refl _⟩, ⟨by (with_reducible repeat (first | apply Kd.V_alloc | apply Kd.V_drewN | apply Kd.V_drew)); exact HO_223004.out⟩, ⟨by (with_reducible repeat (first | refine blk_drewN ?_ _ | refine blk_drew ?_ | refine blk_alloc ?_ _)); exact BK222.out⟩, ⟨by repeat (first | (with_reducible first | exact HB.out | apply below_alloc | apply pw_below_drewN | apply below_drew1 | refine below_set ?_ GE222.out) | exact HB.out)⟩⟩
        case round =>
         clear H'
         try clear c1
         try clear c2
         try clear p2
         try clear q2
         try clear hx2
         try clear qi2
         try clear c3
         try clear c4
         try clear c5
         try clear p6
         try clear c8
         try clear c9
         try clear c11
         try clear c13
         try clear c13b0
         try clear c13b1
         try clear c14
         try clear c15
         try clear c15b0
         try clear c17
         try clear c17b0
         try clear c17b1
         try clear c18
         try clear c18b0
         try clear c18b1
         try clear c19
         try clear c19b0
         try clear c19b1
         try clear c20
         try clear c20b0
         try clear c20b1
         try clear c22
         try clear c22b0
         try clear c22b1
         try clear c22b2
         try clear p24
         try clear q24
         try clear hx24
         try clear qi24
         try clear c33
         try clear hcz11_0
         try clear hcz11_1
         try clear hcz11_2
         try clear hcz11_3
         try clear hcz11_4
         try clear hcz23_0
         try clear hcz23_1
         try clear hcz23_2
         try clear hcz23_3
         try clear hcz23_4
         try clear hcz34_0
         try clear hcz34_1
         try clear hcz34_2
         try clear hcz34_3
         try clear hcz34_4
         try clear hcz39_0
         try clear hcz39_1
         try clear hcz39_2
         try clear hcz39_3
         try clear hcz39_4
         try clear hcz40_0
         try clear hcz40_1
         try clear hcz40_2
         try clear hcz40_3
         try clear hcz40_4
         try clear hfz11_0
         try clear hfz11_1
         try clear hfz11_2
         try clear hfz11_3
         try clear hfz11_4
         try clear hfz23_0
         try clear hfz23_1
         try clear hfz23_2
         try clear hfz23_3
         try clear hfz23_4
         try clear hfz34_0
         try clear hfz34_1
         try clear hfz34_2
         try clear hfz34_3
         try clear hfz34_4
         try clear hfz39_0
         try clear hfz39_1
         try clear hfz39_2
         try clear hfz39_3
         try clear hfz39_4
         try clear hfz40_0
         try clear hfz40_1
         try clear hfz40_2
         try clear hfz40_3
         try clear hfz40_4
         try clear hx241_0
         try clear p2
         try clear p241
         try clear p6
         try clear q241
         obtain ⟨x99_3, x223000_3, x223001_3, x223002_3, x223003_3, x223004_3, u223004, rfl, HA, HK3, HO_223004, BK222, HB⟩ := hrel
         cases gk with
         | zero => exact absurd HA.out (by simp [squelchlaw13_JitterAll.l1])
         | succ k3 =>
          have H := HA.out
          clear HA
          simp only [squelchlaw13_JitterAll.l1] at H
          by_cases c41 : x99_3 < (wrap64 (16 + (Int.tmod (wrap64 ((Int.tmod a2 40) + 40)) 40)))
          ·rw [if_pos c41] at H
           have c41b0 : decide (x99_3 < (wrap64 (16 + (Int.tmod (wrap64 ((Int.tmod a2 40) + 40)) 40)))) = true := decide_eq_true c41
           clear c41
           replace H := Option.bind_eq_some_iff.mp H
           obtain ⟨⟨t245, t246, t247, t248, t249, t252, t253, t256⟩, A420, H⟩ := H
           replace H : (if t256 = 0 then (if t252 = 1 then (if (t253.length : Int) = 1 then (if 0 < (t253.length : Int) then (if (wrap64 (rd t253 0)) = (wrap64 ((wrap64 ((wrap64 (16 + (Int.tmod (wrap64 ((Int.tmod a2 40) + 40)) 40))) - 1)) - x99_3)) then (squelchlaw13_JitterAll.l1 k3 (wrap64 (16 + (Int.tmod (wrap64 ((Int.tmod a2 40) + 40)) 40))) true (wrap64 (16 + (Int.tmod (wrap64 ((Int.tmod a2 40) + 40)) 40))) (wrap64 (x99_3 + 1)) t245 t246 t247 t248 t249) else (some false)) else (none)) else (some false)) else (some false)) else (some false)) = some r := H
           have A42 := Aside0.mk A420
           clear A420
           by_cases c43 : t256 = 0
           ·rw [if_pos c43] at H
            have c43b0 : (t256 == 0) = true := beq_iff_eq.mpr c43
            have c43b1 : (t256 != 0) = false := bne_eq_false_iff_eq.mpr c43
            clear c43
            by_cases c44 : t252 = 1
            ·rw [if_pos c44] at H
             have c44b0 : (t252 == 1) = true := beq_iff_eq.mpr c44
             have c44b1 : (t252 != 1) = false := bne_eq_false_iff_eq.mpr c44
             clear c44
             by_cases c45 : (t253.length : Int) = 1
             ·rw [if_pos c45] at H
              have c45b0 : ((t253.length : Int) == 1) = true := beq_iff_eq.mpr c45
              have c45b1 : ((t253.length : Int) != 1) = false := bne_eq_false_iff_eq.mpr c45
              clear c45
              by_cases c46 : 0 < (t253.length : Int)
              ·rw [if_pos c46] at H
               have c46b0 : decide (0 < (t253.length : Int)) = true := decide_eq_true c46
               have c46b1 : decide (0 < t253.length) = true := decide_eq_true (by omega)
               clear c46
               by_cases c47 : (wrap64 (rd t253 0)) = (wrap64 ((wrap64 ((wrap64 (16 + (Int.tmod (wrap64 ((Int.tmod a2 40) + 40)) 40))) - 1)) - x99_3))
               ·rw [if_pos c47] at H
                have c47b0 : ((wrap64 (rd t253 0)) == (wrap64 ((wrap64 ((wrap64 (16 + (Int.tmod (wrap64 ((Int.tmod a2 40) + 40)) 40))) - 1)) - x99_3))) = true := beq_iff_eq.mpr c47
                have c47b1 : ((wrap64 (rd t253 0)) != (wrap64 ((wrap64 ((wrap64 (16 + (Int.tmod (wrap64 ((Int.tmod a2 40) + 40)) 40))) - 1)) - x99_3))) = false := bne_eq_false_iff_eq.mpr c47
                clear c47
                have H' := Aside0.mk H
                clear H
                have hcz48_0 : wr.cell? ⟨gb222, 0, none⟩ = some (.bool x223000_3) := (blk_cell BK222.out 0).trans rfl
                have hcz48_1 : wr.cell? ⟨gb222, 1, none⟩ = some (.int .i64 x223001_3) := (blk_cell BK222.out 1).trans rfl
                have hcz48_2 : wr.cell? ⟨gb222, 2, none⟩ = some (.int .i64 x223002_3) := (blk_cell BK222.out 2).trans rfl
                have hcz48_3 : wr.cell? ⟨gb222, 3, none⟩ = some (.int .i64 x223003_3) := (blk_cell BK222.out 3).trans rfl
                have hcz48_4 : wr.cell? ⟨gb222, 4, none⟩ = some (u223004) := (blk_cell BK222.out 4).trans rfl
                have hfz48_0 := blk_frozen BK222.out 0
                have hfz48_1 := blk_frozen BK222.out 1
                have hfz48_2 := blk_frozen BK222.out 2
                have hfz48_3 := blk_frozen BK222.out 3
                have hfz48_4 := blk_frozen BK222.out 4
                obtain ⟨Ao49, co49, eo49⟩ := Kd.V_slice HO_223004.out
                subst eo49
                go_wp2_with (first | ((with_reducible refine gate_callee (f := 12) rfl ?_); refine goesL_ (some 104) rfl rfl Try.func12 (by kernel_rfl) rfl #[.agg #[.bool x223000_3, .int .i64 x223001_3, .int .i64 x223002_3, .int .i64 x223003_3, .slice Ao49 x223004_3.length co49]] rfl (by (try simp only [List.map_toArray, List.map_cons, List.map_nil]); first | done | rfl | (simp only [List.length_drop, List.length_take]; rfl)) ?_; (with_reducible refine (jitter_Pull.calls k3 x223000_3 x223001_3 x223002_3 x223003_3 _ _ x223004_3 t245 t246 t247 t248 t249 t252 t253 t256 _ ?side1 ?side2 A42.out).mono ?_); (case side1 => repeat (first | exact (Kd.V_reads' HO_223004.out).2.2 | (with_reducible refine Kd.C_alloc ?_ _) | (with_reducible refine Kd.C_drewN ?_ _) | (with_reducible refine Kd.C_drew ?_))); (case side2 => exact (Kd.V_reads' HO_223004.out).2.1); rintro e w50 ⟨v250, v254, rfl, ho0, ho1, hb⟩; refine ⟨_, rfl, ?_⟩; have n0_ := Aside0.mk (Kd.V_elder' (by (with_reducible repeat (first | apply Kd.V_alloc | apply Kd.V_drewN | apply Kd.V_drew)); exact HO_223004.out) (Kd.R_base ho1) hb); have n1_ := Aside0.mk (Kd.V_lower (Kd.V_mono (ok' := fun k_ => some k_ ≠ (v254 : Value).ownBlock ∧ k_ ≠ gb222) ho0 (fun k_ hk_ => ⟨hk_.2, (Kd.freshB (g := gb222) (o := .cells #[.bool x223000_3, .int .i64 x223001_3, .int .i64 x223002_3, .int .i64 x223003_3, .slice Ao49 x223004_3.length co49] 26 (0, 0)) (by (with_reducible repeat (first | refine blk_drewN ?_ _ | refine blk_drew ?_ | refine blk_alloc ?_ _)); exact BK222.out) k_ hk_.1)⟩)) (below_size (by repeat (first | (with_reducible first | exact HB.out | apply below_alloc | apply pw_below_drewN | apply below_drew1 | refine below_set ?_ GE222.out) | exact HB.out)))); have n2_ := Aside0.mk (Kd.R_lower (Kd.R_mono (ok' := fun k_ => True) ho1 (fun _ hk_ => trivial)) (below_size (by repeat (first | (with_reducible first | exact HB.out | apply below_alloc | apply pw_below_drewN | apply below_drew1 | refine below_set ?_ GE222.out) | exact HB.out)))); have n3_ := Aside0.mk (blk_below (g := gb222) (o := .cells #[.bool x223000_3, .int .i64 x223001_3, .int .i64 x223002_3, .int .i64 x223003_3, .slice Ao49 x223004_3.length co49] 26 (0, 0)) (by (with_reducible repeat (first | refine blk_drewN ?_ _ | refine blk_drew ?_ | refine blk_alloc ?_ _)); exact BK222.out) hb); have n4_ := Aside0.mk (below_step (by repeat (first | (with_reducible first | exact HB.out | apply below_alloc | apply pw_below_drewN | apply below_drew1 | refine below_set ?_ GE222.out) | exact HB.out)) hb); clear HO_223004; clear BK222; clear HB; have HO_223004 := n0_; have HO251 := n1_; have HO255 := n2_; have BK222 := n3_; have HB := n4_; clear n0_ n1_ n2_ n3_ n4_; (try clear hb); (try clear hb2); (try clear hk); (try clear hi); (try clear ho0); (try clear ho1)) | ((with_reducible refine gate_dst (N := 15) rfl ?_); (try (refine gate_guard (by rfl) ?_; dsimp only)); refine box_event ?hg (N := 15) ?hd (cs := #[.bool false, .int .i64 0, .int .i64 0, .int .i64 0, .slice none 0 0]) (t := 26) ?hr ?_; (case hd => rfl); (case hg => rfl); (case hr => first | (go_simp; done) | (go_simp; rfl)); intro gb257 hg w51 hbox hb; have n0_ := Aside0.mk (Kd.V_below (Kd.V_elderB (by (with_reducible repeat (first | apply Kd.V_alloc | apply Kd.V_drewN | apply Kd.V_drew)); exact HO_223004.out) gb257 (Nat.le_of_eq hg.symm)) hb); have n1_ := Aside0.mk (Kd.V_below (Kd.V_elderB (by (with_reducible repeat (first | apply Kd.V_alloc | apply Kd.V_drewN | apply Kd.V_drew)); exact HO251.out) gb257 (Nat.le_of_eq hg.symm)) hb); have n2_ := Aside0.mk (Kd.R_below (by (with_reducible repeat (first | apply Kd.R_alloc | apply Kd.R_drewN | apply Kd.R_drew)); exact HO255.out) hb); have n3_ := Aside0.mk (blk_below (g := gb222) (o := .cells #[.bool x223000_3, .int .i64 x223001_3, .int .i64 x223002_3, .int .i64 x223003_3, .slice Ao49 x223004_3.length co49] 26 (0, 0)) (by (with_reducible repeat (first | refine blk_drewN ?_ _ | refine blk_drew ?_ | refine blk_alloc ?_ _)); exact BK222.out) hb); have n4_ := Aside0.mk (below_step (by repeat (first | (with_reducible first | exact HB.out | apply below_alloc | apply pw_below_drewN | apply below_drew1 | refine below_set ?_ GE222.out) | exact HB.out)) hb); have n5_ := Aside0.mk (hbox); have n6_ := Aside0.mk ((by rw [hg]; exact (below_size (by repeat (first | (with_reducible first | exact HB.out | apply below_alloc | apply pw_below_drewN | apply below_drew1 | refine below_set ?_ GE222.out) | exact HB.out))) : w.heap.size ≤ gb257)); have n7_ := Aside0.mk ((by rw [hg]; exact (below_size (by repeat (first | (with_reducible first | exact HB.out | apply below_alloc | apply pw_below_drewN | apply below_drew1 | refine below_set ?_ GE222.out) | exact HB.out))) : w.heap.size ≤ gb257)); have n8_ := Aside0.mk ((by rw [hg]; exact Nat.ne_of_lt (blk_lt (g := gb222) (o := .cells #[.bool x223000_3, .int .i64 x223001_3, .int .i64 x223002_3, .int .i64 x223003_3, .slice Ao49 x223004_3.length co49] 26 (0, 0)) (by (with_reducible repeat (first | refine blk_drewN ?_ _ | refine blk_drew ?_ | refine blk_alloc ?_ _)); exact BK222.out)) : gb222 ≠ gb257)); have n9_ := Aside0.mk ((by rw [hg]; exact Nat.ne_of_gt (blk_lt (g := gb222) (o := .cells #[.bool x223000_3, .int .i64 x223001_3, .int .i64 x223002_3, .int .i64 x223003_3, .slice Ao49 x223004_3.length co49] 26 (0, 0)) (by (with_reducible repeat (first | refine blk_drewN ?_ _ | refine blk_drew ?_ | refine blk_alloc ?_ _)); exact BK222.out)) : gb257 ≠ gb222)); clear HO_223004; clear HO251; clear HO255; clear BK222; clear HB; have HO_223004 := n0_; have HO251 := n1_; have HO255 := n2_; have BK222 := n3_; have HB := n4_; have BK257 := n5_; have GW257 := n6_; have GE257 := n7_; have NB222_257 := n8_; have NB257_222 := n9_; clear n0_ n1_ n2_ n3_ n4_ n5_ n6_ n7_ n8_ n9_; clear hb hbox hg; have hnb52 := NB257_222.out; have hnc52 := NB222_257.out; have hcz53_0 : w51.cell? ⟨gb257, 0, none⟩ = some (.bool false) := (blk_cell BK257.out 0).trans rfl; have hcz53_1 : w51.cell? ⟨gb257, 1, none⟩ = some (.int .i64 0) := (blk_cell BK257.out 1).trans rfl; have hcz53_2 : w51.cell? ⟨gb257, 2, none⟩ = some (.int .i64 0) := (blk_cell BK257.out 2).trans rfl; have hcz53_3 : w51.cell? ⟨gb257, 3, none⟩ = some (.int .i64 0) := (blk_cell BK257.out 3).trans rfl; have hcz53_4 : w51.cell? ⟨gb257, 4, none⟩ = some (.slice none 0 0) := (blk_cell BK257.out 4).trans rfl; have hfz53_0 := blk_frozen BK257.out 0; have hfz53_1 := blk_frozen BK257.out 1; have hfz53_2 := blk_frozen BK257.out 2; have hfz53_3 := blk_frozen BK257.out 3; have hfz53_4 := blk_frozen BK257.out 4; obtain ⟨Ao54, co54, eo54⟩ := Kd.V_slice HO251.out; subst eo54; obtain ⟨Ao55, co55, eo55⟩ := Kd.R_slice HO255.out; subst eo55; have p258 : 0 ≤ (0 : Int) := (by omega); have q258 : 0 < (t253.length : Int) := of_decide_eq_true (by first | (with_reducible assumption) | assumption); obtain ⟨ad258, e258, hx258_0⟩ := Kd.at_int (Kd.R_reads' HO255.out).2.2 0 p258 q258; cases e258; have qi258 : (0 < t253.length) = True := eq_true (by omega); (try rw [show ((0 : Int)).toNat = 0 from rfl] at hx258_0); (try rw [Addr.add_zero'] at hx258_0); have hn258_0 : ad258.block ≠ gb257 := Kd.own_blk (Kd.R_ne HO255.out BK257.out (by decide)); have hn258_1 : ad258.block ≠ gb257 := Kd.own_blk (Kd.R_ne HO255.out BK257.out (by decide)); have hn258_2 : ad258.block ≠ gb257 := Kd.own_blk (Kd.R_ne HO255.out BK257.out (by decide)); have hn258_3 : ad258.block ≠ gb257 := Kd.own_blk (Kd.R_ne HO255.out BK257.out (by decide)); have hn258_4 : ad258.block ≠ gb257 := Kd.own_blk (Kd.R_ne HO255.out BK257.out (by decide)); replace hx258_0 := (cell_far (p := ⟨gb257, 0, none⟩) (by first | (rw [add_block]; exact hn258_0) | (show (Addr.add _ _).block ≠ _; rw [add_block]; exact hn258_0) | exact hn258_0) (.bool t245)).trans hx258_0; replace hx258_0 := (cell_far (p := ⟨gb257, 1, none⟩) (by first | (rw [add_block]; exact hn258_1) | (show (Addr.add _ _).block ≠ _; rw [add_block]; exact hn258_1) | exact hn258_1) (.int .i64 t246)).trans hx258_0; replace hx258_0 := (cell_far (p := ⟨gb257, 2, none⟩) (by first | (rw [add_block]; exact hn258_2) | (show (Addr.add _ _).block ≠ _; rw [add_block]; exact hn258_2) | exact hn258_2) (.int .i64 t247)).trans hx258_0; replace hx258_0 := (cell_far (p := ⟨gb257, 3, none⟩) (by first | (rw [add_block]; exact hn258_3) | (show (Addr.add _ _).block ≠ _; rw [add_block]; exact hn258_3) | exact hn258_3) (.int .i64 t248)).trans hx258_0; replace hx258_0 := (cell_far (p := ⟨gb257, 4, none⟩) (by first | (rw [add_block]; exact hn258_4) | (show (Addr.add _ _).block ≠ _; rw [add_block]; exact hn258_4) | exact hn258_4) (.slice Ao54 t249.length co54)).trans hx258_0; clear hn258_0; clear hn258_1; clear hn258_2; clear hn258_3; clear hn258_4; replace p258 := eq_true p258; replace q258 := eq_true q258; have hcz56_0 : w51.cell? ⟨gb222, 0, none⟩ = some (.bool x223000_3) := (blk_cell BK222.out 0).trans rfl; have hcz56_1 : w51.cell? ⟨gb222, 1, none⟩ = some (.int .i64 x223001_3) := (blk_cell BK222.out 1).trans rfl; have hcz56_2 : w51.cell? ⟨gb222, 2, none⟩ = some (.int .i64 x223002_3) := (blk_cell BK222.out 2).trans rfl; have hcz56_3 : w51.cell? ⟨gb222, 3, none⟩ = some (.int .i64 x223003_3) := (blk_cell BK222.out 3).trans rfl; have hcz56_4 : w51.cell? ⟨gb222, 4, none⟩ = some (.slice Ao49 x223004_3.length co49) := (blk_cell BK222.out 4).trans rfl; have hfz56_0 := blk_frozen BK222.out 0; have hfz56_1 := blk_frozen BK222.out 1; have hfz56_2 := blk_frozen BK222.out 2; have hfz56_3 := blk_frozen BK222.out 3; have hfz56_4 := blk_frozen BK222.out 4))
                go_roundg k3
                case measure => have := HJ6.out; have := HK2.out; have := HK3.out; omega
                case rel => exact ⟨(wrap64 (x99_3 + 1)), (t245), (t246), (t247), (t248), (t249), (.slice Ao54 t249.length co54), (by first | rfl | (simp; done) | (simp [*]; done)), H', ⟨by have := HJ6.out; have := HK2.out; have := HK3.out; omega⟩, ⟨by (with_reducible repeat (first | apply Kd.V_alloc | apply Kd.V_drewN | apply Kd.V_drew)); exact Kd.V_mono (Kd.V_far (p := ⟨gb222, 4, none⟩) (Kd.V_far (p := ⟨gb222, 3, none⟩) (Kd.V_far (p := ⟨gb222, 2, none⟩) (Kd.V_far (p := ⟨gb222, 1, none⟩) (Kd.V_far (p := ⟨gb222, 0, none⟩) (Kd.V_far (p := ⟨gb257, 4, none⟩) (Kd.V_far (p := ⟨gb257, 3, none⟩) (Kd.V_far (p := ⟨gb257, 2, none⟩) (Kd.V_far (p := ⟨gb257, 1, none⟩) (Kd.V_far (p := ⟨gb257, 0, none⟩) (Kd.V_mono (Kd.V_mono HO251.out (fun k_ hk => (⟨hk, hk.2⟩ : _ ∧ k_ ≠ gb257))) (fun k_ hk => (⟨hk, hk.1.1.2⟩ : _ ∧ k_ ≠ gb222))) (fun _ hk => hk.1.2) (.bool t245)) (fun _ hk => hk.1.2) (.int .i64 t246)) (fun _ hk => hk.1.2) (.int .i64 t247)) (fun _ hk => hk.1.2) (.int .i64 t248)) (fun _ hk => hk.1.2) (.slice Ao54 t249.length co54)) (fun _ hk => hk.2) (.bool t245)) (fun _ hk => hk.2) (.int .i64 t246)) (fun _ hk => hk.2) (.int .i64 t247)) (fun _ hk => hk.2) (.int .i64 t248)) (fun _ hk => hk.2) (.slice Ao54 t249.length co54)) (fun _ hk => hk.1.1.1.2)⟩, ⟨by (with_reducible repeat (first | refine blk_drewN ?_ _ | refine blk_drew ?_ | refine blk_alloc ?_ _)); refine blk_put (cs := #[.bool t245, .int .i64 t246, .int .i64 t247, .int .i64 t248, .slice Ao49 x223004_3.length co49]) ?_ 4 _ rfl; (with_reducible repeat (first | refine blk_drewN ?_ _ | refine blk_drew ?_ | refine blk_alloc ?_ _)); refine blk_put (cs := #[.bool t245, .int .i64 t246, .int .i64 t247, .int .i64 x223003_3, .slice Ao49 x223004_3.length co49]) ?_ 3 _ rfl; (with_reducible repeat (first | refine blk_drewN ?_ _ | refine blk_drew ?_ | refine blk_alloc ?_ _)); refine blk_put (cs := #[.bool t245, .int .i64 t246, .int .i64 x223002_3, .int .i64 x223003_3, .slice Ao49 x223004_3.length co49]) ?_ 2 _ rfl; (with_reducible repeat (first | refine blk_drewN ?_ _ | refine blk_drew ?_ | refine blk_alloc ?_ _)); refine blk_put (cs := #[.bool t245, .int .i64 x223001_3, .int .i64 x223002_3, .int .i64 x223003_3, .slice Ao49 x223004_3.length co49]) ?_ 1 _ rfl; (with_reducible repeat (first | refine blk_drewN ?_ _ | refine blk_drew ?_ | refine blk_alloc ?_ _)); refine blk_put (cs := #[.bool x223000_3, .int .i64 x223001_3, .int .i64 x223002_3, .int .i64 x223003_3, .slice Ao49 x223004_3.length co49]) ?_ 0 _ rfl; (with_reducible repeat (first | refine blk_drewN ?_ _ | refine blk_drew ?_ | refine blk_alloc ?_ _)); refine blk_far ?_ NB222_257.out _; (with_reducible repeat (first | refine blk_drewN ?_ _ | refine blk_drew ?_ | refine blk_alloc ?_ _)); refine blk_far ?_ NB222_257.out _; (with_reducible repeat (first | refine blk_drewN ?_ _ | refine blk_drew ?_ | refine blk_alloc ?_ _)); refine blk_far ?_ NB222_257.out _; (with_reducible repeat (first | refine blk_drewN ?_ _ | refine blk_drew ?_ | refine blk_alloc ?_ _)); refine blk_far ?_ NB222_257.out _; (with_reducible repeat (first | refine blk_drewN ?_ _ | refine blk_drew ?_ | refine blk_alloc ?_ _)); refine blk_far ?_ NB222_257.out _; (with_reducible repeat (first | refine blk_drewN ?_ _ | refine blk_drew ?_ | refine blk_alloc ?_ _)); exact BK222.out⟩, ⟨by repeat (first | (with_reducible first | exact HB.out | apply below_alloc | apply pw_below_drewN | apply below_drew1 | refine below_set ?_ GE222.out | refine below_set ?_ GE257.out) | exact HB.out)⟩⟩
               ·rw [if_neg c47] at H
                have c47b0 : ((wrap64 (rd t253 0)) == (wrap64 ((wrap64 ((wrap64 (16 + (Int.tmod (wrap64 ((Int.tmod a2 40) + 40)) 40))) - 1)) - x99_3))) = false := beq_eq_false_iff_ne.mpr c47
                have c47b1 : ((wrap64 (rd t253 0)) != (wrap64 ((wrap64 ((wrap64 (16 + (Int.tmod (wrap64 ((Int.tmod a2 40) + 40)) 40))) - 1)) - x99_3))) = true := bne_iff_ne.mpr c47
                obtain rfl := Option.some.inj H
                exact absurd HR_.out (by simp)
              ·rw [if_neg c46] at H
               exact absurd H (by simp)
             ·rw [if_neg c45] at H
              have c45b0 : ((t253.length : Int) == 1) = false := beq_eq_false_iff_ne.mpr c45
              have c45b1 : ((t253.length : Int) != 1) = true := bne_iff_ne.mpr c45
              obtain rfl := Option.some.inj H
              exact absurd HR_.out (by simp)
            ·rw [if_neg c44] at H
             have c44b0 : (t252 == 1) = false := beq_eq_false_iff_ne.mpr c44
             have c44b1 : (t252 != 1) = true := bne_iff_ne.mpr c44
             obtain rfl := Option.some.inj H
             exact absurd HR_.out (by simp)
           ·rw [if_neg c43] at H
            have c43b0 : (t256 == 0) = false := beq_eq_false_iff_ne.mpr c43
            have c43b1 : (t256 != 0) = true := bne_iff_ne.mpr c43
            obtain rfl := Option.some.inj H
            exact absurd HR_.out (by simp)
          ·rw [if_neg c41] at H
           have c41b0 : decide (x99_3 < (wrap64 (16 + (Int.tmod (wrap64 ((Int.tmod a2 40) + 40)) 40)))) = false := decide_eq_false c41
           clear c41
           replace H := Option.bind_eq_some_iff.mp H
           obtain ⟨⟨t259, t260, t261, t262, t263, t266, t267, t270⟩, A570, H⟩ := H
           replace H : (if true = true then (if t270 = 0 then (some (t266 == 2)) else (some false)) else (some false)) = some r := H
           have A57 := Aside0.mk A570
           clear A570
           have H1 : (if t270 = 0 then (some (t266 == 2)) else (some false)) = some r := by first | (rw [if_pos rfl] at H; exact H) | (rw [if_pos trivial] at H; exact H)
           clear H
           have H := H1
           clear H1
           by_cases c58 : t270 = 0
           ·rw [if_pos c58] at H
            have c58b0 : (t270 == 0) = true := beq_iff_eq.mpr c58
            have c58b1 : (t270 != 0) = false := bne_eq_false_iff_eq.mpr c58
            clear c58
            obtain rfl := Option.some.inj H
            have hcz59_0 : wr.cell? ⟨gb222, 0, none⟩ = some (.bool x223000_3) := (blk_cell BK222.out 0).trans rfl
            have hcz59_1 : wr.cell? ⟨gb222, 1, none⟩ = some (.int .i64 x223001_3) := (blk_cell BK222.out 1).trans rfl
            have hcz59_2 : wr.cell? ⟨gb222, 2, none⟩ = some (.int .i64 x223002_3) := (blk_cell BK222.out 2).trans rfl
            have hcz59_3 : wr.cell? ⟨gb222, 3, none⟩ = some (.int .i64 x223003_3) := (blk_cell BK222.out 3).trans rfl
            have hcz59_4 : wr.cell? ⟨gb222, 4, none⟩ = some (u223004) := (blk_cell BK222.out 4).trans rfl
            have hfz59_0 := blk_frozen BK222.out 0
            have hfz59_1 := blk_frozen BK222.out 1
            have hfz59_2 := blk_frozen BK222.out 2
            have hfz59_3 := blk_frozen BK222.out 3
            have hfz59_4 := blk_frozen BK222.out 4
            obtain ⟨Ao60, co60, eo60⟩ := Kd.V_slice HO_223004.out
            subst eo60
            go_wp2_with (first | ((with_reducible refine gate_callee (f := 12) rfl ?_); refine goesL_ (some 135) rfl rfl Try.func12 (by kernel_rfl) rfl #[.agg #[.bool x223000_3, .int .i64 x223001_3, .int .i64 x223002_3, .int .i64 x223003_3, .slice Ao60 x223004_3.length co60]] rfl (by (try simp only [List.map_toArray, List.map_cons, List.map_nil]); first | done | rfl | (simp only [List.length_drop, List.length_take]; rfl)) ?_; (with_reducible refine (jitter_Pull.calls k3 x223000_3 x223001_3 x223002_3 x223003_3 _ _ x223004_3 t259 t260 t261 t262 t263 t266 t267 t270 _ ?side1 ?side2 A57.out).mono ?_); (case side1 => repeat (first | exact (Kd.V_reads' HO_223004.out).2.2 | (with_reducible refine Kd.C_alloc ?_ _) | (with_reducible refine Kd.C_drewN ?_ _) | (with_reducible refine Kd.C_drew ?_))); (case side2 => exact (Kd.V_reads' HO_223004.out).2.1); rintro e w61 ⟨v264, v268, rfl, ho0, ho1, hb⟩; refine ⟨_, rfl, ?_⟩; have n0_ := Aside0.mk (Kd.V_elder' (by (with_reducible repeat (first | apply Kd.V_alloc | apply Kd.V_drewN | apply Kd.V_drew)); exact HO_223004.out) (Kd.R_base ho1) hb); have n1_ := Aside0.mk (Kd.V_lower (Kd.V_mono (ok' := fun k_ => some k_ ≠ (v268 : Value).ownBlock ∧ k_ ≠ gb222) ho0 (fun k_ hk_ => ⟨hk_.2, (Kd.freshB (g := gb222) (o := .cells #[.bool x223000_3, .int .i64 x223001_3, .int .i64 x223002_3, .int .i64 x223003_3, .slice Ao60 x223004_3.length co60] 26 (0, 0)) (by (with_reducible repeat (first | refine blk_drewN ?_ _ | refine blk_drew ?_ | refine blk_alloc ?_ _)); exact BK222.out) k_ hk_.1)⟩)) (below_size (by repeat (first | (with_reducible first | exact HB.out | apply below_alloc | apply pw_below_drewN | apply below_drew1 | refine below_set ?_ GE222.out) | exact HB.out)))); have n2_ := Aside0.mk (Kd.R_lower (Kd.R_mono (ok' := fun k_ => True) ho1 (fun _ hk_ => trivial)) (below_size (by repeat (first | (with_reducible first | exact HB.out | apply below_alloc | apply pw_below_drewN | apply below_drew1 | refine below_set ?_ GE222.out) | exact HB.out)))); have n3_ := Aside0.mk (blk_below (g := gb222) (o := .cells #[.bool x223000_3, .int .i64 x223001_3, .int .i64 x223002_3, .int .i64 x223003_3, .slice Ao60 x223004_3.length co60] 26 (0, 0)) (by (with_reducible repeat (first | refine blk_drewN ?_ _ | refine blk_drew ?_ | refine blk_alloc ?_ _)); exact BK222.out) hb); have n4_ := Aside0.mk (below_step (by repeat (first | (with_reducible first | exact HB.out | apply below_alloc | apply pw_below_drewN | apply below_drew1 | refine below_set ?_ GE222.out) | exact HB.out)) hb); clear HO_223004; clear BK222; clear HB; have HO_223004 := n0_; have HO265 := n1_; have HO269 := n2_; have BK222 := n3_; have HB := n4_; clear n0_ n1_ n2_ n3_ n4_; (try clear hb); (try clear hb2); (try clear hk); (try clear hi); (try clear ho0); (try clear ho1)) | ((with_reducible refine gate_dst (N := 19) rfl ?_); (try (refine gate_guard (by rfl) ?_; dsimp only)); refine box_event ?hg (N := 19) ?hd (cs := #[.bool false, .int .i64 0, .int .i64 0, .int .i64 0, .slice none 0 0]) (t := 26) ?hr ?_; (case hd => rfl); (case hg => rfl); (case hr => first | (go_simp; done) | (go_simp; rfl)); intro gb271 hg w62 hbox hb; have n0_ := Aside0.mk (Kd.V_below (Kd.V_elderB (by (with_reducible repeat (first | apply Kd.V_alloc | apply Kd.V_drewN | apply Kd.V_drew)); exact HO_223004.out) gb271 (Nat.le_of_eq hg.symm)) hb); have n1_ := Aside0.mk (Kd.V_below (Kd.V_elderB (by (with_reducible repeat (first | apply Kd.V_alloc | apply Kd.V_drewN | apply Kd.V_drew)); exact HO265.out) gb271 (Nat.le_of_eq hg.symm)) hb); have n2_ := Aside0.mk (Kd.R_below (by (with_reducible repeat (first | apply Kd.R_alloc | apply Kd.R_drewN | apply Kd.R_drew)); exact HO269.out) hb); have n3_ := Aside0.mk (blk_below (g := gb222) (o := .cells #[.bool x223000_3, .int .i64 x223001_3, .int .i64 x223002_3, .int .i64 x223003_3, .slice Ao60 x223004_3.length co60] 26 (0, 0)) (by (with_reducible repeat (first | refine blk_drewN ?_ _ | refine blk_drew ?_ | refine blk_alloc ?_ _)); exact BK222.out) hb); have n4_ := Aside0.mk (below_step (by repeat (first | (with_reducible first | exact HB.out | apply below_alloc | apply pw_below_drewN | apply below_drew1 | refine below_set ?_ GE222.out) | exact HB.out)) hb); have n5_ := Aside0.mk (hbox); have n6_ := Aside0.mk ((by rw [hg]; exact (below_size (by repeat (first | (with_reducible first | exact HB.out | apply below_alloc | apply pw_below_drewN | apply below_drew1 | refine below_set ?_ GE222.out) | exact HB.out))) : w.heap.size ≤ gb271)); have n7_ := Aside0.mk ((by rw [hg]; exact (below_size (by repeat (first | (with_reducible first | exact HB.out | apply below_alloc | apply pw_below_drewN | apply below_drew1 | refine below_set ?_ GE222.out) | exact HB.out))) : w.heap.size ≤ gb271)); have n8_ := Aside0.mk ((by rw [hg]; exact Nat.ne_of_lt (blk_lt (g := gb222) (o := .cells #[.bool x223000_3, .int .i64 x223001_3, .int .i64 x223002_3, .int .i64 x223003_3, .slice Ao60 x223004_3.length co60] 26 (0, 0)) (by (with_reducible repeat (first | refine blk_drewN ?_ _ | refine blk_drew ?_ | refine blk_alloc ?_ _)); exact BK222.out)) : gb222 ≠ gb271)); have n9_ := Aside0.mk ((by rw [hg]; exact Nat.ne_of_gt (blk_lt (g := gb222) (o := .cells #[.bool x223000_3, .int .i64 x223001_3, .int .i64 x223002_3, .int .i64 x223003_3, .slice Ao60 x223004_3.length co60] 26 (0, 0)) (by (with_reducible repeat (first | refine blk_drewN ?_ _ | refine blk_drew ?_ | refine blk_alloc ?_ _)); exact BK222.out)) : gb271 ≠ gb222)); clear HO_223004; clear HO265; clear HO269; clear BK222; clear HB; have HO_223004 := n0_; have HO265 := n1_; have HO269 := n2_; have BK222 := n3_; have HB := n4_; have BK271 := n5_; have GW271 := n6_; have GE271 := n7_; have NB222_271 := n8_; have NB271_222 := n9_; clear n0_ n1_ n2_ n3_ n4_ n5_ n6_ n7_ n8_ n9_; clear hb hbox hg; have hnb63 := NB271_222.out; have hnc63 := NB222_271.out; have hcz64_0 : w62.cell? ⟨gb271, 0, none⟩ = some (.bool false) := (blk_cell BK271.out 0).trans rfl; have hcz64_1 : w62.cell? ⟨gb271, 1, none⟩ = some (.int .i64 0) := (blk_cell BK271.out 1).trans rfl; have hcz64_2 : w62.cell? ⟨gb271, 2, none⟩ = some (.int .i64 0) := (blk_cell BK271.out 2).trans rfl; have hcz64_3 : w62.cell? ⟨gb271, 3, none⟩ = some (.int .i64 0) := (blk_cell BK271.out 3).trans rfl; have hcz64_4 : w62.cell? ⟨gb271, 4, none⟩ = some (.slice none 0 0) := (blk_cell BK271.out 4).trans rfl; have hfz64_0 := blk_frozen BK271.out 0; have hfz64_1 := blk_frozen BK271.out 1; have hfz64_2 := blk_frozen BK271.out 2; have hfz64_3 := blk_frozen BK271.out 3; have hfz64_4 := blk_frozen BK271.out 4; obtain ⟨Ao65, co65, eo65⟩ := Kd.V_slice HO265.out; subst eo65))
            go_ret
            exact ⟨by first | rfl | (simp [errW_none, errW_some] <;> rfl) | (simp [*, errW_none, errW_some] <;> rfl) | (simp [wrap64]; done), by repeat (first | (with_reducible first | exact HB.out | apply below_alloc | apply pw_below_drewN | apply below_drew1 | refine below_set ?_ GE222.out | refine below_set ?_ GE271.out) | exact HB.out)⟩
           ·rw [if_neg c58] at H
            have c58b0 : (t270 == 0) = false := beq_eq_false_iff_ne.mpr c58
            have c58b1 : (t270 != 0) = true := bne_iff_ne.mpr c58
            obtain rfl := Option.some.inj H
            exact absurd HR_.out (by simp)
 ·replace c5 := Bool.eq_false_iff.mpr c5
  subst c5
  have H1 : (some false) = some r := by rw [if_neg (show ¬ (false = true) by decide)] at H; exact H
  clear H
  have H := H1
  clear H1
  obtain rfl := Option.some.inj H
  exact absurd HR_.out (by simp)

def squelchlaw13_JitterAll.Pure : Prop := ∀ (a0 : Int) (a1 : Int) (a2 : Int), (Lit.int .i64 a0).wf = true → (Lit.int .i64 a1).wf = true → (Lit.int .i64 a2).wf = true → ∃ k, squelchlaw13_JitterAll.f k a0 a1 a2 = some true

end Go.Proofs.Ytkjgibdbbklejaa.PA
-- slim
