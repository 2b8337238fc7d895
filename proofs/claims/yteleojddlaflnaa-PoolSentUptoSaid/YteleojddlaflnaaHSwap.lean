/- The contract of pool.Swap; the region that swaps is walked by hand (mkswap.py). -/
import Derived.Test.YteleojddlaflnaaPAx0
import Derived.Test.YteleojddlaflnaaPAx1
import Derived.Test.YteleojddlaflnaaPAx2
import Derived.Test.YteleojddlaflnaaPAx3
import Derived.Test.YteleojddlaflnaaHTake
import Derived.Test.YteleojddlaflnaaHSwapRow
import Derived.Deep.RegionLaw
namespace Go.Proofs.Yteleojddlaflnaa.PA
open Go.RowKit Go.Proofs.YteleojddlaflnaaW.PrintWords Go.Proofs.YteleojddlaflnaaW.PrintLast Go.Proofs.YteleojddlaflnaaW.PrintMore
set_option linter.unusedVariables false
set_option linter.unusedSimpArgs false
theorem zip_getD (l : List S31) (i : Nat) (h : i < l.length) : l.zipIdx.getD i (z31, 0) = (l.getD i z31, i) := by
  simp only [List.getD_eq_getElem?_getD, List.getElem?_zipIdx, Nat.zero_add]
  rw [List.getElem?_eq_getElem h]; rfl
def pool_Swap.f (k : Nat) (a0_0 : Int) (l0_1 : List (S31)) (a1 : Int) (a2 : Int) : Option (Int × (List (S31)) × Int) := (pool_at.f k a0_0 l0_1 (([a1, a2] : List Int))).bind fun bt272 => (if bt272.2.2 = 0 then (if 0 ≤ a1 ∧ a1 < (bt272.2.1.length : Int) ∧ 0 ≤ a2 ∧ a2 < (bt272.2.1.length : Int) then (some (bt272.1, (bt272.2.1.set a1.toNat (rd_T31 bt272.2.1 a2)).set a2.toNat (rd_T31 bt272.2.1 a1), bt272.2.2)) else none) else (some (bt272.1, bt272.2.1, bt272.2.2)))
theorem pool_Swap.mono : ∀ a0 a1 a2 a3 k, LeO (pool_Swap.f k a0 a1 a2 a3) (pool_Swap.f (k + 1) a0 a1 a2 a3) := by
 intro a0 a1 a2 a3 k
 unfold pool_Swap.f
 repeat' first
   | (with_reducible exact pool_at.mono _ _ _ _)
   | (with_reducible exact LeO.refl _)
   | (with_reducible exact LeO.none _)
   | (with_reducible refine LeO.ite ?_ ?_)
   | (with_reducible refine LeO.bind ?_ (fun _ => ?_))
   | exact pool_at.mono _ _ _ _
   | exact LeO.none _
   | refine LeO.ite ?_ ?_
   | refine LeO.bind ?_ (fun _ => ?_)
set_option maxHeartbeats 8000000 in
set_option maxRecDepth 100000 in
theorem pool_Swap.calls (k : Nat) (a0_0 : Int) (A0_1 : Option Addr) (c0_1 : Nat) (l0_1 : List (S31)) (a1 : Int) (a2 : Int) (r1 : Int) (r2 : List (S31)) (r3 : Int) (w : World) (hr0_1 : Kd.C k31 w A0_1 l0_1.length l0_1) (hc0_1 : l0_1.length ≤ c0_1) (h : pool_Swap.f k a0_0 l0_1 a1 a2 = some (r1, r2, r3)) :
  Calls Try.prog 17 #[.agg #[.int .i64 a0_0, .slice A0_1 l0_1.length c0_1], .int .i64 a1, .int .i64 a2] w fun e w' => ∃ v1_ : Value, e = .returned (.tuple #[.agg #[.int .i64 r1, v1_], .int .i64 r3]) ∧ Kd.S k31 31 w' w.heap.size (fun _ => True) v1_ r2 ∧ Below w.heap.size w w' := by
 have hu24 := Try.underlying24
 have HR0_1 := Aside0.mk hr0_1
 have HC0_1 := Aside0.mk hc0_1
 clear hr0_1 hc0_1
 have HB := Aside0.mk (Below.refl w.heap.size w)
 have H : ((pool_at.f k a0_0 l0_1 (([a1, a2] : List Int))).bind fun bt272 => (if bt272.2.2 = 0 then (if 0 ≤ a1 ∧ a1 < (bt272.2.1.length : Int) ∧ 0 ≤ a2 ∧ a2 < (bt272.2.1.length : Int) then (some (bt272.1, (bt272.2.1.set a1.toNat (rd_T31 bt272.2.1 a2)).set a2.toNat (rd_T31 bt272.2.1 a1), bt272.2.2)) else none) else (some (bt272.1, bt272.2.1, bt272.2.2)))) = some (r1, r2, r3) := h
 clear h
 obtain ⟨y269, hy269⟩ : ∃ y_ : List Int, y_ = (([a1, a2] : List Int)) := ⟨_, rfl⟩
 replace H : ((pool_at.f k a0_0 l0_1 y269).bind fun bt272 => (if bt272.2.2 = 0 then (if 0 ≤ a1 ∧ a1 < (bt272.2.1.length : Int) ∧ 0 ≤ a2 ∧ a2 < (bt272.2.1.length : Int) then (some (bt272.1, (bt272.2.1.set a1.toNat (rd_T31 bt272.2.1 a2)).set a2.toNat (rd_T31 bt272.2.1 a1), bt272.2.2)) else none) else (some (bt272.1, bt272.2.1, bt272.2.2)))) = some (r1, r2, r3) := by first | (rw [hy269]; with_reducible exact H) | (have H2_ := (Option.bind_some _ _).symm.trans H; rw [hy269]; with_reducible exact H2_) | (have H2_ := (Option.bind_some _ _).symm.trans H; with_reducible exact H2_) | with_reducible exact H | (rw [hy269]; exact H) | exact H
 have Ny269 := Aside0.mk hy269
 clear hy269
 replace H := Option.bind_eq_some_iff.mp H
 obtain ⟨⟨t272, t273, t276⟩, A40, H⟩ := H
 replace H : (if t276 = 0 then (if 0 ≤ a1 ∧ a1 < (t273.length : Int) ∧ 0 ≤ a2 ∧ a2 < (t273.length : Int) then (some (t272, (t273.set a1.toNat (rd_T31 t273 a2)).set a2.toNat (rd_T31 t273 a1), t276)) else none) else (some (t272, t273, t276))) = some (r1, r2, r3) := H
 have A4 := Aside0.mk A40
 clear A40
 by_cases c5 : t276 = 0
 ·rw [if_pos c5] at H
  have c5b0 : (t276 == 0) = true := beq_iff_eq.mpr c5
  have c5b1 : (t276 != 0) = false := bne_eq_false_iff_eq.mpr c5
  clear c5
  by_cases cb : 0 ≤ a1 ∧ a1 < (t273.length : Int) ∧ 0 ≤ a2 ∧ a2 < (t273.length : Int)
  case neg => rw [if_neg cb] at H; cases H
  rw [if_pos cb] at H
  obtain ⟨b0, b1, b2, b3⟩ := cb
  simp only [Option.some.injEq, Prod.mk.injEq] at H
  obtain ⟨rfl, rfl, rfl⟩ := H
  go_enter Try.func17, Try.ntmps17
  go_wp2_with (first | ((with_reducible refine gate_dst (N := 3) rfl ?_); refine box_event ?hg (N := 3) ?hd (cs := #[.int .i64 a0_0, .slice A0_1 l0_1.length c0_1]) (t := 24) ?hr ?_; (case hd => rfl); (case hg => rfl); (case hr => first | (go_simp; done) | (go_simp; rfl)); intro gb267 hg w6 hbox hb; have n0_ := Aside0.mk (below_step (by repeat (first | (with_reducible first | exact HB.out | apply below_alloc | apply pw_below_drewN | apply below_drew1) | exact HB.out)) hb); have n1_ := Aside0.mk (hbox); have n2_ := Aside0.mk ((by rw [hg]; exact (below_size (by repeat (first | (with_reducible first | exact HB.out | apply below_alloc | apply pw_below_drewN | apply below_drew1) | exact HB.out))) : w.heap.size ≤ gb267)); have n3_ := Aside0.mk ((by rw [hg]; exact (below_size (by repeat (first | (with_reducible first | exact HB.out | apply below_alloc | apply pw_below_drewN | apply below_drew1) | exact HB.out))) : w.heap.size ≤ gb267)); clear HB; have HB := n0_; have BK267 := n1_; have GW267 := n2_; have GE267 := n3_; clear n0_ n1_ n2_ n3_; clear hb hbox hg) | ((with_reducible refine gate_dst (N := 6) rfl ?_); refine box_event ?hg (N := 6) ?hd (cs := #[.int .i64 0, .slice none 0 0]) (t := 24) ?hr ?_; (case hd => rfl); (case hg => rfl); (case hr => first | (go_simp; done) | (go_simp; rfl)); intro gb268 hg w7 hbox hb; have n0_ := Aside0.mk (blk_below (g := gb267) (o := .cells #[.int .i64 a0_0, .slice A0_1 l0_1.length c0_1] 24 (0, 0)) (by (with_reducible repeat (first | refine blk_drewN ?_ _ | refine blk_drew ?_ | refine blk_alloc ?_ _)); exact BK267.out) hb); have n1_ := Aside0.mk (below_step (by repeat (first | (with_reducible first | exact HB.out | apply below_alloc | apply pw_below_drewN | apply below_drew1 | refine below_set ?_ GE267.out) | exact HB.out)) hb); have n2_ := Aside0.mk (hbox); have n3_ := Aside0.mk ((by rw [hg]; exact (below_size (by repeat (first | (with_reducible first | exact HB.out | apply below_alloc | apply pw_below_drewN | apply below_drew1 | refine below_set ?_ GE267.out) | exact HB.out))) : w.heap.size ≤ gb268)); have n4_ := Aside0.mk ((by rw [hg]; exact (below_size (by repeat (first | (with_reducible first | exact HB.out | apply below_alloc | apply pw_below_drewN | apply below_drew1 | refine below_set ?_ GE267.out) | exact HB.out))) : w.heap.size ≤ gb268)); have n5_ := Aside0.mk ((by rw [hg]; exact Nat.ne_of_lt (blk_lt (g := gb267) (o := .cells #[.int .i64 a0_0, .slice A0_1 l0_1.length c0_1] 24 (0, 0)) (by (with_reducible repeat (first | refine blk_drewN ?_ _ | refine blk_drew ?_ | refine blk_alloc ?_ _)); exact BK267.out)) : gb267 ≠ gb268)); have n6_ := Aside0.mk ((by rw [hg]; exact Nat.ne_of_gt (blk_lt (g := gb267) (o := .cells #[.int .i64 a0_0, .slice A0_1 l0_1.length c0_1] 24 (0, 0)) (by (with_reducible repeat (first | refine blk_drewN ?_ _ | refine blk_drew ?_ | refine blk_alloc ?_ _)); exact BK267.out)) : gb268 ≠ gb267)); clear BK267; clear HB; have BK267 := n0_; have HB := n1_; have BK268 := n2_; have GW268 := n3_; have GE268 := n4_; have NB267_268 := n5_; have NB268_267 := n6_; clear n0_ n1_ n2_ n3_ n4_ n5_ n6_; clear hb hbox hg; have hnb8 := NB267_268.out; have hnc8 := NB268_267.out; have hcz9_0 : w7.cell? ⟨gb267, 0, none⟩ = some (.int .i64 a0_0) := (blk_cell BK267.out 0).trans rfl; have hcz9_1 : w7.cell? ⟨gb267, 1, none⟩ = some (.slice A0_1 l0_1.length c0_1) := (blk_cell BK267.out 1).trans rfl; have hfz9_0 := blk_frozen BK267.out 0; have hfz9_1 := blk_frozen BK267.out 1) | ((with_reducible refine gate_dst (N := 13) rfl ?_); refine Kd.R_lit (Kd.int .i64) _ 3 ?hg (N := 13) ?hd (xs := ([a1, a2] : List Int)) (inner := [.int .i64 a1, .int .i64 a2]) (ok := fun _ => True) (okp := fun _ => True) ?hr ?hp (fun _ hk => hk) trivial (Below.refl _ _) (Nat.le_refl _) (by simp) ?_; (case hd => rfl); (case hg => rfl); (case hr => first | (go_simp; done) | (go_simp; rfl)); (case hp => exact (Reps.one (show Kd.M (Kd.int .i64) _ _ _ a1 [.int .i64 a1] from rfl) (Reps.one (show Kd.M (Kd.int .i64) _ _ _ a2 [.int .i64 a2] from rfl) (Reps.none _ _)))); intro v270 w10 ho11 hb hg_ hnew_; clear hg_ hnew_; (first | rw [← Ny269.out] at ho11 | (simp only [Int.reduceToNat] at ho11; rw [← Ny269.out] at ho11)); have n0_ := Aside0.mk (Kd.R_lower ho11 (below_size (by repeat (first | (with_reducible first | exact HB.out | apply below_alloc | apply pw_below_drewN | apply below_drew1 | refine below_set ?_ GE267.out | refine below_set ?_ GE268.out) | exact HB.out)))); have n1_ := Aside0.mk (blk_below (g := gb267) (o := .cells #[.int .i64 a0_0, .slice A0_1 l0_1.length c0_1] 24 (0, 0)) (by (with_reducible repeat (first | refine blk_drewN ?_ _ | refine blk_drew ?_ | refine blk_alloc ?_ _)); exact BK267.out) hb); have n2_ := Aside0.mk (blk_below (g := gb268) (o := .cells #[.int .i64 0, .slice none 0 0] 24 (0, 0)) (by (with_reducible repeat (first | refine blk_drewN ?_ _ | refine blk_drew ?_ | refine blk_alloc ?_ _)); exact BK268.out) hb); have n3_ := Aside0.mk (below_step (by repeat (first | (with_reducible first | exact HB.out | apply below_alloc | apply pw_below_drewN | apply below_drew1 | refine below_set ?_ GE267.out | refine below_set ?_ GE268.out) | exact HB.out)) hb); clear BK267; clear BK268; clear HB; have HO271 := n0_; have BK267 := n1_; have BK268 := n2_; have HB := n3_; clear n0_ n1_ n2_ n3_; clear hb ho11; obtain ⟨Ao12, co12, eo12⟩ := Kd.R_slice HO271.out; subst eo12) | ((with_reducible refine gate_callee (f := 30) rfl ?_); refine goesL_ (some 14) rfl rfl Try.func30 (by kernel_rfl) rfl #[.agg #[.int .i64 a0_0, .slice A0_1 l0_1.length c0_1], .slice Ao12 y269.length co12] rfl (by (try simp only [List.map_toArray, List.map_cons, List.map_nil]); first | done | rfl | (simp only [List.length_drop, List.length_take]; rfl)) ?_; (with_reducible refine (pool_at.calls k a0_0 _ _ l0_1 _ _ y269 t272 t273 t276 _ ?side1 ?side2 ?side3 ?side4 A4.out).mono ?_); (case side1 => repeat (first | exact (Kd.C_below HR0_1.out HB.out) | (with_reducible refine Kd.C_alloc ?_ _) | (with_reducible refine Kd.C_drewN ?_ _) | (with_reducible refine Kd.C_drew ?_))); (case side2 => exact HC0_1.out); (case side3 => repeat (first | exact (Kd.R_reads' HO271.out).2.2 | (with_reducible refine Kd.C_alloc ?_ _) | (with_reducible refine Kd.C_drewN ?_ _) | (with_reducible refine Kd.C_drew ?_))); (case side4 => exact (Kd.R_reads' HO271.out).2.1); rintro e w13 ⟨v274, rfl, ho0, hb⟩; refine ⟨_, rfl, ?_⟩; have n0_ := Aside0.mk (Kd.R_below (by (with_reducible repeat (first | apply Kd.R_alloc | apply Kd.R_drewN | apply Kd.R_drew)); exact HO271.out) hb); have n1_ := Aside0.mk (Kd.S_lower ho0 (below_size (by repeat (first | (with_reducible first | exact HB.out | apply below_alloc | apply pw_below_drewN | apply below_drew1 | refine below_set ?_ GE267.out | refine below_set ?_ GE268.out) | exact HB.out)))); have n2_ := Aside0.mk (blk_below (g := gb267) (o := .cells #[.int .i64 a0_0, .slice A0_1 l0_1.length c0_1] 24 (0, 0)) (by (with_reducible repeat (first | refine blk_drewN ?_ _ | refine blk_drew ?_ | refine blk_alloc ?_ _)); exact BK267.out) hb); have n3_ := Aside0.mk (blk_below (g := gb268) (o := .cells #[.int .i64 0, .slice none 0 0] 24 (0, 0)) (by (with_reducible repeat (first | refine blk_drewN ?_ _ | refine blk_drew ?_ | refine blk_alloc ?_ _)); exact BK268.out) hb); have n4_ := Aside0.mk (below_step (by repeat (first | (with_reducible first | exact HB.out | apply below_alloc | apply pw_below_drewN | apply below_drew1 | refine below_set ?_ GE267.out | refine below_set ?_ GE268.out) | exact HB.out)) hb); clear HO271; clear BK267; clear BK268; clear HB; have HO271 := n0_; have HO275 := n1_; have BK267 := n2_; have BK268 := n3_; have HB := n4_; clear n0_ n1_ n2_ n3_ n4_; (try clear hb); (try clear hb2); (try clear hk); (try clear hi); (try clear ho0); have hcz14_0 : w13.cell? ⟨gb267, 0, none⟩ = some (.int .i64 a0_0) := (blk_cell BK267.out 0).trans rfl; have hcz14_1 : w13.cell? ⟨gb267, 1, none⟩ = some (.slice A0_1 l0_1.length c0_1) := (blk_cell BK267.out 1).trans rfl; have hfz14_0 := blk_frozen BK267.out 0; have hfz14_1 := blk_frozen BK267.out 1; obtain ⟨Ao15, co15, eo15⟩ := Kd.S_slice HO275.out; subst eo15; have hcz16_0 : w13.cell? ⟨gb268, 0, none⟩ = some (.int .i64 0) := (blk_cell BK268.out 0).trans rfl; have hcz16_1 : w13.cell? ⟨gb268, 1, none⟩ = some (.slice none 0 0) := (blk_cell BK268.out 1).trans rfl; have hfz16_0 := blk_frozen BK268.out 0; have hfz16_1 := blk_frozen BK268.out 1))
  have HS0 : Kd.S k31 31 ((w13.setCell ⟨gb267, 0, none⟩ (.int .i64 t272)).setCell ⟨gb267, 1, none⟩ (.slice Ao15 t273.length co15)) w.heap.size (fun k_ => k_ ≠ gb267) (.slice Ao15 t273.length co15) t273 :=
    Kd.S_mono (Kd.S_far (p := ⟨gb267, 1, none⟩) (Kd.S_far (p := ⟨gb267, 0, none⟩) (Kd.S_types HO275.out BK267.out (by decide)) (fun _ hk => hk.2) _) (fun _ hk => hk.2) _) (fun _ hk => hk.2)
  have BK0 : ((w13.setCell ⟨gb267, 0, none⟩ (.int .i64 t272)).setCell ⟨gb267, 1, none⟩ (.slice Ao15 t273.length co15)).heap[gb267]? = some (.cells #[.int .i64 t272, .slice Ao15 t273.length co15] 24 (0, 0)) := by
    refine blk_put (cs := #[.int .i64 t272, .slice A0_1 l0_1.length c0_1]) ?_ 1 _ rfl
    exact blk_put (cs := #[.int .i64 a0_0, .slice A0_1 l0_1.length c0_1]) BK267.out 0 _ rfl
  have BK1 : ((w13.setCell ⟨gb267, 0, none⟩ (.int .i64 t272)).setCell ⟨gb267, 1, none⟩ (.slice Ao15 t273.length co15)).heap[gb268]? = some (.cells #[.int .i64 0, .slice none 0 0] 24 (0, 0)) := blk_far (blk_far BK268.out NB268_267.out _) NB268_267.out _
  have HB0 : Below w.heap.size w ((w13.setCell ⟨gb267, 0, none⟩ (.int .i64 t272)).setCell ⟨gb267, 1, none⟩ (.slice Ao15 t273.length co15)) := below_set (below_set HB.out GE267.out) GE267.out
  generalize ((w13.setCell ⟨gb267, 0, none⟩ (.int .i64 t272)).setCell ⟨gb267, 1, none⟩ (.slice Ao15 t273.length co15)) = w20 at HS0 BK0 BK1 HB0 ⊢
  clear HO271 HO275 BK267 BK268 HB hcz14_0 hcz14_1 hfz14_0 hfz14_1 hcz16_0 hcz16_1 hfz16_0 hfz16_1 hcz9_0 hcz9_1 hfz9_0 hfz9_1
  obtain ⟨ad1, A1_, c1_, e1_, -⟩ := at_T31 (Kd.S_reads' HS0).2.2 a1 b0 (by omega)
  subst e1_
  obtain ⟨f0, HR0⟩ := HS0
  obtain ⟨g, rfl⟩ := Kd.R_head HR0
  have hil : a1.toNat < t273.length := by omega
  have hjl : a2.toNat < t273.length := by omega
  obtain ⟨ci, hci, hMi, hcci, hfi⟩ := Kd.R_elem HR0 (z31, 0) a1 b0 (by omega)
  obtain ⟨cj, hcj, hMj, hccj, hfj⟩ := Kd.R_elem HR0 (z31, 0) a2 b2 (by omega)
  have hgi : t273.zipIdx.getD a1.toNat (z31, 0) = (rd_T31 t273 a1, a1.toNat) := zip_getD t273 a1.toNat hil
  have hgj : t273.zipIdx.getD a2.toNat (z31, 0) = (rd_T31 t273 a2, a2.toNat) := zip_getD t273 a2.toNat hjl
  rw [hgi] at hMi
  rw [hgj] at hMj
  obtain ⟨vi, rfl, hRi⟩ := k31_openM (show k31.M _ _ _ _ ci from hMi)
  obtain ⟨vj, rfl, hRj⟩ := k31_openM (show k31.M _ _ _ _ cj from hMj)
  have hgp : gb267 ≠ g := fun he => (HR0.1 g (by simp [Value.ownBlock])) he.symm
  have hgq : g ≠ gb267 := fun he => hgp he.symm
  have hi0 : w20.drew.cell? ⟨g, a1.toNat * 2, none⟩ = some (.int .i64 (rd_T31 t273 a1).f0) := hcci 0 _ rfl
  have hi0w : w20.cell? ⟨g, a1.toNat * 2, none⟩ = some (.int .i64 (rd_T31 t273 a1).f0) := hi0
  have hi1 : w20.drew.cell? ⟨g, a1.toNat * 2 + 1, none⟩ = some vi := hcci 1 _ rfl
  have hi1w : w20.cell? ⟨g, a1.toNat * 2 + 1, none⟩ = some vi := hi1
  have hj0 : w20.drew.cell? ⟨g, a2.toNat * 2, none⟩ = some (.int .i64 (rd_T31 t273 a2).f0) := hccj 0 _ rfl
  have hj0w : w20.cell? ⟨g, a2.toNat * 2, none⟩ = some (.int .i64 (rd_T31 t273 a2).f0) := hj0
  have hj1 : w20.drew.cell? ⟨g, a2.toNat * 2 + 1, none⟩ = some vj := hccj 1 _ rfl
  have hj1w : w20.cell? ⟨g, a2.toNat * 2 + 1, none⟩ = some vj := hj1
  have hp0 : w20.drew.cell? ⟨gb267, 0, none⟩ = some (.int .i64 t272) := (blk_cell BK0 0).trans rfl
  have hp0w : w20.cell? ⟨gb267, 0, none⟩ = some (.int .i64 t272) := hp0
  have hp1 : w20.drew.cell? ⟨gb267, 1, none⟩ = some (.slice (some ⟨g, 0, none⟩) t273.length co15) := (blk_cell BK0 1).trans rfl
  have hp1w : w20.cell? ⟨gb267, 1, none⟩ = some (.slice (some ⟨g, 0, none⟩) t273.length co15) := hp1
  have hfi0 : w20.drew.frozen? ⟨g, a1.toNat * 2, none⟩ = false := hfi 0
  have hfi0w : w20.frozen? ⟨g, a1.toNat * 2, none⟩ = false := hfi0
  have hfi1 : w20.drew.frozen? ⟨g, a1.toNat * 2 + 1, none⟩ = false := hfi 1
  have hfi1w : w20.frozen? ⟨g, a1.toNat * 2 + 1, none⟩ = false := hfi1
  have hfj0 : w20.drew.frozen? ⟨g, a2.toNat * 2, none⟩ = false := hfj 0
  have hfj0w : w20.frozen? ⟨g, a2.toNat * 2, none⟩ = false := hfj0
  have hfj1 : w20.drew.frozen? ⟨g, a2.toNat * 2 + 1, none⟩ = false := hfj 1
  have hfj1w : w20.frozen? ⟨g, a2.toNat * 2 + 1, none⟩ = false := hfj1
  have hvi : vi.oneCell' = true := k31.K_one (k31.K_of_M hMi) _ (by simp)
  have hvj : vj.oneCell' = true := k31.K_one (k31.K_of_M hMj) _ (by simp)
  obtain ⟨vA, vc, evi⟩ := Kd.R_slice hRi
  obtain ⟨uA, uc, evj⟩ := Kd.R_slice hRj
  subst evi
  subst evj
  have d0 : decide (0 ≤ a1) = true := decide_eq_true b0
  have d1 : decide (a1 < (t273.length : Int)) = true := decide_eq_true b1
  have d2 : decide (0 ≤ a2) = true := decide_eq_true b2
  have d3 : decide (a2 < (t273.length : Int)) = true := decide_eq_true b3
  clear hci hcj hcci hccj hfi hfj hgi hgj
  have hin : (k31.S 31 w20 w.heap.size (fun _ => True) (.slice (some ⟨g, 0, none⟩) t273.length co15) t273) := ⟨f0, Kd.R_mono HR0 (fun _ _ => trivial)⟩
  by_cases hij : a1 = a2
  · subst hij
    obtain ⟨e1, e2⟩ : vA = uA ∧ vc = uc := by
      have hv := Option.some.inj (hi1.symm.trans hj1)
      injection hv with e1 _ e2
      exact ⟨e1, e2⟩
    subst e1 e2
    clear hj0 hj1 hj0w hj1w hfj0 hfj1 hfj0w hfj1w
    go_region
    have hsw := swap_row HR0 a1 a1 b0 b1 b2 b3 hMi hMj rfl
    generalize ((((w20.setCell ⟨g, a1.toNat * 2, none⟩ (.int .i64 (rd_T31 t273 a1).f0)).setCell ⟨g, a1.toNat * 2 + 1, none⟩ (.slice vA (rd_T31 t273 a1).f1.length vc)).setCell ⟨g, a1.toNat * 2, none⟩ (.int .i64 (rd_T31 t273 a1).f0)).setCell ⟨g, a1.toNat * 2 + 1, none⟩ (.slice vA (rd_T31 t273 a1).f1.length vc)) = w30 at hsw ⊢
    obtain ⟨hS, hG⟩ := hsw
    have hB3 : Below w.heap.size w w30.drew := below_drew1 (HB0.grown hG (below_size HB0) (fun k hk => by injection hk with hk; subst hk; exact Kd.R_base HR0 _ (by simp [Value.ownBlock])))
    have BK3 : w30.drew.heap[gb267]? = some (.cells #[.int .i64 t272, .slice (some ⟨g, 0, none⟩) t273.length co15] 24 (0, 0)) := (hG.block gb267 (blk_lt BK0) (fun he => hgp (by injection he))).trans BK0
    have BK4 : w30.drew.heap[gb268]? = some (.cells #[.int .i64 0, .slice none 0 0] 24 (0, 0)) := (hG.block gb268 (blk_lt BK1) (own_ne HR0 BK1 tag31_ne24)).trans BK1
    have hS3 := Kd.S_drew hS
    rw [List.set_set] at hS3
    generalize w30.drew = w31 at hB3 BK3 BK4 hS3 ⊢
    clear BK0 BK1 HB0 HR0 hMi hMj hRi hRj hS hG hin
    have k0 : w31.cell? ⟨gb267, 0, none⟩ = some (.int .i64 t272) := (blk_cell BK3 0).trans rfl
    have k1 : w31.cell? ⟨gb267, 1, none⟩ = some (.slice (some ⟨g, 0, none⟩) t273.length co15) := (blk_cell BK3 1).trans rfl
    have k2 : w31.cell? ⟨gb268, 0, none⟩ = some (.int .i64 0) := (blk_cell BK4 0).trans rfl
    have k3 : w31.cell? ⟨gb268, 1, none⟩ = some (.slice none 0 0) := (blk_cell BK4 1).trans rfl
    have k4 := blk_frozen BK4 0
    have k5 := blk_frozen BK4 1
    go_wp2
    refine bodyPost_ret (results_ct rfl _ _ gb268 24 #[.int .i64 t272, .slice (some ⟨g, 0, none⟩) t273.length co15] (0, 0) _ rfl (by refine blk_put (cs := #[.int .i64 t272, .slice none 0 0]) ?_ 1 _ rfl; exact blk_put (cs := #[.int .i64 0, .slice none 0 0]) BK4 0 _ rfl) Try.underlying24 rfl (by kernel_rfl)) rfl ?_
    exact ⟨_, rfl, Kd.S_mono (Kd.S_far (p := ⟨gb268, 1, none⟩) (Kd.S_far (p := ⟨gb268, 0, none⟩) (Kd.S_types hS3 BK4 (by decide)) (fun _ hk => hk.2) _) (fun _ hk => hk.2) _) (fun _ _ => trivial), below_set (below_set hB3 GE268.out) GE268.out⟩
  · have q0 : ¬ (a1.toNat * 2 = a2.toNat * 2) := by omega
    have q1 : ¬ (a1.toNat * 2 + 1 = a2.toNat * 2) := by omega
    have q2 : ¬ (a1.toNat * 2 = a2.toNat * 2 + 1) := by omega
    have q3 : ¬ (a1.toNat * 2 + 1 = a2.toNat * 2 + 1) := by omega
    have q4 : ¬ (a1.toNat = a2.toNat) := by omega
    have q5 : ¬ (a2.toNat * 2 = a1.toNat * 2) := by omega
    have q6 : ¬ (a2.toNat * 2 + 1 = a1.toNat * 2) := by omega
    have q7 : ¬ (a2.toNat * 2 = a1.toNat * 2 + 1) := by omega
    have q8 : ¬ (a2.toNat = a1.toNat) := by omega
    go_region
    have hsw := swap_row HR0 a1 a2 b0 b1 b2 b3 hMi hMj rfl
    generalize ((((w20.setCell ⟨g, a1.toNat * 2, none⟩ (.int .i64 (rd_T31 t273 a2).f0)).setCell ⟨g, a1.toNat * 2 + 1, none⟩ (.slice uA (rd_T31 t273 a2).f1.length uc)).setCell ⟨g, a2.toNat * 2, none⟩ (.int .i64 (rd_T31 t273 a1).f0)).setCell ⟨g, a2.toNat * 2 + 1, none⟩ (.slice vA (rd_T31 t273 a1).f1.length vc)) = w30 at hsw ⊢
    obtain ⟨hS, hG⟩ := hsw
    have hB3 : Below w.heap.size w w30.drew := below_drew1 (HB0.grown hG (below_size HB0) (fun k hk => by injection hk with hk; subst hk; exact Kd.R_base HR0 _ (by simp [Value.ownBlock])))
    have BK3 : w30.drew.heap[gb267]? = some (.cells #[.int .i64 t272, .slice (some ⟨g, 0, none⟩) t273.length co15] 24 (0, 0)) := (hG.block gb267 (blk_lt BK0) (fun he => hgp (by injection he))).trans BK0
    have BK4 : w30.drew.heap[gb268]? = some (.cells #[.int .i64 0, .slice none 0 0] 24 (0, 0)) := (hG.block gb268 (blk_lt BK1) (own_ne HR0 BK1 tag31_ne24)).trans BK1
    have hS3 := Kd.S_drew hS
    generalize w30.drew = w31 at hB3 BK3 BK4 hS3 ⊢
    clear BK0 BK1 HB0 HR0 hMi hMj hRi hRj hS hG hin
    have k0 : w31.cell? ⟨gb267, 0, none⟩ = some (.int .i64 t272) := (blk_cell BK3 0).trans rfl
    have k1 : w31.cell? ⟨gb267, 1, none⟩ = some (.slice (some ⟨g, 0, none⟩) t273.length co15) := (blk_cell BK3 1).trans rfl
    have k2 : w31.cell? ⟨gb268, 0, none⟩ = some (.int .i64 0) := (blk_cell BK4 0).trans rfl
    have k3 : w31.cell? ⟨gb268, 1, none⟩ = some (.slice none 0 0) := (blk_cell BK4 1).trans rfl
    have k4 := blk_frozen BK4 0
    have k5 := blk_frozen BK4 1
    go_wp2
    refine bodyPost_ret (results_ct rfl _ _ gb268 24 #[.int .i64 t272, .slice (some ⟨g, 0, none⟩) t273.length co15] (0, 0) _ rfl (by refine blk_put (cs := #[.int .i64 t272, .slice none 0 0]) ?_ 1 _ rfl; exact blk_put (cs := #[.int .i64 0, .slice none 0 0]) BK4 0 _ rfl) Try.underlying24 rfl (by kernel_rfl)) rfl ?_
    exact ⟨_, rfl, Kd.S_mono (Kd.S_far (p := ⟨gb268, 1, none⟩) (Kd.S_far (p := ⟨gb268, 0, none⟩) (Kd.S_types hS3 BK4 (by decide)) (fun _ hk => hk.2) _) (fun _ hk => hk.2) _) (fun _ _ => trivial), below_set (below_set hB3 GE268.out) GE268.out⟩
 ·rw [if_neg c5] at H
  have c5b0 : (t276 == 0) = false := beq_eq_false_iff_ne.mpr c5
  have c5b1 : (t276 != 0) = true := bne_iff_ne.mpr c5
  simp only [Option.some.injEq, Prod.mk.injEq] at H
  obtain ⟨rfl, rfl, rfl⟩ := H
  go_enter Try.func17, Try.ntmps17
  go_wp2_with (first | ((with_reducible refine gate_dst (N := 3) rfl ?_); refine box_event ?hg (N := 3) ?hd (cs := #[.int .i64 a0_0, .slice A0_1 l0_1.length c0_1]) (t := 24) ?hr ?_; (case hd => rfl); (case hg => rfl); (case hr => first | (go_simp; done) | (go_simp; rfl)); intro gb267 hg w17 hbox hb; have n0_ := Aside0.mk (below_step (by repeat (first | (with_reducible first | exact HB.out | apply below_alloc | apply pw_below_drewN | apply below_drew1) | exact HB.out)) hb); have n1_ := Aside0.mk (hbox); have n2_ := Aside0.mk ((by rw [hg]; exact (below_size (by repeat (first | (with_reducible first | exact HB.out | apply below_alloc | apply pw_below_drewN | apply below_drew1) | exact HB.out))) : w.heap.size ≤ gb267)); have n3_ := Aside0.mk ((by rw [hg]; exact (below_size (by repeat (first | (with_reducible first | exact HB.out | apply below_alloc | apply pw_below_drewN | apply below_drew1) | exact HB.out))) : w.heap.size ≤ gb267)); clear HB; have HB := n0_; have BK267 := n1_; have GW267 := n2_; have GE267 := n3_; clear n0_ n1_ n2_ n3_; clear hb hbox hg) | ((with_reducible refine gate_dst (N := 6) rfl ?_); refine box_event ?hg (N := 6) ?hd (cs := #[.int .i64 0, .slice none 0 0]) (t := 24) ?hr ?_; (case hd => rfl); (case hg => rfl); (case hr => first | (go_simp; done) | (go_simp; rfl)); intro gb268 hg w18 hbox hb; have n0_ := Aside0.mk (blk_below (g := gb267) (o := .cells #[.int .i64 a0_0, .slice A0_1 l0_1.length c0_1] 24 (0, 0)) (by (with_reducible repeat (first | refine blk_drewN ?_ _ | refine blk_drew ?_ | refine blk_alloc ?_ _)); exact BK267.out) hb); have n1_ := Aside0.mk (below_step (by repeat (first | (with_reducible first | exact HB.out | apply below_alloc | apply pw_below_drewN | apply below_drew1 | refine below_set ?_ GE267.out) | exact HB.out)) hb); have n2_ := Aside0.mk (hbox); have n3_ := Aside0.mk ((by rw [hg]; exact (below_size (by repeat (first | (with_reducible first | exact HB.out | apply below_alloc | apply pw_below_drewN | apply below_drew1 | refine below_set ?_ GE267.out) | exact HB.out))) : w.heap.size ≤ gb268)); have n4_ := Aside0.mk ((by rw [hg]; exact (below_size (by repeat (first | (with_reducible first | exact HB.out | apply below_alloc | apply pw_below_drewN | apply below_drew1 | refine below_set ?_ GE267.out) | exact HB.out))) : w.heap.size ≤ gb268)); have n5_ := Aside0.mk ((by rw [hg]; exact Nat.ne_of_lt (blk_lt (g := gb267) (o := .cells #[.int .i64 a0_0, .slice A0_1 l0_1.length c0_1] 24 (0, 0)) (by (with_reducible repeat (first | refine blk_drewN ?_ _ | refine blk_drew ?_ | refine blk_alloc ?_ _)); exact BK267.out)) : gb267 ≠ gb268)); have n6_ := Aside0.mk ((by rw [hg]; exact Nat.ne_of_gt (blk_lt (g := gb267) (o := .cells #[.int .i64 a0_0, .slice A0_1 l0_1.length c0_1] 24 (0, 0)) (by (with_reducible repeat (first | refine blk_drewN ?_ _ | refine blk_drew ?_ | refine blk_alloc ?_ _)); exact BK267.out)) : gb268 ≠ gb267)); clear BK267; clear HB; have BK267 := n0_; have HB := n1_; have BK268 := n2_; have GW268 := n3_; have GE268 := n4_; have NB267_268 := n5_; have NB268_267 := n6_; clear n0_ n1_ n2_ n3_ n4_ n5_ n6_; clear hb hbox hg; have hnb19 := NB267_268.out; have hnc19 := NB268_267.out; have hcz20_0 : w18.cell? ⟨gb267, 0, none⟩ = some (.int .i64 a0_0) := (blk_cell BK267.out 0).trans rfl; have hcz20_1 : w18.cell? ⟨gb267, 1, none⟩ = some (.slice A0_1 l0_1.length c0_1) := (blk_cell BK267.out 1).trans rfl; have hfz20_0 := blk_frozen BK267.out 0; have hfz20_1 := blk_frozen BK267.out 1) | ((with_reducible refine gate_dst (N := 13) rfl ?_); refine Kd.R_lit (Kd.int .i64) _ 3 ?hg (N := 13) ?hd (xs := ([a1, a2] : List Int)) (inner := [.int .i64 a1, .int .i64 a2]) (ok := fun _ => True) (okp := fun _ => True) ?hr ?hp (fun _ hk => hk) trivial (Below.refl _ _) (Nat.le_refl _) (by simp) ?_; (case hd => rfl); (case hg => rfl); (case hr => first | (go_simp; done) | (go_simp; rfl)); (case hp => exact (Reps.one (show Kd.M (Kd.int .i64) _ _ _ a1 [.int .i64 a1] from rfl) (Reps.one (show Kd.M (Kd.int .i64) _ _ _ a2 [.int .i64 a2] from rfl) (Reps.none _ _)))); intro v270 w21 ho22 hb hg_ hnew_; clear hg_ hnew_; (first | rw [← Ny269.out] at ho22 | (simp only [Int.reduceToNat] at ho22; rw [← Ny269.out] at ho22)); have n0_ := Aside0.mk (Kd.R_lower ho22 (below_size (by repeat (first | (with_reducible first | exact HB.out | apply below_alloc | apply pw_below_drewN | apply below_drew1 | refine below_set ?_ GE267.out | refine below_set ?_ GE268.out) | exact HB.out)))); have n1_ := Aside0.mk (blk_below (g := gb267) (o := .cells #[.int .i64 a0_0, .slice A0_1 l0_1.length c0_1] 24 (0, 0)) (by (with_reducible repeat (first | refine blk_drewN ?_ _ | refine blk_drew ?_ | refine blk_alloc ?_ _)); exact BK267.out) hb); have n2_ := Aside0.mk (blk_below (g := gb268) (o := .cells #[.int .i64 0, .slice none 0 0] 24 (0, 0)) (by (with_reducible repeat (first | refine blk_drewN ?_ _ | refine blk_drew ?_ | refine blk_alloc ?_ _)); exact BK268.out) hb); have n3_ := Aside0.mk (below_step (by repeat (first | (with_reducible first | exact HB.out | apply below_alloc | apply pw_below_drewN | apply below_drew1 | refine below_set ?_ GE267.out | refine below_set ?_ GE268.out) | exact HB.out)) hb); clear BK267; clear BK268; clear HB; have HO271 := n0_; have BK267 := n1_; have BK268 := n2_; have HB := n3_; clear n0_ n1_ n2_ n3_; clear hb ho22; obtain ⟨Ao23, co23, eo23⟩ := Kd.R_slice HO271.out; subst eo23) | ((with_reducible refine gate_callee (f := 30) rfl ?_); refine goesL_ (some 14) rfl rfl Try.func30 (by kernel_rfl) rfl #[.agg #[.int .i64 a0_0, .slice A0_1 l0_1.length c0_1], .slice Ao23 y269.length co23] rfl (by (try simp only [List.map_toArray, List.map_cons, List.map_nil]); first | done | rfl | (simp only [List.length_drop, List.length_take]; rfl)) ?_; (with_reducible refine (pool_at.calls k a0_0 _ _ l0_1 _ _ y269 t272 t273 t276 _ ?side1 ?side2 ?side3 ?side4 A4.out).mono ?_); (case side1 => repeat (first | exact (Kd.C_below HR0_1.out HB.out) | (with_reducible refine Kd.C_alloc ?_ _) | (with_reducible refine Kd.C_drewN ?_ _) | (with_reducible refine Kd.C_drew ?_))); (case side2 => exact HC0_1.out); (case side3 => repeat (first | exact (Kd.R_reads' HO271.out).2.2 | (with_reducible refine Kd.C_alloc ?_ _) | (with_reducible refine Kd.C_drewN ?_ _) | (with_reducible refine Kd.C_drew ?_))); (case side4 => exact (Kd.R_reads' HO271.out).2.1); rintro e w24 ⟨v274, rfl, ho0, hb⟩; refine ⟨_, rfl, ?_⟩; have n0_ := Aside0.mk (Kd.R_below (by (with_reducible repeat (first | apply Kd.R_alloc | apply Kd.R_drewN | apply Kd.R_drew)); exact HO271.out) hb); have n1_ := Aside0.mk (Kd.S_lower ho0 (below_size (by repeat (first | (with_reducible first | exact HB.out | apply below_alloc | apply pw_below_drewN | apply below_drew1 | refine below_set ?_ GE267.out | refine below_set ?_ GE268.out) | exact HB.out)))); have n2_ := Aside0.mk (blk_below (g := gb267) (o := .cells #[.int .i64 a0_0, .slice A0_1 l0_1.length c0_1] 24 (0, 0)) (by (with_reducible repeat (first | refine blk_drewN ?_ _ | refine blk_drew ?_ | refine blk_alloc ?_ _)); exact BK267.out) hb); have n3_ := Aside0.mk (blk_below (g := gb268) (o := .cells #[.int .i64 0, .slice none 0 0] 24 (0, 0)) (by (with_reducible repeat (first | refine blk_drewN ?_ _ | refine blk_drew ?_ | refine blk_alloc ?_ _)); exact BK268.out) hb); have n4_ := Aside0.mk (below_step (by repeat (first | (with_reducible first | exact HB.out | apply below_alloc | apply pw_below_drewN | apply below_drew1 | refine below_set ?_ GE267.out | refine below_set ?_ GE268.out) | exact HB.out)) hb); clear HO271; clear BK267; clear BK268; clear HB; have HO271 := n0_; have HO275 := n1_; have BK267 := n2_; have BK268 := n3_; have HB := n4_; clear n0_ n1_ n2_ n3_ n4_; (try clear hb); (try clear hb2); (try clear hk); (try clear hi); (try clear ho0); have hcz25_0 : w24.cell? ⟨gb267, 0, none⟩ = some (.int .i64 a0_0) := (blk_cell BK267.out 0).trans rfl; have hcz25_1 : w24.cell? ⟨gb267, 1, none⟩ = some (.slice A0_1 l0_1.length c0_1) := (blk_cell BK267.out 1).trans rfl; have hfz25_0 := blk_frozen BK267.out 0; have hfz25_1 := blk_frozen BK267.out 1; obtain ⟨Ao26, co26, eo26⟩ := Kd.S_slice HO275.out; subst eo26; have hcz27_0 : w24.cell? ⟨gb268, 0, none⟩ = some (.int .i64 0) := (blk_cell BK268.out 0).trans rfl; have hcz27_1 : w24.cell? ⟨gb268, 1, none⟩ = some (.slice none 0 0) := (blk_cell BK268.out 1).trans rfl; have hfz27_0 := blk_frozen BK268.out 0; have hfz27_1 := blk_frozen BK268.out 1))
  refine bodyPost_ret (results_ct rfl _ _ gb268 24 #[.int .i64 t272, .slice Ao26 t273.length co26] (0, 0) _ rfl (by (with_reducible repeat (first | refine blk_drewN ?_ _ | refine blk_drew ?_ | refine blk_alloc ?_ _)); refine blk_put (cs := #[.int .i64 t272, .slice none 0 0]) ?_ 1 _ rfl; (with_reducible repeat (first | refine blk_drewN ?_ _ | refine blk_drew ?_ | refine blk_alloc ?_ _)); refine blk_put (cs := #[.int .i64 0, .slice none 0 0]) ?_ 0 _ rfl; (with_reducible repeat (first | refine blk_drewN ?_ _ | refine blk_drew ?_ | refine blk_alloc ?_ _)); refine blk_far ?_ NB268_267.out _; (with_reducible repeat (first | refine blk_drewN ?_ _ | refine blk_drew ?_ | refine blk_alloc ?_ _)); refine blk_far ?_ NB268_267.out _; (with_reducible repeat (first | refine blk_drewN ?_ _ | refine blk_drew ?_ | refine blk_alloc ?_ _)); exact BK268.out) Try.underlying24 rfl (by kernel_rfl)) rfl ?_
  exact ⟨_, by first | rfl | (simp [errW_none, errW_some] <;> rfl) | (simp [*, errW_none, errW_some] <;> rfl), by (with_reducible repeat (first | apply Kd.S_alloc | apply Kd.S_drewN | apply Kd.S_drew)); exact Kd.S_mono (Kd.S_far (p := ⟨gb268, 1, none⟩) (Kd.S_far (p := ⟨gb268, 0, none⟩) (Kd.S_far (p := ⟨gb267, 1, none⟩) (Kd.S_far (p := ⟨gb267, 0, none⟩) (Kd.S_types (Kd.S_types HO275.out BK267.out (by decide)) BK268.out (by decide)) (fun _ hk => hk.1.2) (.int .i64 t272)) (fun _ hk => hk.1.2) (.slice Ao26 t273.length co26)) (fun _ hk => hk.2) (.int .i64 t272)) (fun _ hk => hk.2) (.slice Ao26 t273.length co26)) (fun _ hk => trivial), by repeat (first | (with_reducible first | exact HB.out | apply below_alloc | apply pw_below_drewN | apply below_drew1 | refine below_set ?_ GE267.out | refine below_set ?_ GE268.out) | exact HB.out)⟩

end Go.Proofs.Yteleojddlaflnaa.PA
