-- Written for this claim by this session's own printer (wip/patch_print.py over the kit's print).
import Derived.Test.YtkgcjiaadgnlkaaBBd
namespace Go.Proofs.Ytkgcjiaadgnlkaa.PA
open Go.Proofs.YtkgcjiaadgnlkaaW.PrintWords.Kd (C_alloc C_drew C_drewN N_alloc N_base N_below N_drew N_drewN N_elder' N_elderB N_lit N_lower N_nil N_reads' N_slice Q_nil R_F R_apart' R_append R_append_rows_step R_away R_base R_below R_drew R_elder' R_elderB R_far R_lower R_lt R_mono R_ne R_new' R_newM R_nil R_over' R_reads' R_slice R_typed R_types S_base S_nil V_F V_afterv V_apart_nil V_below V_drew V_elder' V_elderB V_far V_mono V_nil V_reads')
open Go.RowKit Go.Proofs.YtkgcjiaadgnlkaaW.PrintWords Go.Proofs.YtkgcjiaadgnlkaaW.PrintLast Go.Proofs.YtkgcjiaadgnlkaaW.PrintMore
attribute [local go_sem] max2_int min2_int max_two min_two max_three min_three max_four min_four   -- for this text's walks alone
set_option linter.unusedVariables false
set_option linter.unusedSimpArgs false

set_option maxHeartbeats 8000000 in
set_option maxRecDepth 100000 in
theorem sBB.calls (k : Nat) (P0_0_ : Nat → Prop) (A0_0 : Option Addr) (c0_0 : Nat) (l0_0 : List Int) (a0_1 : Int) (A1 : Option Addr) (c1 : Nat) (l1 : List (S52)) (P2_0_ : Nat → Prop) (A2_0 : Option Addr) (c2_0 : Nat) (l2_0 : List Int) (a2_1 : Int) (r : Bool) (w : World) (hs0_0 : Kd.V (Kd.int .u8) 5 w w.heap.size (fun k_ => P0_0_ k_) (.slice A0_0 l0_0.length c0_0) l0_0) (hr1 : Kd.C k52 w A1 l1.length l1) (hc1 : l1.length ≤ c1) (hs2_0 : Kd.V (Kd.int .u8) 5 w w.heap.size (fun k_ => P2_0_ k_) (.slice A2_0 l2_0.length c2_0) l2_0) (h : sBB.f k l0_0 a0_1 l1 l2_0 a2_1 = some r) (hr_ : r = true) :
  Calls Try.prog 8 #[.agg #[.slice A0_0 l0_0.length c0_0, .int .i64 a0_1], .slice A1 l1.length c1, .agg #[.slice A2_0 l2_0.length c2_0, .int .i64 a2_1]] w fun e w' => e = .returned (.bool r) ∧ Below w.heap.size w w' := by
 have HR_ := aM hr_
 clear hr_
 have hu24 := Try.underlying24
 have hu52 := Try.underlying52
 have HO0_0 := aM (show Kd.V (Kd.int .u8) 5 w w.heap.size (fun k_ => ((P0_0_ k_ ∨ P2_0_ k_) ∨ w.heap.size ≤ k_)) (.slice A0_0 l0_0.length c0_0) l0_0 from V_mono hs0_0 (fun k_ hk => .inl (.inl hk)))
 have HR1 := aM hr1
 have HC1 := aM hc1
 clear hr1 hc1
 have HO2_0 := aM (show Kd.V (Kd.int .u8) 5 w w.heap.size (fun k_ => ((P0_0_ k_ ∨ P2_0_ k_) ∨ w.heap.size ≤ k_)) (.slice A2_0 l2_0.length c2_0) l2_0 from V_mono hs2_0 (fun k_ hk => .inl (.inr hk)))
 have HB := aM (Below.refl w.heap.size w)
 have H : ((squelchlaw01_live.f k).bind fun t443 => ((squelchlaw01_few.f k (([(⟨l0_0, a0_1⟩ : S24), (⟨l2_0, a2_1⟩ : S24)] : List (S24)))).bind fun t447 => (if t447 = true then (if (l1.length : Int) > 100 then (sBB.j0 k l1 t443 true l0_0 a0_1 l2_0 a2_1) else ((bits_Check.f k l0_0 a0_1).bind fun t448 => (if t448 = 0 then ((bits_Check.f k l2_0 a2_1).bind fun t449 => (sBB.j0 k l1 t443 (t449 != 0) l0_0 a0_1 l2_0 a2_1)) else (sBB.j0 k l1 t443 true l0_0 a0_1 l2_0 a2_1)))) else (sBB.j0 k l1 t443 true l0_0 a0_1 l2_0 a2_1)))) = some r := h
 clear h
 replace H := Option.bind_eq_some_iff.mp H
 obtain ⟨t443, A40, H⟩ := H
 replace H : ((squelchlaw01_few.f k (([(⟨l0_0, a0_1⟩ : S24), (⟨l2_0, a2_1⟩ : S24)] : List (S24)))).bind fun t447 => (if t447 = true then (if (l1.length : Int) > 100 then (sBB.j0 k l1 t443 true l0_0 a0_1 l2_0 a2_1) else ((bits_Check.f k l0_0 a0_1).bind fun t448 => (if t448 = 0 then ((bits_Check.f k l2_0 a2_1).bind fun t449 => (sBB.j0 k l1 t443 (t449 != 0) l0_0 a0_1 l2_0 a2_1)) else (sBB.j0 k l1 t443 true l0_0 a0_1 l2_0 a2_1)))) else (sBB.j0 k l1 t443 true l0_0 a0_1 l2_0 a2_1))) = some r := H
 have A4 := aM A40
 clear A40
 have HC5 := aM H
 clear H
 go_enter Try.func8, Try.ntmps8
 go_upto_region 2 with (first | ((with_reducible refine gate_dst (N := 3) rfl ?_); (try (refine gate_guard (by rfl) ?_; dsimp only)); refine box_event ?hg (N := 3) ?hd (cs := #[.slice A0_0 l0_0.length c0_0, .int .i64 a0_1]) (t := 24) ?hr ?_; (case hd => rfl); (case hg => rfl); (case hr => first | (go_simp; done) | (go_simp; rfl)); intro gb441 hg w6 hbox hb; have n0_ := aM (V_below (V_elderB (by (with_reducible repeat (first | apply vA | apply vN | apply vD)); exact HO0_0.out) gb441 (Nat.le_of_eq hg.symm)) hb); have n1_ := aM (V_below (V_elderB (by (with_reducible repeat (first | apply vA | apply vN | apply vD)); exact HO2_0.out) gb441 (Nat.le_of_eq hg.symm)) hb); have n2_ := aM (below_step (by repeat (first | (with_reducible first | exact HB.out | apply bA | apply bN | apply bD) | exact HB.out)) hb); have n3_ := aM (hbox); have n4_ := aM ((by rw [hg]; exact (below_size (by repeat (first | (with_reducible first | exact HB.out | apply bA | apply bN | apply bD) | exact HB.out))) : w.heap.size ≤ gb441)); have n5_ := aM ((by rw [hg]; exact (below_size (by repeat (first | (with_reducible first | exact HB.out | apply bA | apply bN | apply bD) | exact HB.out))) : w.heap.size ≤ gb441)); clear HO0_0; clear HO2_0; clear HB; have HO0_0 := n0_; have HO2_0 := n1_; have HB := n2_; have BK441 := n3_; have GW441 := n4_; have GE441 := n5_; clear n0_ n1_ n2_ n3_ n4_ n5_; clear hb hbox hg) | ((with_reducible refine gate_dst (N := 5) rfl ?_); (try (refine gate_guard (by rfl) ?_; dsimp only)); refine box_event ?hg (N := 5) ?hd (cs := #[.slice A2_0 l2_0.length c2_0, .int .i64 a2_1]) (t := 24) ?hr ?_; (case hd => rfl); (case hg => rfl); (case hr => first | (go_simp; done) | (go_simp; rfl)); intro gb442 hg w7 hbox hb; have n0_ := aM (V_below (V_elderB (by (with_reducible repeat (first | apply vA | apply vN | apply vD)); exact HO0_0.out) gb442 (Nat.le_of_eq hg.symm)) hb); have n1_ := aM (V_below (V_elderB (by (with_reducible repeat (first | apply vA | apply vN | apply vD)); exact HO2_0.out) gb442 (Nat.le_of_eq hg.symm)) hb); have n2_ := aM (blk_below (g := gb441) (o := .cells #[.slice A0_0 l0_0.length c0_0, .int .i64 a0_1] 24 (0, 0)) (by (with_reducible repeat (first | refine kN ?_ _ | refine kD ?_ | refine kA ?_ _)); exact BK441.out) hb); have n3_ := aM (below_step (by repeat (first | (with_reducible first | exact HB.out | apply bA | apply bN | apply bD | refine bS ?_ GE441.out) | exact HB.out)) hb); have n4_ := aM (hbox); have n5_ := aM ((by rw [hg]; exact (below_size (by repeat (first | (with_reducible first | exact HB.out | apply bA | apply bN | apply bD | refine bS ?_ GE441.out) | exact HB.out))) : w.heap.size ≤ gb442)); have n6_ := aM ((by rw [hg]; exact (below_size (by repeat (first | (with_reducible first | exact HB.out | apply bA | apply bN | apply bD | refine bS ?_ GE441.out) | exact HB.out))) : w.heap.size ≤ gb442)); have n7_ := aM ((by rw [hg]; exact Nat.ne_of_lt (blk_lt (g := gb441) (o := .cells #[.slice A0_0 l0_0.length c0_0, .int .i64 a0_1] 24 (0, 0)) (by (with_reducible repeat (first | refine kN ?_ _ | refine kD ?_ | refine kA ?_ _)); exact BK441.out)) : gb441 ≠ gb442)); have n8_ := aM ((by rw [hg]; exact Nat.ne_of_gt (blk_lt (g := gb441) (o := .cells #[.slice A0_0 l0_0.length c0_0, .int .i64 a0_1] 24 (0, 0)) (by (with_reducible repeat (first | refine kN ?_ _ | refine kD ?_ | refine kA ?_ _)); exact BK441.out)) : gb442 ≠ gb441)); clear HO0_0; clear HO2_0; clear BK441; clear HB; have HO0_0 := n0_; have HO2_0 := n1_; have BK441 := n2_; have HB := n3_; have BK442 := n4_; have GW442 := n5_; have GE442 := n6_; have NB441_442 := n7_; have NB442_441 := n8_; clear n0_ n1_ n2_ n3_ n4_ n5_ n6_ n7_ n8_; clear hb hbox hg) | ((with_reducible refine gate_callee (f := 9) rfl ?_); refine goesL_ (some 28) rfl rfl Try.func9 (by kernel_rfl) rfl #[] rfl (by (try simp only [List.map_toArray, List.map_cons, List.map_nil]); first | done | rfl | (simp only [List.length_drop, List.length_take]; rfl)) ?_; (with_reducible refine (squelchlaw01_live.calls k  t443 _ A4.out).mono ?_); rintro e w8 ⟨rfl, hb⟩; refine ⟨_, rfl, ?_⟩; have n0_ := aM (V_below (by (with_reducible repeat (first | apply vA | apply vN | apply vD)); exact HO0_0.out) hb); have n1_ := aM (V_below (by (with_reducible repeat (first | apply vA | apply vN | apply vD)); exact HO2_0.out) hb); have n2_ := aM (blk_below (g := gb441) (o := .cells #[.slice A0_0 l0_0.length c0_0, .int .i64 a0_1] 24 (0, 0)) (by (with_reducible repeat (first | refine kN ?_ _ | refine kD ?_ | refine kA ?_ _)); exact BK441.out) hb); have n3_ := aM (blk_below (g := gb442) (o := .cells #[.slice A2_0 l2_0.length c2_0, .int .i64 a2_1] 24 (0, 0)) (by (with_reducible repeat (first | refine kN ?_ _ | refine kD ?_ | refine kA ?_ _)); exact BK442.out) hb); have n4_ := aM (below_step (by repeat (first | (with_reducible first | exact HB.out | apply bA | apply bN | apply bD | refine bS ?_ GE441.out | refine bS ?_ GE442.out) | exact HB.out)) hb); clear HO0_0; clear HO2_0; clear BK441; clear BK442; clear HB; have HO0_0 := n0_; have HO2_0 := n1_; have BK441 := n2_; have BK442 := n3_; have HB := n4_; clear n0_ n1_ n2_ n3_ n4_; (try clear hb); (try clear hb2); (try clear hk); (try clear hi)))
 (try simp only [Act.put, sA, sZ, sS])
 go_cut [48] (fun v48 wc => ∃ (kq : Nat) (x48_4 : Bool), v48 = .bool x48_4 ∧ Aside0 (sBB.j0 kq l1 t443 x48_4 l0_0 a0_1 l2_0 a2_1 = some r) ∧ Aside0 (kq ≤ k) ∧ Aside0 (Kd.V (Kd.int .u8) 5 wc w.heap.size (fun k_ => ((P0_0_ k_ ∨ P2_0_ k_) ∨ w.heap.size ≤ k_) ∧ k_ ≠ gb441 ∧ k_ ≠ gb442) (.slice A0_0 l0_0.length c0_0) l0_0) ∧ Aside0 (Kd.V (Kd.int .u8) 5 wc w.heap.size (fun k_ => ((P0_0_ k_ ∨ P2_0_ k_) ∨ w.heap.size ≤ k_) ∧ k_ ≠ gb441 ∧ k_ ≠ gb442) (.slice A2_0 l2_0.length c2_0) l2_0) ∧ Aside0 (wc.heap[gb441]? = some (.cells #[(.slice A0_0 l0_0.length c0_0), .int .i64 a0_1] 24 (0, 0))) ∧ Aside0 (wc.heap[gb442]? = some (.cells #[(.slice A2_0 l2_0.length c2_0), .int .i64 a2_1] 24 (0, 0))) ∧ Aside0 (Below w.heap.size w wc))
 case first =>
  have H := HC5.out
  clear HC5
  obtain ⟨y444, hy444⟩ : ∃ y_ : List (S24), y_ = (([(⟨l0_0, a0_1⟩ : S24), (⟨l2_0, a2_1⟩ : S24)] : List (S24))) := ⟨_, rfl⟩
  replace H : ((squelchlaw01_few.f k y444).bind fun t447 => (if t447 = true then (if (l1.length : Int) > 100 then (sBB.j0 k l1 t443 true l0_0 a0_1 l2_0 a2_1) else ((bits_Check.f k l0_0 a0_1).bind fun t448 => (if t448 = 0 then ((bits_Check.f k l2_0 a2_1).bind fun t449 => (sBB.j0 k l1 t443 (t449 != 0) l0_0 a0_1 l2_0 a2_1)) else (sBB.j0 k l1 t443 true l0_0 a0_1 l2_0 a2_1)))) else (sBB.j0 k l1 t443 true l0_0 a0_1 l2_0 a2_1))) = some r := by first | (rw [hy444]; with_reducible exact H) | (have H2_ := (Option.bind_some _ _).symm.trans H; rw [hy444]; with_reducible exact H2_) | (have H2_ := (Option.bind_some _ _).symm.trans H; with_reducible exact H2_) | with_reducible exact H | (rw [hy444]; exact H) | exact H
  have Ny444 := aM hy444
  clear hy444
  replace H := Option.bind_eq_some_iff.mp H
  obtain ⟨t447, A90, H⟩ := H
  replace H : (if t447 = true then (if (l1.length : Int) > 100 then (sBB.j0 k l1 t443 true l0_0 a0_1 l2_0 a2_1) else ((bits_Check.f k l0_0 a0_1).bind fun t448 => (if t448 = 0 then ((bits_Check.f k l2_0 a2_1).bind fun t449 => (sBB.j0 k l1 t443 (t449 != 0) l0_0 a0_1 l2_0 a2_1)) else (sBB.j0 k l1 t443 true l0_0 a0_1 l2_0 a2_1)))) else (sBB.j0 k l1 t443 true l0_0 a0_1 l2_0 a2_1)) = some r := H
  have A9 := aM A90
  clear A90
  by_cases c10 : t447 = true
  ·subst c10
   have H1 : (if (l1.length : Int) > 100 then (sBB.j0 k l1 t443 true l0_0 a0_1 l2_0 a2_1) else ((bits_Check.f k l0_0 a0_1).bind fun t448 => (if t448 = 0 then ((bits_Check.f k l2_0 a2_1).bind fun t449 => (sBB.j0 k l1 t443 (t449 != 0) l0_0 a0_1 l2_0 a2_1)) else (sBB.j0 k l1 t443 true l0_0 a0_1 l2_0 a2_1)))) = some r := by rw [if_pos rfl] at H; exact H
   clear H
   have H := H1
   clear H1
   by_cases c11 : (l1.length : Int) > 100
   ·rw [if_pos c11] at H
    have c11b0 : decide (100 < (l1.length : Int)) = true := decide_eq_true c11
    have c11b1 : decide (100 < l1.length) = true := decide_eq_true (by omega)
    clear c11
    (first | rw [c11b0] | (simp only [i64_w, i32_w]; rw [c11b0]) | skip)
    have H' := aM H
    clear H
    have hnb12 := NB441_442.out
    have hnc12 := NB442_441.out
    have hcz13_0 : w8.cell? ⟨gb441, 0, none⟩ = some (.slice A0_0 l0_0.length c0_0) := (blk_cell BK441.out 0).trans rfl
    have hcz13_1 : w8.cell? ⟨gb441, 1, none⟩ = some (.int .i64 a0_1) := (blk_cell BK441.out 1).trans rfl
    have hfz13_0 := blk_frozen BK441.out 0
    have hfz13_1 := blk_frozen BK441.out 1
    have hcz14_0 : w8.cell? ⟨gb442, 0, none⟩ = some (.slice A2_0 l2_0.length c2_0) := (blk_cell BK442.out 0).trans rfl
    have hcz14_1 : w8.cell? ⟨gb442, 1, none⟩ = some (.int .i64 a2_1) := (blk_cell BK442.out 1).trans rfl
    have hfz14_0 := blk_frozen BK442.out 0
    have hfz14_1 := blk_frozen BK442.out 1
    go_wp2_with (first | ((with_reducible refine gate_dst (N := 31) rfl ?_); (try (refine gate_guard (by rfl) ?_; dsimp only)); refine N_lit k24 _ 24 ?hg (N' := 31) ?hd (xs := ([(⟨l0_0, a0_1⟩ : S24), (⟨l2_0, a2_1⟩ : S24)] : List (S24))) (inner := [.slice A0_0 l0_0.length c0_0, .int .i64 a0_1, .slice A2_0 l2_0.length c2_0, .int .i64 a2_1]) (ok := (fun k_ => ((P0_0_ k_ ∨ P2_0_ k_) ∨ w.heap.size ≤ k_) ∧ k_ ≠ gb441 ∧ k_ ≠ gb442)) (okp := (fun k_ => ((P0_0_ k_ ∨ P2_0_ k_) ∨ w.heap.size ≤ k_) ∧ k_ ≠ gb441 ∧ k_ ≠ gb442)) ?hr ?hp (fun _ hk => hk) ((show ∀ k_, w8.heap.size ≤ k_ → (fun k_ => ((P0_0_ k_ ∨ P2_0_ k_) ∨ w.heap.size ≤ k_) ∧ k_ ≠ gb441 ∧ k_ ≠ gb442) k_ from fun k_ hk => ⟨(.inr (Nat.le_trans (below_size (by repeat (first | (with_reducible first | exact HB.out | apply bA | apply bN | apply bD | refine bS ?_ GE441.out | refine bS ?_ GE442.out) | exact HB.out))) hk)), Kd.freshB (g := gb441) (o := .cells #[.slice A0_0 l0_0.length c0_0, .int .i64 a0_1] 24 (0, 0)) (by (with_reducible repeat (first | refine kN ?_ _ | refine kD ?_ | refine kA ?_ _)); exact BK441.out) k_ hk, Kd.freshB (g := gb442) (o := .cells #[.slice A2_0 l2_0.length c2_0, .int .i64 a2_1] 24 (0, 0)) (by (with_reducible repeat (first | refine kN ?_ _ | refine kD ?_ | refine kA ?_ _)); exact BK442.out) k_ hk⟩) _ (Nat.le_refl _)) (Below.refl _ _) (Nat.le_refl _) (by simp) ?_; (case hd => rfl); (case hg => rfl); (case hr => first | (go_simp; done) | (go_simp; rfl)); (case hp => exact (Reps.c2 (show Kd.FK k24 _ _ (⟨l0_0, a0_1⟩ : S24) [.slice A0_0 l0_0.length c0_0, .int .i64 a0_1] from (k24_mkF _ _ (⟨l0_0, a0_1⟩ : S24) (V_reads' (V_mono (ok' := (fun k_ => ((P0_0_ k_ ∨ P2_0_ k_) ∨ w.heap.size ≤ k_) ∧ k_ ≠ gb441 ∧ k_ ≠ gb442)) (HO0_0.out) (fun k_ hk => ⟨hk.1.1, ⟨hk.1.2, hk.2⟩⟩))).2.1 (V_F (V_mono (ok' := (fun k_ => ((P0_0_ k_ ∨ P2_0_ k_) ∨ w.heap.size ≤ k_) ∧ k_ ≠ gb441 ∧ k_ ≠ gb442)) (HO0_0.out) (fun k_ hk => ⟨hk.1.1, ⟨hk.1.2, hk.2⟩⟩))))) (Reps.c2 (show Kd.FK k24 _ _ (⟨l2_0, a2_1⟩ : S24) [.slice A2_0 l2_0.length c2_0, .int .i64 a2_1] from (k24_mkF _ _ (⟨l2_0, a2_1⟩ : S24) (V_reads' (V_mono (ok' := (fun k_ => ((P0_0_ k_ ∨ P2_0_ k_) ∨ w.heap.size ≤ k_) ∧ k_ ≠ gb441 ∧ k_ ≠ gb442)) (HO2_0.out) (fun k_ hk => ⟨hk.1.1, ⟨hk.1.2, hk.2⟩⟩))).2.1 (V_F (V_mono (ok' := (fun k_ => ((P0_0_ k_ ∨ P2_0_ k_) ∨ w.heap.size ≤ k_) ∧ k_ ≠ gb441 ∧ k_ ≠ gb442)) (HO2_0.out) (fun k_ hk => ⟨hk.1.1, ⟨hk.1.2, hk.2⟩⟩))))) (Reps.none _ _)))); intro v445 w15 ho16 hb hg_ hnew_; clear hg_ hnew_; (first | rw [← Ny444.out] at ho16 | (simp only [Int.reduceToNat] at ho16; rw [← Ny444.out] at ho16)); have n0_ := aM (V_elder' (by (with_reducible repeat (first | apply vA | apply vN | apply vD)); exact HO0_0.out) (by first | exact N_base ho16 | exact S_base ho16) hb); have n1_ := aM (V_elder' (by (with_reducible repeat (first | apply vA | apply vN | apply vD)); exact HO2_0.out) (by first | exact N_base ho16 | exact S_base ho16) hb); have n2_ := aM (N_lower ho16 (below_size (by repeat (first | (with_reducible first | exact HB.out | apply bA | apply bN | apply bD | refine bS ?_ GE441.out | refine bS ?_ GE442.out) | exact HB.out)))); have n3_ := aM (blk_below (g := gb441) (o := .cells #[.slice A0_0 l0_0.length c0_0, .int .i64 a0_1] 24 (0, 0)) (by (with_reducible repeat (first | refine kN ?_ _ | refine kD ?_ | refine kA ?_ _)); exact BK441.out) hb); have n4_ := aM (blk_below (g := gb442) (o := .cells #[.slice A2_0 l2_0.length c2_0, .int .i64 a2_1] 24 (0, 0)) (by (with_reducible repeat (first | refine kN ?_ _ | refine kD ?_ | refine kA ?_ _)); exact BK442.out) hb); have n5_ := aM (below_step (by repeat (first | (with_reducible first | exact HB.out | apply bA | apply bN | apply bD | refine bS ?_ GE441.out | refine bS ?_ GE442.out) | exact HB.out)) hb); clear HO0_0; clear HO2_0; clear BK441; clear BK442; clear HB; have HO0_0 := n0_; have HO2_0 := n1_; have HO446 := n2_; have BK441 := n3_; have BK442 := n4_; have HB := n5_; clear n0_ n1_ n2_ n3_ n4_ n5_; clear hb ho16; obtain ⟨Ao17, co17, eo17⟩ := N_slice HO446.out; subst eo17) | ((with_reducible refine gate_callee (f := 10) rfl ?_); refine goesL_ (some 32) rfl rfl Try.func10 (by kernel_rfl) rfl #[.slice Ao17 y444.length co17] rfl (by (try simp only [List.map_toArray, List.map_cons, List.map_nil]); first | done | rfl | (simp only [List.length_drop, List.length_take]; rfl)) ?_; (with_reducible refine (squelchlaw01_few.calls k _ _ y444 true _ ?side1 ?side2 A9.out).mono ?_); (case side1 => repeat (first | exact (N_reads' HO446.out).2.2 | (with_reducible refine C_alloc ?_ _) | (with_reducible refine C_drewN ?_ _) | (with_reducible refine C_drew ?_))); (case side2 => exact (N_reads' HO446.out).2.1); rintro e w18 ⟨rfl, hb⟩; refine ⟨_, rfl, ?_⟩; have n0_ := aM (V_below (by (with_reducible repeat (first | apply vA | apply vN | apply vD)); exact HO0_0.out) hb); have n1_ := aM (V_below (by (with_reducible repeat (first | apply vA | apply vN | apply vD)); exact HO2_0.out) hb); have n2_ := aM (N_below (by (with_reducible repeat (first | apply N_alloc | apply N_drewN | apply N_drew)); exact HO446.out) hb); have n3_ := aM (blk_below (g := gb441) (o := .cells #[.slice A0_0 l0_0.length c0_0, .int .i64 a0_1] 24 (0, 0)) (by (with_reducible repeat (first | refine kN ?_ _ | refine kD ?_ | refine kA ?_ _)); exact BK441.out) hb); have n4_ := aM (blk_below (g := gb442) (o := .cells #[.slice A2_0 l2_0.length c2_0, .int .i64 a2_1] 24 (0, 0)) (by (with_reducible repeat (first | refine kN ?_ _ | refine kD ?_ | refine kA ?_ _)); exact BK442.out) hb); have n5_ := aM (below_step (by repeat (first | (with_reducible first | exact HB.out | apply bA | apply bN | apply bD | refine bS ?_ GE441.out | refine bS ?_ GE442.out) | exact HB.out)) hb); clear HO0_0; clear HO2_0; clear HO446; clear BK441; clear BK442; clear HB; have HO0_0 := n0_; have HO2_0 := n1_; have HO446 := n2_; have BK441 := n3_; have BK442 := n4_; have HB := n5_; clear n0_ n1_ n2_ n3_ n4_ n5_; (try clear hb); (try clear hb2); (try clear hk); (try clear hi)))
    go_meet
    case rel => exact ⟨_, (true), (by first | rfl | (simp; done) | (simp [*]; done)), H', ⟨by first | omega | exact Nat.le_refl _⟩, ⟨by (with_reducible repeat (first | apply vA | apply vN | apply vD)); exact V_mono HO0_0.out (fun _ hk => ⟨hk.1.1.1, ⟨hk.1.1.2, hk.1.2⟩⟩)⟩, ⟨by (with_reducible repeat (first | apply vA | apply vN | apply vD)); exact V_mono HO2_0.out (fun _ hk => ⟨hk.1.1.1, ⟨hk.1.1.2, hk.1.2⟩⟩)⟩, ⟨by (with_reducible repeat (first | refine kN ?_ _ | refine kD ?_ | refine kA ?_ _)); exact BK441.out⟩, ⟨by (with_reducible repeat (first | refine kN ?_ _ | refine kD ?_ | refine kA ?_ _)); exact BK442.out⟩, ⟨by repeat (first | (with_reducible first | exact HB.out | apply bA | apply bN | apply bD | refine bS ?_ GE441.out | refine bS ?_ GE442.out) | exact HB.out)⟩⟩
   ·rw [if_neg c11] at H
    have c11b0 : decide (100 < (l1.length : Int)) = false := decide_eq_false c11
    have c11b1 : decide (100 < l1.length) = false := decide_eq_false (by omega)
    clear c11
    (first | rw [c11b0] | (simp only [i64_w, i32_w]; rw [c11b0]) | skip)
    replace H := Option.bind_eq_some_iff.mp H
    obtain ⟨t448, A190, H⟩ := H
    replace H : (if t448 = 0 then ((bits_Check.f k l2_0 a2_1).bind fun t449 => (sBB.j0 k l1 t443 (t449 != 0) l0_0 a0_1 l2_0 a2_1)) else (sBB.j0 k l1 t443 true l0_0 a0_1 l2_0 a2_1)) = some r := H
    have A19 := aM A190
    clear A190
    by_cases c20 : t448 = 0
    ·rw [if_pos c20] at H
     have c20b0 : (t448 == 0) = true := beq_iff_eq.mpr c20
     have c20b1 : (t448 != 0) = false := bne_eq_false_iff_eq.mpr c20
     clear c20
     replace H := Option.bind_eq_some_iff.mp H
     obtain ⟨t449, A210, H⟩ := H
     replace H : (sBB.j0 k l1 t443 (t449 != 0) l0_0 a0_1 l2_0 a2_1) = some r := H
     have A21 := aM A210
     clear A210
     have H' := aM H
     clear H
     have hnb22 := NB441_442.out
     have hnc22 := NB442_441.out
     have hcz23_0 : w8.cell? ⟨gb441, 0, none⟩ = some (.slice A0_0 l0_0.length c0_0) := (blk_cell BK441.out 0).trans rfl
     have hcz23_1 : w8.cell? ⟨gb441, 1, none⟩ = some (.int .i64 a0_1) := (blk_cell BK441.out 1).trans rfl
     have hfz23_0 := blk_frozen BK441.out 0
     have hfz23_1 := blk_frozen BK441.out 1
     have hcz24_0 : w8.cell? ⟨gb442, 0, none⟩ = some (.slice A2_0 l2_0.length c2_0) := (blk_cell BK442.out 0).trans rfl
     have hcz24_1 : w8.cell? ⟨gb442, 1, none⟩ = some (.int .i64 a2_1) := (blk_cell BK442.out 1).trans rfl
     have hfz24_0 := blk_frozen BK442.out 0
     have hfz24_1 := blk_frozen BK442.out 1
     go_wp2_with (first | ((with_reducible refine gate_dst (N := 31) rfl ?_); (try (refine gate_guard (by rfl) ?_; dsimp only)); refine N_lit k24 _ 24 ?hg (N' := 31) ?hd (xs := ([(⟨l0_0, a0_1⟩ : S24), (⟨l2_0, a2_1⟩ : S24)] : List (S24))) (inner := [.slice A0_0 l0_0.length c0_0, .int .i64 a0_1, .slice A2_0 l2_0.length c2_0, .int .i64 a2_1]) (ok := (fun k_ => ((P0_0_ k_ ∨ P2_0_ k_) ∨ w.heap.size ≤ k_) ∧ k_ ≠ gb441 ∧ k_ ≠ gb442)) (okp := (fun k_ => ((P0_0_ k_ ∨ P2_0_ k_) ∨ w.heap.size ≤ k_) ∧ k_ ≠ gb441 ∧ k_ ≠ gb442)) ?hr ?hp (fun _ hk => hk) ((show ∀ k_, w8.heap.size ≤ k_ → (fun k_ => ((P0_0_ k_ ∨ P2_0_ k_) ∨ w.heap.size ≤ k_) ∧ k_ ≠ gb441 ∧ k_ ≠ gb442) k_ from fun k_ hk => ⟨(.inr (Nat.le_trans (below_size (by repeat (first | (with_reducible first | exact HB.out | apply bA | apply bN | apply bD | refine bS ?_ GE441.out | refine bS ?_ GE442.out) | exact HB.out))) hk)), Kd.freshB (g := gb441) (o := .cells #[.slice A0_0 l0_0.length c0_0, .int .i64 a0_1] 24 (0, 0)) (by (with_reducible repeat (first | refine kN ?_ _ | refine kD ?_ | refine kA ?_ _)); exact BK441.out) k_ hk, Kd.freshB (g := gb442) (o := .cells #[.slice A2_0 l2_0.length c2_0, .int .i64 a2_1] 24 (0, 0)) (by (with_reducible repeat (first | refine kN ?_ _ | refine kD ?_ | refine kA ?_ _)); exact BK442.out) k_ hk⟩) _ (Nat.le_refl _)) (Below.refl _ _) (Nat.le_refl _) (by simp) ?_; (case hd => rfl); (case hg => rfl); (case hr => first | (go_simp; done) | (go_simp; rfl)); (case hp => exact (Reps.c2 (show Kd.FK k24 _ _ (⟨l0_0, a0_1⟩ : S24) [.slice A0_0 l0_0.length c0_0, .int .i64 a0_1] from (k24_mkF _ _ (⟨l0_0, a0_1⟩ : S24) (V_reads' (V_mono (ok' := (fun k_ => ((P0_0_ k_ ∨ P2_0_ k_) ∨ w.heap.size ≤ k_) ∧ k_ ≠ gb441 ∧ k_ ≠ gb442)) (HO0_0.out) (fun k_ hk => ⟨hk.1.1, ⟨hk.1.2, hk.2⟩⟩))).2.1 (V_F (V_mono (ok' := (fun k_ => ((P0_0_ k_ ∨ P2_0_ k_) ∨ w.heap.size ≤ k_) ∧ k_ ≠ gb441 ∧ k_ ≠ gb442)) (HO0_0.out) (fun k_ hk => ⟨hk.1.1, ⟨hk.1.2, hk.2⟩⟩))))) (Reps.c2 (show Kd.FK k24 _ _ (⟨l2_0, a2_1⟩ : S24) [.slice A2_0 l2_0.length c2_0, .int .i64 a2_1] from (k24_mkF _ _ (⟨l2_0, a2_1⟩ : S24) (V_reads' (V_mono (ok' := (fun k_ => ((P0_0_ k_ ∨ P2_0_ k_) ∨ w.heap.size ≤ k_) ∧ k_ ≠ gb441 ∧ k_ ≠ gb442)) (HO2_0.out) (fun k_ hk => ⟨hk.1.1, ⟨hk.1.2, hk.2⟩⟩))).2.1 (V_F (V_mono (ok' := (fun k_ => ((P0_0_ k_ ∨ P2_0_ k_) ∨ w.heap.size ≤ k_) ∧ k_ ≠ gb441 ∧ k_ ≠ gb442)) (HO2_0.out) (fun k_ hk => ⟨hk.1.1, ⟨hk.1.2, hk.2⟩⟩))))) (Reps.none _ _)))); intro v445 w25 ho26 hb hg_ hnew_; clear hg_ hnew_; (first | rw [← Ny444.out] at ho26 | (simp only [Int.reduceToNat] at ho26; rw [← Ny444.out] at ho26)); have n0_ := aM (V_elder' (by (with_reducible repeat (first | apply vA | apply vN | apply vD)); exact HO0_0.out) (by first | exact N_base ho26 | exact S_base ho26) hb); have n1_ := aM (V_elder' (by (with_reducible repeat (first | apply vA | apply vN | apply vD)); exact HO2_0.out) (by first | exact N_base ho26 | exact S_base ho26) hb); have n2_ := aM (N_lower ho26 (below_size (by repeat (first | (with_reducible first | exact HB.out | apply bA | apply bN | apply bD | refine bS ?_ GE441.out | refine bS ?_ GE442.out) | exact HB.out)))); have n3_ := aM (blk_below (g := gb441) (o := .cells #[.slice A0_0 l0_0.length c0_0, .int .i64 a0_1] 24 (0, 0)) (by (with_reducible repeat (first | refine kN ?_ _ | refine kD ?_ | refine kA ?_ _)); exact BK441.out) hb); have n4_ := aM (blk_below (g := gb442) (o := .cells #[.slice A2_0 l2_0.length c2_0, .int .i64 a2_1] 24 (0, 0)) (by (with_reducible repeat (first | refine kN ?_ _ | refine kD ?_ | refine kA ?_ _)); exact BK442.out) hb); have n5_ := aM (below_step (by repeat (first | (with_reducible first | exact HB.out | apply bA | apply bN | apply bD | refine bS ?_ GE441.out | refine bS ?_ GE442.out) | exact HB.out)) hb); clear HO0_0; clear HO2_0; clear BK441; clear BK442; clear HB; have HO0_0 := n0_; have HO2_0 := n1_; have HO446 := n2_; have BK441 := n3_; have BK442 := n4_; have HB := n5_; clear n0_ n1_ n2_ n3_ n4_ n5_; clear hb ho26; obtain ⟨Ao27, co27, eo27⟩ := N_slice HO446.out; subst eo27) | ((with_reducible refine gate_callee (f := 10) rfl ?_); refine goesL_ (some 32) rfl rfl Try.func10 (by kernel_rfl) rfl #[.slice Ao27 y444.length co27] rfl (by (try simp only [List.map_toArray, List.map_cons, List.map_nil]); first | done | rfl | (simp only [List.length_drop, List.length_take]; rfl)) ?_; (with_reducible refine (squelchlaw01_few.calls k _ _ y444 true _ ?side1 ?side2 A9.out).mono ?_); (case side1 => repeat (first | exact (N_reads' HO446.out).2.2 | (with_reducible refine C_alloc ?_ _) | (with_reducible refine C_drewN ?_ _) | (with_reducible refine C_drew ?_))); (case side2 => exact (N_reads' HO446.out).2.1); rintro e w28 ⟨rfl, hb⟩; refine ⟨_, rfl, ?_⟩; have n0_ := aM (V_below (by (with_reducible repeat (first | apply vA | apply vN | apply vD)); exact HO0_0.out) hb); have n1_ := aM (V_below (by (with_reducible repeat (first | apply vA | apply vN | apply vD)); exact HO2_0.out) hb); have n2_ := aM (N_below (by (with_reducible repeat (first | apply N_alloc | apply N_drewN | apply N_drew)); exact HO446.out) hb); have n3_ := aM (blk_below (g := gb441) (o := .cells #[.slice A0_0 l0_0.length c0_0, .int .i64 a0_1] 24 (0, 0)) (by (with_reducible repeat (first | refine kN ?_ _ | refine kD ?_ | refine kA ?_ _)); exact BK441.out) hb); have n4_ := aM (blk_below (g := gb442) (o := .cells #[.slice A2_0 l2_0.length c2_0, .int .i64 a2_1] 24 (0, 0)) (by (with_reducible repeat (first | refine kN ?_ _ | refine kD ?_ | refine kA ?_ _)); exact BK442.out) hb); have n5_ := aM (below_step (by repeat (first | (with_reducible first | exact HB.out | apply bA | apply bN | apply bD | refine bS ?_ GE441.out | refine bS ?_ GE442.out) | exact HB.out)) hb); clear HO0_0; clear HO2_0; clear HO446; clear BK441; clear BK442; clear HB; have HO0_0 := n0_; have HO2_0 := n1_; have HO446 := n2_; have BK441 := n3_; have BK442 := n4_; have HB := n5_; clear n0_ n1_ n2_ n3_ n4_ n5_; (try clear hb); (try clear hb2); (try clear hk); (try clear hi); have hcz29_0 : w28.cell? ⟨gb441, 0, none⟩ = some (.slice A0_0 l0_0.length c0_0) := (blk_cell BK441.out 0).trans rfl; have hcz29_1 : w28.cell? ⟨gb441, 1, none⟩ = some (.int .i64 a0_1) := (blk_cell BK441.out 1).trans rfl; have hfz29_0 := blk_frozen BK441.out 0; have hfz29_1 := blk_frozen BK441.out 1) | (go_at_call 19; (with_reducible refine (bits_Check.calls k _ _ l0_0 a0_1 t448 _ ?side1 ?side2 A19.out).mono ?_); (case side1 => repeat (first | exact (V_reads' HO0_0.out).2.2 | (with_reducible refine C_alloc ?_ _) | (with_reducible refine C_drewN ?_ _) | (with_reducible refine C_drew ?_))); (case side2 => exact (V_reads' HO0_0.out).2.1); rintro e w30 ⟨rfl, hb⟩; have n0_ := aM (V_below (by (with_reducible repeat (first | apply vA | apply vN | apply vD)); exact HO0_0.out) hb); have n1_ := aM (V_below (by (with_reducible repeat (first | apply vA | apply vN | apply vD)); exact HO2_0.out) hb); have n2_ := aM (N_below (by (with_reducible repeat (first | apply N_alloc | apply N_drewN | apply N_drew)); exact HO446.out) hb); have n3_ := aM (blk_below (g := gb441) (o := .cells #[.slice A0_0 l0_0.length c0_0, .int .i64 a0_1] 24 (0, 0)) (by (with_reducible repeat (first | refine kN ?_ _ | refine kD ?_ | refine kA ?_ _)); exact BK441.out) hb); have n4_ := aM (blk_below (g := gb442) (o := .cells #[.slice A2_0 l2_0.length c2_0, .int .i64 a2_1] 24 (0, 0)) (by (with_reducible repeat (first | refine kN ?_ _ | refine kD ?_ | refine kA ?_ _)); exact BK442.out) hb); have n5_ := aM (below_step (by repeat (first | (with_reducible first | exact HB.out | apply bA | apply bN | apply bD | refine bS ?_ GE441.out | refine bS ?_ GE442.out) | exact HB.out)) hb); clear HO0_0; clear HO2_0; clear HO446; clear BK441; clear BK442; clear HB; have HO0_0 := n0_; have HO2_0 := n1_; have HO446 := n2_; have BK441 := n3_; have BK442 := n4_; have HB := n5_; clear n0_ n1_ n2_ n3_ n4_ n5_; (try clear hb); (try clear hb2); (try clear hk); (try clear hi); have hcz31_0 : w30.cell? ⟨gb442, 0, none⟩ = some (.slice A2_0 l2_0.length c2_0) := (blk_cell BK442.out 0).trans rfl; have hcz31_1 : w30.cell? ⟨gb442, 1, none⟩ = some (.int .i64 a2_1) := (blk_cell BK442.out 1).trans rfl; have hfz31_0 := blk_frozen BK442.out 0; have hfz31_1 := blk_frozen BK442.out 1) | (go_at_call 19; (with_reducible refine (bits_Check.calls k _ _ l2_0 a2_1 t449 _ ?side1 ?side2 A21.out).mono ?_); (case side1 => repeat (first | exact (V_reads' HO2_0.out).2.2 | (with_reducible refine C_alloc ?_ _) | (with_reducible refine C_drewN ?_ _) | (with_reducible refine C_drew ?_))); (case side2 => exact (V_reads' HO2_0.out).2.1); rintro e w32 ⟨rfl, hb⟩; have n0_ := aM (V_below (by (with_reducible repeat (first | apply vA | apply vN | apply vD)); exact HO0_0.out) hb); have n1_ := aM (V_below (by (with_reducible repeat (first | apply vA | apply vN | apply vD)); exact HO2_0.out) hb); have n2_ := aM (N_below (by (with_reducible repeat (first | apply N_alloc | apply N_drewN | apply N_drew)); exact HO446.out) hb); have n3_ := aM (blk_below (g := gb441) (o := .cells #[.slice A0_0 l0_0.length c0_0, .int .i64 a0_1] 24 (0, 0)) (by (with_reducible repeat (first | refine kN ?_ _ | refine kD ?_ | refine kA ?_ _)); exact BK441.out) hb); have n4_ := aM (blk_below (g := gb442) (o := .cells #[.slice A2_0 l2_0.length c2_0, .int .i64 a2_1] 24 (0, 0)) (by (with_reducible repeat (first | refine kN ?_ _ | refine kD ?_ | refine kA ?_ _)); exact BK442.out) hb); have n5_ := aM (below_step (by repeat (first | (with_reducible first | exact HB.out | apply bA | apply bN | apply bD | refine bS ?_ GE441.out | refine bS ?_ GE442.out) | exact HB.out)) hb); clear HO0_0; clear HO2_0; clear HO446; clear BK441; clear BK442; clear HB; have HO0_0 := n0_; have HO2_0 := n1_; have HO446 := n2_; have BK441 := n3_; have BK442 := n4_; have HB := n5_; clear n0_ n1_ n2_ n3_ n4_ n5_; (try clear hb); (try clear hb2); (try clear hk); (try clear hi)))
     go_meet
     case rel => exact ⟨_, ((t449 != 0)), (by first | rfl | (simp; done) | (simp [*]; done)), H', ⟨by first | omega | exact Nat.le_refl _⟩, ⟨by (with_reducible repeat (first | apply vA | apply vN | apply vD)); exact V_mono HO0_0.out (fun _ hk => ⟨hk.1.1.1, ⟨hk.1.1.2, hk.1.2⟩⟩)⟩, ⟨by (with_reducible repeat (first | apply vA | apply vN | apply vD)); exact V_mono HO2_0.out (fun _ hk => ⟨hk.1.1.1, ⟨hk.1.1.2, hk.1.2⟩⟩)⟩, ⟨by (with_reducible repeat (first | refine kN ?_ _ | refine kD ?_ | refine kA ?_ _)); exact BK441.out⟩, ⟨by (with_reducible repeat (first | refine kN ?_ _ | refine kD ?_ | refine kA ?_ _)); exact BK442.out⟩, ⟨by repeat (first | (with_reducible first | exact HB.out | apply bA | apply bN | apply bD | refine bS ?_ GE441.out | refine bS ?_ GE442.out) | exact HB.out)⟩⟩
    ·rw [if_neg c20] at H
     have c20b0 : (t448 == 0) = false := beq_eq_false_iff_ne.mpr c20
     have c20b1 : (t448 != 0) = true := bne_iff_ne.mpr c20
     have H' := aM H
     clear H
     have hnb33 := NB441_442.out
     have hnc33 := NB442_441.out
     have hcz34_0 : w8.cell? ⟨gb441, 0, none⟩ = some (.slice A0_0 l0_0.length c0_0) := (blk_cell BK441.out 0).trans rfl
     have hcz34_1 : w8.cell? ⟨gb441, 1, none⟩ = some (.int .i64 a0_1) := (blk_cell BK441.out 1).trans rfl
     have hfz34_0 := blk_frozen BK441.out 0
     have hfz34_1 := blk_frozen BK441.out 1
     have hcz35_0 : w8.cell? ⟨gb442, 0, none⟩ = some (.slice A2_0 l2_0.length c2_0) := (blk_cell BK442.out 0).trans rfl
     have hcz35_1 : w8.cell? ⟨gb442, 1, none⟩ = some (.int .i64 a2_1) := (blk_cell BK442.out 1).trans rfl
     have hfz35_0 := blk_frozen BK442.out 0
     have hfz35_1 := blk_frozen BK442.out 1
     go_wp2_with (first | ((with_reducible refine gate_dst (N := 31) rfl ?_); (try (refine gate_guard (by rfl) ?_; dsimp only)); refine N_lit k24 _ 24 ?hg (N' := 31) ?hd (xs := ([(⟨l0_0, a0_1⟩ : S24), (⟨l2_0, a2_1⟩ : S24)] : List (S24))) (inner := [.slice A0_0 l0_0.length c0_0, .int .i64 a0_1, .slice A2_0 l2_0.length c2_0, .int .i64 a2_1]) (ok := (fun k_ => ((P0_0_ k_ ∨ P2_0_ k_) ∨ w.heap.size ≤ k_) ∧ k_ ≠ gb441 ∧ k_ ≠ gb442)) (okp := (fun k_ => ((P0_0_ k_ ∨ P2_0_ k_) ∨ w.heap.size ≤ k_) ∧ k_ ≠ gb441 ∧ k_ ≠ gb442)) ?hr ?hp (fun _ hk => hk) ((show ∀ k_, w8.heap.size ≤ k_ → (fun k_ => ((P0_0_ k_ ∨ P2_0_ k_) ∨ w.heap.size ≤ k_) ∧ k_ ≠ gb441 ∧ k_ ≠ gb442) k_ from fun k_ hk => ⟨(.inr (Nat.le_trans (below_size (by repeat (first | (with_reducible first | exact HB.out | apply bA | apply bN | apply bD | refine bS ?_ GE441.out | refine bS ?_ GE442.out) | exact HB.out))) hk)), Kd.freshB (g := gb441) (o := .cells #[.slice A0_0 l0_0.length c0_0, .int .i64 a0_1] 24 (0, 0)) (by (with_reducible repeat (first | refine kN ?_ _ | refine kD ?_ | refine kA ?_ _)); exact BK441.out) k_ hk, Kd.freshB (g := gb442) (o := .cells #[.slice A2_0 l2_0.length c2_0, .int .i64 a2_1] 24 (0, 0)) (by (with_reducible repeat (first | refine kN ?_ _ | refine kD ?_ | refine kA ?_ _)); exact BK442.out) k_ hk⟩) _ (Nat.le_refl _)) (Below.refl _ _) (Nat.le_refl _) (by simp) ?_; (case hd => rfl); (case hg => rfl); (case hr => first | (go_simp; done) | (go_simp; rfl)); (case hp => exact (Reps.c2 (show Kd.FK k24 _ _ (⟨l0_0, a0_1⟩ : S24) [.slice A0_0 l0_0.length c0_0, .int .i64 a0_1] from (k24_mkF _ _ (⟨l0_0, a0_1⟩ : S24) (V_reads' (V_mono (ok' := (fun k_ => ((P0_0_ k_ ∨ P2_0_ k_) ∨ w.heap.size ≤ k_) ∧ k_ ≠ gb441 ∧ k_ ≠ gb442)) (HO0_0.out) (fun k_ hk => ⟨hk.1.1, ⟨hk.1.2, hk.2⟩⟩))).2.1 (V_F (V_mono (ok' := (fun k_ => ((P0_0_ k_ ∨ P2_0_ k_) ∨ w.heap.size ≤ k_) ∧ k_ ≠ gb441 ∧ k_ ≠ gb442)) (HO0_0.out) (fun k_ hk => ⟨hk.1.1, ⟨hk.1.2, hk.2⟩⟩))))) (Reps.c2 (show Kd.FK k24 _ _ (⟨l2_0, a2_1⟩ : S24) [.slice A2_0 l2_0.length c2_0, .int .i64 a2_1] from (k24_mkF _ _ (⟨l2_0, a2_1⟩ : S24) (V_reads' (V_mono (ok' := (fun k_ => ((P0_0_ k_ ∨ P2_0_ k_) ∨ w.heap.size ≤ k_) ∧ k_ ≠ gb441 ∧ k_ ≠ gb442)) (HO2_0.out) (fun k_ hk => ⟨hk.1.1, ⟨hk.1.2, hk.2⟩⟩))).2.1 (V_F (V_mono (ok' := (fun k_ => ((P0_0_ k_ ∨ P2_0_ k_) ∨ w.heap.size ≤ k_) ∧ k_ ≠ gb441 ∧ k_ ≠ gb442)) (HO2_0.out) (fun k_ hk => ⟨hk.1.1, ⟨hk.1.2, hk.2⟩⟩))))) (Reps.none _ _)))); intro v445 w36 ho37 hb hg_ hnew_; clear hg_ hnew_; (first | rw [← Ny444.out] at ho37 | (simp only [Int.reduceToNat] at ho37; rw [← Ny444.out] at ho37)); have n0_ := aM (V_elder' (by (with_reducible repeat (first | apply vA | apply vN | apply vD)); exact HO0_0.out) (by first | exact N_base ho37 | exact S_base ho37) hb); have n1_ := aM (V_elder' (by (with_reducible repeat (first | apply vA | apply vN | apply vD)); exact HO2_0.out) (by first | exact N_base ho37 | exact S_base ho37) hb); have n2_ := aM (N_lower ho37 (below_size (by repeat (first | (with_reducible first | exact HB.out | apply bA | apply bN | apply bD | refine bS ?_ GE441.out | refine bS ?_ GE442.out) | exact HB.out)))); have n3_ := aM (blk_below (g := gb441) (o := .cells #[.slice A0_0 l0_0.length c0_0, .int .i64 a0_1] 24 (0, 0)) (by (with_reducible repeat (first | refine kN ?_ _ | refine kD ?_ | refine kA ?_ _)); exact BK441.out) hb); have n4_ := aM (blk_below (g := gb442) (o := .cells #[.slice A2_0 l2_0.length c2_0, .int .i64 a2_1] 24 (0, 0)) (by (with_reducible repeat (first | refine kN ?_ _ | refine kD ?_ | refine kA ?_ _)); exact BK442.out) hb); have n5_ := aM (below_step (by repeat (first | (with_reducible first | exact HB.out | apply bA | apply bN | apply bD | refine bS ?_ GE441.out | refine bS ?_ GE442.out) | exact HB.out)) hb); clear HO0_0; clear HO2_0; clear BK441; clear BK442; clear HB; have HO0_0 := n0_; have HO2_0 := n1_; have HO446 := n2_; have BK441 := n3_; have BK442 := n4_; have HB := n5_; clear n0_ n1_ n2_ n3_ n4_ n5_; clear hb ho37; obtain ⟨Ao38, co38, eo38⟩ := N_slice HO446.out; subst eo38) | ((with_reducible refine gate_callee (f := 10) rfl ?_); refine goesL_ (some 32) rfl rfl Try.func10 (by kernel_rfl) rfl #[.slice Ao38 y444.length co38] rfl (by (try simp only [List.map_toArray, List.map_cons, List.map_nil]); first | done | rfl | (simp only [List.length_drop, List.length_take]; rfl)) ?_; (with_reducible refine (squelchlaw01_few.calls k _ _ y444 true _ ?side1 ?side2 A9.out).mono ?_); (case side1 => repeat (first | exact (N_reads' HO446.out).2.2 | (with_reducible refine C_alloc ?_ _) | (with_reducible refine C_drewN ?_ _) | (with_reducible refine C_drew ?_))); (case side2 => exact (N_reads' HO446.out).2.1); rintro e w39 ⟨rfl, hb⟩; refine ⟨_, rfl, ?_⟩; have n0_ := aM (V_below (by (with_reducible repeat (first | apply vA | apply vN | apply vD)); exact HO0_0.out) hb); have n1_ := aM (V_below (by (with_reducible repeat (first | apply vA | apply vN | apply vD)); exact HO2_0.out) hb); have n2_ := aM (N_below (by (with_reducible repeat (first | apply N_alloc | apply N_drewN | apply N_drew)); exact HO446.out) hb); have n3_ := aM (blk_below (g := gb441) (o := .cells #[.slice A0_0 l0_0.length c0_0, .int .i64 a0_1] 24 (0, 0)) (by (with_reducible repeat (first | refine kN ?_ _ | refine kD ?_ | refine kA ?_ _)); exact BK441.out) hb); have n4_ := aM (blk_below (g := gb442) (o := .cells #[.slice A2_0 l2_0.length c2_0, .int .i64 a2_1] 24 (0, 0)) (by (with_reducible repeat (first | refine kN ?_ _ | refine kD ?_ | refine kA ?_ _)); exact BK442.out) hb); have n5_ := aM (below_step (by repeat (first | (with_reducible first | exact HB.out | apply bA | apply bN | apply bD | refine bS ?_ GE441.out | refine bS ?_ GE442.out) | exact HB.out)) hb); clear HO0_0; clear HO2_0; clear HO446; clear BK441; clear BK442; clear HB; have HO0_0 := n0_; have HO2_0 := n1_; have HO446 := n2_; have BK441 := n3_; have BK442 := n4_; have HB := n5_; clear n0_ n1_ n2_ n3_ n4_ n5_; (try clear hb); (try clear hb2); (try clear hk); (try clear hi); have hcz40_0 : w39.cell? ⟨gb441, 0, none⟩ = some (.slice A0_0 l0_0.length c0_0) := (blk_cell BK441.out 0).trans rfl; have hcz40_1 : w39.cell? ⟨gb441, 1, none⟩ = some (.int .i64 a0_1) := (blk_cell BK441.out 1).trans rfl; have hfz40_0 := blk_frozen BK441.out 0; have hfz40_1 := blk_frozen BK441.out 1) | (go_at_call 19; (with_reducible refine (bits_Check.calls k _ _ l0_0 a0_1 t448 _ ?side1 ?side2 A19.out).mono ?_); (case side1 => repeat (first | exact (V_reads' HO0_0.out).2.2 | (with_reducible refine C_alloc ?_ _) | (with_reducible refine C_drewN ?_ _) | (with_reducible refine C_drew ?_))); (case side2 => exact (V_reads' HO0_0.out).2.1); rintro e w41 ⟨rfl, hb⟩; have n0_ := aM (V_below (by (with_reducible repeat (first | apply vA | apply vN | apply vD)); exact HO0_0.out) hb); have n1_ := aM (V_below (by (with_reducible repeat (first | apply vA | apply vN | apply vD)); exact HO2_0.out) hb); have n2_ := aM (N_below (by (with_reducible repeat (first | apply N_alloc | apply N_drewN | apply N_drew)); exact HO446.out) hb); have n3_ := aM (blk_below (g := gb441) (o := .cells #[.slice A0_0 l0_0.length c0_0, .int .i64 a0_1] 24 (0, 0)) (by (with_reducible repeat (first | refine kN ?_ _ | refine kD ?_ | refine kA ?_ _)); exact BK441.out) hb); have n4_ := aM (blk_below (g := gb442) (o := .cells #[.slice A2_0 l2_0.length c2_0, .int .i64 a2_1] 24 (0, 0)) (by (with_reducible repeat (first | refine kN ?_ _ | refine kD ?_ | refine kA ?_ _)); exact BK442.out) hb); have n5_ := aM (below_step (by repeat (first | (with_reducible first | exact HB.out | apply bA | apply bN | apply bD | refine bS ?_ GE441.out | refine bS ?_ GE442.out) | exact HB.out)) hb); clear HO0_0; clear HO2_0; clear HO446; clear BK441; clear BK442; clear HB; have HO0_0 := n0_; have HO2_0 := n1_; have HO446 := n2_; have BK441 := n3_; have BK442 := n4_; have HB := n5_; clear n0_ n1_ n2_ n3_ n4_ n5_; (try clear hb); (try clear hb2); (try clear hk); (try clear hi)))
     go_meet
     case rel => exact ⟨_, (true), (by first | rfl | (simp; done) | (simp [*]; done)), H', ⟨by first | omega | exact Nat.le_refl _⟩, ⟨by (with_reducible repeat (first | apply vA | apply vN | apply vD)); exact V_mono HO0_0.out (fun _ hk => ⟨hk.1.1.1, ⟨hk.1.1.2, hk.1.2⟩⟩)⟩, ⟨by (with_reducible repeat (first | apply vA | apply vN | apply vD)); exact V_mono HO2_0.out (fun _ hk => ⟨hk.1.1.1, ⟨hk.1.1.2, hk.1.2⟩⟩)⟩, ⟨by (with_reducible repeat (first | refine kN ?_ _ | refine kD ?_ | refine kA ?_ _)); exact BK441.out⟩, ⟨by (with_reducible repeat (first | refine kN ?_ _ | refine kD ?_ | refine kA ?_ _)); exact BK442.out⟩, ⟨by repeat (first | (with_reducible first | exact HB.out | apply bA | apply bN | apply bD | refine bS ?_ GE441.out | refine bS ?_ GE442.out) | exact HB.out)⟩⟩
  ·replace c10 := Bool.eq_false_iff.mpr c10
   subst c10
   have H1 : (sBB.j0 k l1 t443 true l0_0 a0_1 l2_0 a2_1) = some r := by rw [if_neg (show ¬ (false = true) by decide)] at H; exact H
   clear H
   have H := H1
   clear H1
   have H' := aM H
   clear H
   have hnb42 := NB441_442.out
   have hnc42 := NB442_441.out
   have hcz43_0 : w8.cell? ⟨gb441, 0, none⟩ = some (.slice A0_0 l0_0.length c0_0) := (blk_cell BK441.out 0).trans rfl
   have hcz43_1 : w8.cell? ⟨gb441, 1, none⟩ = some (.int .i64 a0_1) := (blk_cell BK441.out 1).trans rfl
   have hfz43_0 := blk_frozen BK441.out 0
   have hfz43_1 := blk_frozen BK441.out 1
   have hcz44_0 : w8.cell? ⟨gb442, 0, none⟩ = some (.slice A2_0 l2_0.length c2_0) := (blk_cell BK442.out 0).trans rfl
   have hcz44_1 : w8.cell? ⟨gb442, 1, none⟩ = some (.int .i64 a2_1) := (blk_cell BK442.out 1).trans rfl
   have hfz44_0 := blk_frozen BK442.out 0
   have hfz44_1 := blk_frozen BK442.out 1
   go_wp2_with (first | ((with_reducible refine gate_dst (N := 31) rfl ?_); (try (refine gate_guard (by rfl) ?_; dsimp only)); refine N_lit k24 _ 24 ?hg (N' := 31) ?hd (xs := ([(⟨l0_0, a0_1⟩ : S24), (⟨l2_0, a2_1⟩ : S24)] : List (S24))) (inner := [.slice A0_0 l0_0.length c0_0, .int .i64 a0_1, .slice A2_0 l2_0.length c2_0, .int .i64 a2_1]) (ok := (fun k_ => ((P0_0_ k_ ∨ P2_0_ k_) ∨ w.heap.size ≤ k_) ∧ k_ ≠ gb441 ∧ k_ ≠ gb442)) (okp := (fun k_ => ((P0_0_ k_ ∨ P2_0_ k_) ∨ w.heap.size ≤ k_) ∧ k_ ≠ gb441 ∧ k_ ≠ gb442)) ?hr ?hp (fun _ hk => hk) ((show ∀ k_, w8.heap.size ≤ k_ → (fun k_ => ((P0_0_ k_ ∨ P2_0_ k_) ∨ w.heap.size ≤ k_) ∧ k_ ≠ gb441 ∧ k_ ≠ gb442) k_ from fun k_ hk => ⟨(.inr (Nat.le_trans (below_size (by repeat (first | (with_reducible first | exact HB.out | apply bA | apply bN | apply bD | refine bS ?_ GE441.out | refine bS ?_ GE442.out) | exact HB.out))) hk)), Kd.freshB (g := gb441) (o := .cells #[.slice A0_0 l0_0.length c0_0, .int .i64 a0_1] 24 (0, 0)) (by (with_reducible repeat (first | refine kN ?_ _ | refine kD ?_ | refine kA ?_ _)); exact BK441.out) k_ hk, Kd.freshB (g := gb442) (o := .cells #[.slice A2_0 l2_0.length c2_0, .int .i64 a2_1] 24 (0, 0)) (by (with_reducible repeat (first | refine kN ?_ _ | refine kD ?_ | refine kA ?_ _)); exact BK442.out) k_ hk⟩) _ (Nat.le_refl _)) (Below.refl _ _) (Nat.le_refl _) (by simp) ?_; (case hd => rfl); (case hg => rfl); (case hr => first | (go_simp; done) | (go_simp; rfl)); (case hp => exact (Reps.c2 (show Kd.FK k24 _ _ (⟨l0_0, a0_1⟩ : S24) [.slice A0_0 l0_0.length c0_0, .int .i64 a0_1] from (k24_mkF _ _ (⟨l0_0, a0_1⟩ : S24) (V_reads' (V_mono (ok' := (fun k_ => ((P0_0_ k_ ∨ P2_0_ k_) ∨ w.heap.size ≤ k_) ∧ k_ ≠ gb441 ∧ k_ ≠ gb442)) (HO0_0.out) (fun k_ hk => ⟨hk.1.1, ⟨hk.1.2, hk.2⟩⟩))).2.1 (V_F (V_mono (ok' := (fun k_ => ((P0_0_ k_ ∨ P2_0_ k_) ∨ w.heap.size ≤ k_) ∧ k_ ≠ gb441 ∧ k_ ≠ gb442)) (HO0_0.out) (fun k_ hk => ⟨hk.1.1, ⟨hk.1.2, hk.2⟩⟩))))) (Reps.c2 (show Kd.FK k24 _ _ (⟨l2_0, a2_1⟩ : S24) [.slice A2_0 l2_0.length c2_0, .int .i64 a2_1] from (k24_mkF _ _ (⟨l2_0, a2_1⟩ : S24) (V_reads' (V_mono (ok' := (fun k_ => ((P0_0_ k_ ∨ P2_0_ k_) ∨ w.heap.size ≤ k_) ∧ k_ ≠ gb441 ∧ k_ ≠ gb442)) (HO2_0.out) (fun k_ hk => ⟨hk.1.1, ⟨hk.1.2, hk.2⟩⟩))).2.1 (V_F (V_mono (ok' := (fun k_ => ((P0_0_ k_ ∨ P2_0_ k_) ∨ w.heap.size ≤ k_) ∧ k_ ≠ gb441 ∧ k_ ≠ gb442)) (HO2_0.out) (fun k_ hk => ⟨hk.1.1, ⟨hk.1.2, hk.2⟩⟩))))) (Reps.none _ _)))); intro v445 w45 ho46 hb hg_ hnew_; clear hg_ hnew_; (first | rw [← Ny444.out] at ho46 | (simp only [Int.reduceToNat] at ho46; rw [← Ny444.out] at ho46)); have n0_ := aM (V_elder' (by (with_reducible repeat (first | apply vA | apply vN | apply vD)); exact HO0_0.out) (by first | exact N_base ho46 | exact S_base ho46) hb); have n1_ := aM (V_elder' (by (with_reducible repeat (first | apply vA | apply vN | apply vD)); exact HO2_0.out) (by first | exact N_base ho46 | exact S_base ho46) hb); have n2_ := aM (N_lower ho46 (below_size (by repeat (first | (with_reducible first | exact HB.out | apply bA | apply bN | apply bD | refine bS ?_ GE441.out | refine bS ?_ GE442.out) | exact HB.out)))); have n3_ := aM (blk_below (g := gb441) (o := .cells #[.slice A0_0 l0_0.length c0_0, .int .i64 a0_1] 24 (0, 0)) (by (with_reducible repeat (first | refine kN ?_ _ | refine kD ?_ | refine kA ?_ _)); exact BK441.out) hb); have n4_ := aM (blk_below (g := gb442) (o := .cells #[.slice A2_0 l2_0.length c2_0, .int .i64 a2_1] 24 (0, 0)) (by (with_reducible repeat (first | refine kN ?_ _ | refine kD ?_ | refine kA ?_ _)); exact BK442.out) hb); have n5_ := aM (below_step (by repeat (first | (with_reducible first | exact HB.out | apply bA | apply bN | apply bD | refine bS ?_ GE441.out | refine bS ?_ GE442.out) | exact HB.out)) hb); clear HO0_0; clear HO2_0; clear BK441; clear BK442; clear HB; have HO0_0 := n0_; have HO2_0 := n1_; have HO446 := n2_; have BK441 := n3_; have BK442 := n4_; have HB := n5_; clear n0_ n1_ n2_ n3_ n4_ n5_; clear hb ho46; obtain ⟨Ao47, co47, eo47⟩ := N_slice HO446.out; subst eo47) | ((with_reducible refine gate_callee (f := 10) rfl ?_); refine goesL_ (some 32) rfl rfl Try.func10 (by kernel_rfl) rfl #[.slice Ao47 y444.length co47] rfl (by (try simp only [List.map_toArray, List.map_cons, List.map_nil]); first | done | rfl | (simp only [List.length_drop, List.length_take]; rfl)) ?_; (with_reducible refine (squelchlaw01_few.calls k _ _ y444 false _ ?side1 ?side2 A9.out).mono ?_); (case side1 => repeat (first | exact (N_reads' HO446.out).2.2 | (with_reducible refine C_alloc ?_ _) | (with_reducible refine C_drewN ?_ _) | (with_reducible refine C_drew ?_))); (case side2 => exact (N_reads' HO446.out).2.1); rintro e w48 ⟨rfl, hb⟩; refine ⟨_, rfl, ?_⟩; have n0_ := aM (V_below (by (with_reducible repeat (first | apply vA | apply vN | apply vD)); exact HO0_0.out) hb); have n1_ := aM (V_below (by (with_reducible repeat (first | apply vA | apply vN | apply vD)); exact HO2_0.out) hb); have n2_ := aM (N_below (by (with_reducible repeat (first | apply N_alloc | apply N_drewN | apply N_drew)); exact HO446.out) hb); have n3_ := aM (blk_below (g := gb441) (o := .cells #[.slice A0_0 l0_0.length c0_0, .int .i64 a0_1] 24 (0, 0)) (by (with_reducible repeat (first | refine kN ?_ _ | refine kD ?_ | refine kA ?_ _)); exact BK441.out) hb); have n4_ := aM (blk_below (g := gb442) (o := .cells #[.slice A2_0 l2_0.length c2_0, .int .i64 a2_1] 24 (0, 0)) (by (with_reducible repeat (first | refine kN ?_ _ | refine kD ?_ | refine kA ?_ _)); exact BK442.out) hb); have n5_ := aM (below_step (by repeat (first | (with_reducible first | exact HB.out | apply bA | apply bN | apply bD | refine bS ?_ GE441.out | refine bS ?_ GE442.out) | exact HB.out)) hb); clear HO0_0; clear HO2_0; clear HO446; clear BK441; clear BK442; clear HB; have HO0_0 := n0_; have HO2_0 := n1_; have HO446 := n2_; have BK441 := n3_; have BK442 := n4_; have HB := n5_; clear n0_ n1_ n2_ n3_ n4_ n5_; (try clear hb); (try clear hb2); (try clear hk); (try clear hi)))
   go_meet
   case rel => exact ⟨_, (true), (by first | rfl | (simp; done) | (simp [*]; done)), H', ⟨by first | omega | exact Nat.le_refl _⟩, ⟨by (with_reducible repeat (first | apply vA | apply vN | apply vD)); exact V_mono HO0_0.out (fun _ hk => ⟨hk.1.1.1, ⟨hk.1.1.2, hk.1.2⟩⟩)⟩, ⟨by (with_reducible repeat (first | apply vA | apply vN | apply vD)); exact V_mono HO2_0.out (fun _ hk => ⟨hk.1.1.1, ⟨hk.1.1.2, hk.1.2⟩⟩)⟩, ⟨by (with_reducible repeat (first | refine kN ?_ _ | refine kD ?_ | refine kA ?_ _)); exact BK441.out⟩, ⟨by (with_reducible repeat (first | refine kN ?_ _ | refine kD ?_ | refine kA ?_ _)); exact BK442.out⟩, ⟨by repeat (first | (with_reducible first | exact HB.out | apply bA | apply bN | apply bD | refine bS ?_ GE441.out | refine bS ?_ GE442.out) | exact HB.out)⟩⟩
 case rest =>
  clear HC5
  try clear c1; try clear c2; try clear p2; try clear c3; try clear c4; try clear c8; try clear c9; try clear c10; try clear c11; try clear c11b0; try clear c11b1; try clear c12; try clear c20; try clear c20b0; try clear c20b1; try clear c22; try clear c33; try clear c42; try clear hcz13_0; try clear hcz13_1; try clear hcz14_0; try clear hcz14_1; try clear hcz23_0; try clear hcz23_1; try clear hcz24_0; try clear hcz24_1; try clear hcz29_0; try clear hcz29_1; try clear hcz31_0; try clear hcz31_1; try clear hcz34_0; try clear hcz34_1; try clear hcz35_0; try clear hcz35_1; try clear hcz40_0; try clear hcz40_1; try clear hcz43_0; try clear hcz43_1; try clear hcz44_0; try clear hcz44_1; try clear hfz13_0; try clear hfz13_1; try clear hfz14_0; try clear hfz14_1; try clear hfz23_0; try clear hfz23_1; try clear hfz24_0; try clear hfz24_1; try clear hfz29_0; try clear hfz29_1; try clear hfz31_0; try clear hfz31_1; try clear hfz34_0; try clear hfz34_1; try clear hfz35_0; try clear hfz35_1; try clear hfz40_0; try clear hfz40_1; try clear hfz43_0; try clear hfz43_1; try clear hfz44_0; try clear hfz44_1
  obtain ⟨kq, x48_4, rfl, HA, HJ4, HO_442000, HO_443000, BK441, BK442, HB⟩ := hcut
  cases kq with
  | zero => exact absurd HA.out (by simp [sBB.j0])
  | succ kj4 =>
   have H := HA.out
   clear HA
   simp only [sBB.j0] at H
   by_cases c49 : x48_4 = true
   ·subst c49
    have H1 : (some t443) = some r := by rw [if_pos rfl] at H; exact H
    clear H
    have H := H1
    clear H1
    obtain rfl := Option.some.inj H
    go_wp2
    go_ret
    exact ⟨by first | rfl | (simp [errW_none, errW_some] <;> rfl) | (simp [*, errW_none, errW_some] <;> rfl) | (simp [wrap64]; done), by repeat (first | (with_reducible first | exact HB.out | apply bA | apply bN | apply bD | refine bS ?_ GE441.out | refine bS ?_ GE442.out) | exact HB.out)⟩
   ·replace c49 := Bool.eq_false_iff.mpr c49
    subst c49
    have H1 : (if ([] : List Int).length + l0_0.length < 140737488355328 then (sBB.l0 kj4 t443 ([] : List (S52)) ([] : List Int) l1 (l1.length : Int) 0 l2_0 a2_1 (([] : List Int) ++ l0_0) a0_1) else (none)) = some r := by rw [if_neg (show ¬ (false = true) by decide)] at H; exact H
    clear H
    have H := H1
    clear H1
    by_cases c50 : ([] : List Int).length + l0_0.length < 140737488355328
    ·rw [if_pos c50] at H
     have LMc50 := aM c50
     clear c50
     obtain ⟨y450, hy450⟩ : ∃ y_ : List Int, y_ = (([] : List Int) ++ l0_0) := ⟨_, rfl⟩
     replace H : (sBB.l0 kj4 t443 ([] : List (S52)) ([] : List Int) l1 (l1.length : Int) 0 l2_0 a2_1 y450 a0_1) = some r := by first | (rw [hy450]; with_reducible exact H) | (have H2_ := (Option.bind_some _ _).symm.trans H; rw [hy450]; with_reducible exact H2_) | (have H2_ := (Option.bind_some _ _).symm.trans H; with_reducible exact H2_) | with_reducible exact H | (rw [hy450]; exact H) | exact H
     have Ny450 := aM hy450
     clear hy450
     have H' := aM H
     clear H
     try go_wp2
     have n0_ := aM (V_drew HO_442000.out)
     have n1_ := aM (V_drew HO_443000.out)
     have n2_ := aM (kD BK441.out)
     have n3_ := aM (kD BK442.out)
     have n4_ := aM (bD HB.out)
     clear HO_442000
     clear HO_443000
     clear BK441
     clear BK442
     clear HB
     have HO_442000 := n0_
     have HO_443000 := n1_
     have BK441 := n2_
     have BK442 := n3_
     have HB := n4_
     clear n0_ n1_ n2_ n3_ n4_
     refine start_ (n := 8) (S := fun w' => w'.cell? ⟨gb441, 0, none⟩ = some (.slice A0_0 l0_0.length c0_0) ∧ w'.cell? ⟨gb441, 1, none⟩ = some (.int .i64 a0_1)) (ds := []) #[false, false, false, false, false, false, false, false] (by kernel_rfl) rfl rfl ⟨(blk_cell BK441.out 0).trans rfl, (blk_cell BK441.out 1).trans rfl⟩ (fun hHeld => ?_); refine with_tabW sBB.tab4 sBB.bits4 (fun HT_ HW_ => ?_)
     generalize wc.drew = w51 at HO_442000 HO_443000 BK441 BK442 HB hHeld ⊢
     refine pure_ (i := 0) (N := some 50) (v := ?_) (a' := ?_) #[true, false, false, false, false, false, false, false] rfl rfl (any_of HT_.out (by kernel_rfl)) (fun _ _ _ h => h) (Or.inl ⟨by rfl, ?_⟩) ?_ ?_
     rotate_left
     ·intro w'
      go_simp
      with_reducible rfl
     rotate_left
     ·simp only [Act.put, sA, sZ, sS, i64_w, i32_w]
      rfl
     refine pure_ (i := 3) (N := some 53) (v := ?_) (a' := ?_) #[true, false, false, true, false, false, false, false] rfl rfl (any_of HT_.out (by kernel_rfl)) (fun _ _ _ h => h) (Or.inl ⟨by rfl, ?_⟩) ?_ ?_
     rotate_left
     ·intro w'
      go_simp
      with_reducible rfl
     rotate_left
     ·simp only [Act.put, sA, sZ, sS, i64_w, i32_w]
      rfl
     refine take_ (i := 1) (N := some 51) (v := ?_) (a' := ?_) #[true, true, false, true, false, false, false, false] rfl rfl (take_ofW HT_.out HW_.out (by kernel_rfl)) (fun _ _ _ h => h) (Or.inl ⟨by rfl, ?_⟩) hHeld ?_ ?_
     rotate_left
     ·rintro w' ⟨s0, s1⟩
      go_simp
      with_reducible rfl
     rotate_left
     ·simp only [Act.put, sA, sZ, sS, i64_w, i32_w]
      rfl
     refine take_ (i := 4) (N := some 54) (v := ?_) (a' := ?_) #[true, true, false, true, true, false, false, false] rfl rfl (take_ofW HT_.out HW_.out (by kernel_rfl)) (fun _ _ _ h => h) (Or.inl ⟨by rfl, ?_⟩) hHeld ?_ ?_
     rotate_left
     ·rintro w' ⟨s0, s1⟩
      go_simp
      with_reducible rfl
     rotate_left
     ·simp only [Act.put, sA, sZ, sS, i64_w, i32_w]
      rfl
     refine join_ (σ := Value × Nat) 1 #[true, true, true, true, true, true, true, false] (fun s_ => [(52, s_.1), (8, .pointer (some ⟨s_.2, 0, none⟩)), (55, .agg #[s_.1, .int .i64 a0_1])]) (fun s_ w' => (w'.cell? ⟨gb441, 0, none⟩ = some (.slice A0_0 l0_0.length c0_0) ∧ w'.cell? ⟨gb441, 1, none⟩ = some (.int .i64 a0_1)) ∧ (Kd.R (Kd.int .u8) 5 w' w.heap.size (fun k_ => (w.heap.size ≤ k_)) s_.1 y450) ∧ (Kd.V (Kd.int .u8) 5 w' w.heap.size (fun k_ => ((P0_0_ k_ ∨ P2_0_ k_) ∨ w.heap.size ≤ k_) ∧ some k_ ≠ (s_.1 : Value).ownBlock ∧ k_ ≠ gb441 ∧ k_ ≠ gb442 ∧ k_ ≠ s_.2) (.slice A0_0 l0_0.length c0_0) l0_0) ∧ (Kd.V (Kd.int .u8) 5 w' w.heap.size (fun k_ => ((P0_0_ k_ ∨ P2_0_ k_) ∨ w.heap.size ≤ k_) ∧ some k_ ≠ (s_.1 : Value).ownBlock ∧ k_ ≠ gb441 ∧ k_ ≠ gb442 ∧ k_ ≠ s_.2) (.slice A2_0 l2_0.length c2_0) l2_0) ∧ (w'.heap[gb441]? = some (.cells #[.slice A0_0 l0_0.length c0_0, .int .i64 a0_1] 24 (0, 0))) ∧ (w'.heap[gb442]? = some (.cells #[.slice A2_0 l2_0.length c2_0, .int .i64 a2_1] 24 (0, 0))) ∧ (w'.heap[s_.2]? = some (.cells #[.slice none 0 0, .int .i64 0] 24 (0, 0))) ∧ (w.heap.size ≤ s_.2) ∧ (w.heap.size ≤ s_.2) ∧ (gb441 ≠ s_.2) ∧ (s_.2 ≠ gb441) ∧ (gb442 ≠ s_.2) ∧ (s_.2 ≠ gb442) ∧ (Below w.heap.size w w')) ?_ ?_
     rotate_left
     ·intro hCont
      refine two_ (i := 2) (j := 6) (Ni := some 52) (Nj := some 8) #[true, true, true, true, true, false, false, false] #[true, true, false, true, true, false, true, false] rfl rfl rfl rfl (two_of HT_.out (by kernel_rfl)) (by decide) (by decide) (fun K hK => ?_) (fun K hK => ?_)
      ·skip
       refine R_append_rows_step (Kd.int .u8) (w0 := w) w.heap.size (by rfl) (.const (.slice none 0 0)) (.tmp 51) 22 5 (.int .u8 0) 1 rfl Try.underlying22 info5 rfl (by decide) (by omega) (.slice none 0 0) ([] : List Int) l0_0 _ _ _ (fun k_ => (w.heap.size ≤ k_)) (fun _ => False) rfl rfl ?aO ?aR (fun _ _ h => h) (fun _ h => h.elim) ?aF ?aB ?aS ?aL ?_
       (case aR => repeat (first | exact (V_reads' HO_442000.out).2.2 | (with_reducible refine C_alloc ?_ _) | (with_reducible refine C_drewN ?_ _) | (with_reducible refine C_drew ?_)))
       (case aB => exact (by repeat (first | (with_reducible first | exact HB.out | apply bA | apply bN | apply bD | refine bS ?_ GE441.out | refine bS ?_ GE442.out) | exact HB.out)))
       (case aF => exact (fun k_ hk => (Nat.le_trans (below_size (by repeat (first | (with_reducible first | exact HB.out | apply bA | apply bN | apply bD | refine bS ?_ GE441.out | refine bS ?_ GE442.out) | exact HB.out))) hk)))
       (case aO => exact ((R_nil _ _ _ _ (fun k_ => (w.heap.size ≤ k_)))))
       (case aS => exact (below_size (by repeat (first | (with_reducible first | exact HB.out | apply bA | apply bN | apply bD | refine bS ?_ GE441.out | refine bS ?_ GE442.out) | exact HB.out))))
       (case aL => have := LMc50.out; omega)
       intro v451 w52 ho hb hg hat
       rw [← Ny450.out] at ho
       have n0_ := aM (V_afterv (V_apart_nil (by (with_reducible repeat (first | apply vA | apply vN | apply vD)); exact HO_442000.out)) hg hat)
       have n1_ := aM (V_afterv (V_apart_nil (by (with_reducible repeat (first | apply vA | apply vN | apply vD)); exact HO_443000.out)) hg hat)
       have n2_ := aM (blk_grown (g := gb441) (o := .cells #[.slice A0_0 l0_0.length c0_0, .int .i64 a0_1] 24 (0, 0)) (by (with_reducible repeat (first | refine kN ?_ _ | refine kD ?_ | refine kA ?_ _)); exact BK441.out) hg (by simp [Value.ownBlock]))
       have n3_ := aM (blk_grown (g := gb442) (o := .cells #[.slice A2_0 l2_0.length c2_0, .int .i64 a2_1] 24 (0, 0)) (by (with_reducible repeat (first | refine kN ?_ _ | refine kD ?_ | refine kA ?_ _)); exact BK442.out) hg (by simp [Value.ownBlock]))
       have n4_ := aM (hb)
       have n5_ := aM (ho)
       clear HO_442000
       clear HO_443000
       clear BK441
       clear BK442
       clear HB
       have HO_442000 := n0_
       have HO_443000 := n1_
       have BK441 := n2_
       have BK442 := n3_
       have HB := n4_
       have HO452 := n5_
       clear n0_ n1_ n2_ n3_ n4_ n5_
       clear ho hb hg hat
       obtain ⟨Ao53, co53, eo53⟩ := R_slice HO452.out
       (first | subst eo53 | (injection eo53 with f1_ f2_ f3_; have f4_ := f1_.symm; have f5_ := f3_.symm; clear f1_ f2_ f3_; subst f4_; subst f5_))
       refine hK.out _ _ ⟨(blk_cell BK441.out 0).trans rfl, (blk_cell BK441.out 1).trans rfl⟩ (fun hHeld => ?_)
       clear hK K
       refine norm_ (a' := ?_) ?_ ?_
       rotate_left
       ·show Act.put _ (some 52) _ = _
        simp only [Act.put, sA, sZ, sS, i64_w, i32_w]
        rfl
       refine pure_ (i := 5) (N := some 55) (v := ?_) (a' := ?_) #[true, true, true, true, true, true, false, false] rfl rfl (any_of HT_.out (by kernel_rfl)) (fun _ _ _ h => h) (Or.inl ⟨by rfl, ?_⟩) ?_ ?_
       rotate_left
       ·intro w'
        go_simp
        with_reducible rfl
       rotate_left
       ·simp only [Act.put, sA, sZ, sS, i64_w, i32_w]
        rfl
       refine one_ (i := 6) (N := some 8) #[true, true, true, true, true, true, true, false] rfl rfl (one_of HT_.out (by kernel_rfl)) (by decide) (fun K hK => ?_)
       refine box_step ?hg (N := 8) ?hd (cs := #[.slice none 0 0, .int .i64 0]) (t := 24) ?hr ?_; (case hd => rfl); (case hg => rfl); (case hr => first | (go_simp; done) | (go_simp; rfl))
       intro gb453 hg w54 hbox hb
       have n0_ := aM (V_below (V_elderB (by (with_reducible repeat (first | apply vA | apply vN | apply vD)); exact HO_442000.out) gb453 (Nat.le_of_eq hg.symm)) hb)
       have n1_ := aM (V_below (V_elderB (by (with_reducible repeat (first | apply vA | apply vN | apply vD)); exact HO_443000.out) gb453 (Nat.le_of_eq hg.symm)) hb)
       have n2_ := aM (R_below (by (with_reducible repeat (first | apply rA | apply rN | apply rD)); exact HO452.out) hb)
       have n3_ := aM (blk_below (g := gb441) (o := .cells #[.slice A0_0 l0_0.length c0_0, .int .i64 a0_1] 24 (0, 0)) (by (with_reducible repeat (first | refine kN ?_ _ | refine kD ?_ | refine kA ?_ _)); exact BK441.out) hb)
       have n4_ := aM (blk_below (g := gb442) (o := .cells #[.slice A2_0 l2_0.length c2_0, .int .i64 a2_1] 24 (0, 0)) (by (with_reducible repeat (first | refine kN ?_ _ | refine kD ?_ | refine kA ?_ _)); exact BK442.out) hb)
       have n5_ := aM (below_step (by repeat (first | (with_reducible first | exact HB.out | apply bA | apply bN | apply bD | refine bS ?_ GE441.out | refine bS ?_ GE442.out) | exact HB.out)) hb)
       have n6_ := aM (hbox)
       have n7_ := aM ((by rw [hg]; exact (below_size (by repeat (first | (with_reducible first | exact HB.out | apply bA | apply bN | apply bD | refine bS ?_ GE441.out | refine bS ?_ GE442.out) | exact HB.out))) : w.heap.size ≤ gb453))
       have n8_ := aM ((by rw [hg]; exact (below_size (by repeat (first | (with_reducible first | exact HB.out | apply bA | apply bN | apply bD | refine bS ?_ GE441.out | refine bS ?_ GE442.out) | exact HB.out))) : w.heap.size ≤ gb453))
       have n9_ := aM ((by rw [hg]; exact Nat.ne_of_lt (blk_lt (g := gb441) (o := .cells #[.slice A0_0 l0_0.length c0_0, .int .i64 a0_1] 24 (0, 0)) (by (with_reducible repeat (first | refine kN ?_ _ | refine kD ?_ | refine kA ?_ _)); exact BK441.out)) : gb441 ≠ gb453))
       have n10_ := aM ((by rw [hg]; exact Nat.ne_of_gt (blk_lt (g := gb441) (o := .cells #[.slice A0_0 l0_0.length c0_0, .int .i64 a0_1] 24 (0, 0)) (by (with_reducible repeat (first | refine kN ?_ _ | refine kD ?_ | refine kA ?_ _)); exact BK441.out)) : gb453 ≠ gb441))
       have n11_ := aM ((by rw [hg]; exact Nat.ne_of_lt (blk_lt (g := gb442) (o := .cells #[.slice A2_0 l2_0.length c2_0, .int .i64 a2_1] 24 (0, 0)) (by (with_reducible repeat (first | refine kN ?_ _ | refine kD ?_ | refine kA ?_ _)); exact BK442.out)) : gb442 ≠ gb453))
       have n12_ := aM ((by rw [hg]; exact Nat.ne_of_gt (blk_lt (g := gb442) (o := .cells #[.slice A2_0 l2_0.length c2_0, .int .i64 a2_1] 24 (0, 0)) (by (with_reducible repeat (first | refine kN ?_ _ | refine kD ?_ | refine kA ?_ _)); exact BK442.out)) : gb453 ≠ gb442))
       clear HO_442000
       clear HO_443000
       clear HO452
       clear BK441
       clear BK442
       clear HB
       have HO_442000 := n0_
       have HO_443000 := n1_
       have HO452 := n2_
       have BK441 := n3_
       have BK442 := n4_
       have HB := n5_
       have BK453 := n6_
       have GW453 := n7_
       have GE453 := n8_
       have NB441_453 := n9_
       have NB453_441 := n10_
       have NB442_453 := n11_
       have NB453_442 := n12_
       clear n0_ n1_ n2_ n3_ n4_ n5_ n6_ n7_ n8_ n9_ n10_ n11_ n12_
       clear hb hbox hg
       refine hK.out _ _ ⟨(blk_cell BK441.out 0).trans rfl, (blk_cell BK441.out 1).trans rfl⟩ (fun hHeld => ?_)
       clear hK K
       refine norm_ (a' := ?_) ?_ ?_
       rotate_left
       ·show Act.put _ (some 8) _ = _
        simp only [Act.put, sA, sZ, sS, i64_w, i32_w]
        rfl
       exact norm_ (by simp only [putAll, Act.put, sA, sZ, sS]) (hCont (.slice Ao53 y450.length co53, gb453) _ ⟨hHeld, (by (with_reducible repeat (first | apply rA | apply rN | apply rD)); exact HO452.out), (by (with_reducible repeat (first | apply vA | apply vN | apply vD)); exact V_mono HO_442000.out (fun _ hk => ⟨hk.1.1.1, ⟨hk.1.2, ⟨hk.1.1.2.1, ⟨hk.1.1.2.2, hk.2⟩⟩⟩⟩)), (by (with_reducible repeat (first | apply vA | apply vN | apply vD)); exact V_mono HO_443000.out (fun _ hk => ⟨hk.1.1.1, ⟨hk.1.2, ⟨hk.1.1.2.1, ⟨hk.1.1.2.2, hk.2⟩⟩⟩⟩)), (by (with_reducible repeat (first | refine kN ?_ _ | refine kD ?_ | refine kA ?_ _)); exact BK441.out), (by (with_reducible repeat (first | refine kN ?_ _ | refine kD ?_ | refine kA ?_ _)); exact BK442.out), (by (with_reducible repeat (first | refine kN ?_ _ | refine kD ?_ | refine kA ?_ _)); exact BK453.out), GW453.out, GE453.out, NB441_453.out, NB453_441.out, NB442_453.out, NB453_442.out, (by repeat (first | (with_reducible first | exact HB.out | apply bA | apply bN | apply bD | refine bS ?_ GE441.out | refine bS ?_ GE442.out | refine bS ?_ GE453.out) | exact HB.out))⟩)
      ·skip
       refine box_step ?hg (N := 8) ?hd (cs := #[.slice none 0 0, .int .i64 0]) (t := 24) ?hr ?_; (case hd => rfl); (case hg => rfl); (case hr => first | (go_simp; done) | (go_simp; rfl))
       intro gb453 hg w52 hbox hb
       have n0_ := aM (V_below (V_elderB (by (with_reducible repeat (first | apply vA | apply vN | apply vD)); exact HO_442000.out) gb453 (Nat.le_of_eq hg.symm)) hb)
       have n1_ := aM (V_below (V_elderB (by (with_reducible repeat (first | apply vA | apply vN | apply vD)); exact HO_443000.out) gb453 (Nat.le_of_eq hg.symm)) hb)
       have n2_ := aM (blk_below (g := gb441) (o := .cells #[.slice A0_0 l0_0.length c0_0, .int .i64 a0_1] 24 (0, 0)) (by (with_reducible repeat (first | refine kN ?_ _ | refine kD ?_ | refine kA ?_ _)); exact BK441.out) hb)
       have n3_ := aM (blk_below (g := gb442) (o := .cells #[.slice A2_0 l2_0.length c2_0, .int .i64 a2_1] 24 (0, 0)) (by (with_reducible repeat (first | refine kN ?_ _ | refine kD ?_ | refine kA ?_ _)); exact BK442.out) hb)
       have n4_ := aM (below_step (by repeat (first | (with_reducible first | exact HB.out | apply bA | apply bN | apply bD | refine bS ?_ GE441.out | refine bS ?_ GE442.out) | exact HB.out)) hb)
       have n5_ := aM (hbox)
       have n6_ := aM ((by rw [hg]; exact (below_size (by repeat (first | (with_reducible first | exact HB.out | apply bA | apply bN | apply bD | refine bS ?_ GE441.out | refine bS ?_ GE442.out) | exact HB.out))) : w.heap.size ≤ gb453))
       have n7_ := aM ((by rw [hg]; exact (below_size (by repeat (first | (with_reducible first | exact HB.out | apply bA | apply bN | apply bD | refine bS ?_ GE441.out | refine bS ?_ GE442.out) | exact HB.out))) : w.heap.size ≤ gb453))
       have n8_ := aM ((by rw [hg]; exact Nat.ne_of_lt (blk_lt (g := gb441) (o := .cells #[.slice A0_0 l0_0.length c0_0, .int .i64 a0_1] 24 (0, 0)) (by (with_reducible repeat (first | refine kN ?_ _ | refine kD ?_ | refine kA ?_ _)); exact BK441.out)) : gb441 ≠ gb453))
       have n9_ := aM ((by rw [hg]; exact Nat.ne_of_gt (blk_lt (g := gb441) (o := .cells #[.slice A0_0 l0_0.length c0_0, .int .i64 a0_1] 24 (0, 0)) (by (with_reducible repeat (first | refine kN ?_ _ | refine kD ?_ | refine kA ?_ _)); exact BK441.out)) : gb453 ≠ gb441))
       have n10_ := aM ((by rw [hg]; exact Nat.ne_of_lt (blk_lt (g := gb442) (o := .cells #[.slice A2_0 l2_0.length c2_0, .int .i64 a2_1] 24 (0, 0)) (by (with_reducible repeat (first | refine kN ?_ _ | refine kD ?_ | refine kA ?_ _)); exact BK442.out)) : gb442 ≠ gb453))
       have n11_ := aM ((by rw [hg]; exact Nat.ne_of_gt (blk_lt (g := gb442) (o := .cells #[.slice A2_0 l2_0.length c2_0, .int .i64 a2_1] 24 (0, 0)) (by (with_reducible repeat (first | refine kN ?_ _ | refine kD ?_ | refine kA ?_ _)); exact BK442.out)) : gb453 ≠ gb442))
       clear HO_442000
       clear HO_443000
       clear BK441
       clear BK442
       clear HB
       have HO_442000 := n0_
       have HO_443000 := n1_
       have BK441 := n2_
       have BK442 := n3_
       have HB := n4_
       have BK453 := n5_
       have GW453 := n6_
       have GE453 := n7_
       have NB441_453 := n8_
       have NB453_441 := n9_
       have NB442_453 := n10_
       have NB453_442 := n11_
       clear n0_ n1_ n2_ n3_ n4_ n5_ n6_ n7_ n8_ n9_ n10_ n11_
       clear hb hbox hg
       refine hK.out _ _ ⟨(blk_cell BK441.out 0).trans rfl, (blk_cell BK441.out 1).trans rfl⟩ (fun hHeld => ?_)
       clear hK K
       refine norm_ (a' := ?_) ?_ ?_
       rotate_left
       ·show Act.put _ (some 8) _ = _
        simp only [Act.put, sA, sZ, sS, i64_w, i32_w]
        rfl
       refine one_ (i := 2) (N := some 52) #[true, true, true, true, true, false, true, false] rfl rfl (one_of HT_.out (by kernel_rfl)) (by decide) (fun K hK => ?_)
       refine R_append_rows_step (Kd.int .u8) (w0 := w) w.heap.size (by rfl) (.const (.slice none 0 0)) (.tmp 51) 22 5 (.int .u8 0) 1 rfl Try.underlying22 info5 rfl (by decide) (by omega) (.slice none 0 0) ([] : List Int) l0_0 _ _ _ (fun k_ => (w.heap.size ≤ k_)) (fun _ => False) rfl rfl ?aO ?aR (fun _ _ h => h) (fun _ h => h.elim) ?aF ?aB ?aS ?aL ?_
       (case aR => repeat (first | exact (V_reads' HO_442000.out).2.2 | (with_reducible refine C_alloc ?_ _) | (with_reducible refine C_drewN ?_ _) | (with_reducible refine C_drew ?_)))
       (case aB => exact (by repeat (first | (with_reducible first | exact HB.out | apply bA | apply bN | apply bD | refine bS ?_ GE441.out | refine bS ?_ GE442.out | refine bS ?_ GE453.out) | exact HB.out)))
       (case aF => exact (fun k_ hk => (Nat.le_trans (below_size (by repeat (first | (with_reducible first | exact HB.out | apply bA | apply bN | apply bD | refine bS ?_ GE441.out | refine bS ?_ GE442.out | refine bS ?_ GE453.out) | exact HB.out))) hk)))
       (case aO => exact ((R_nil _ _ _ _ (fun k_ => (w.heap.size ≤ k_)))))
       (case aS => exact (below_size (by repeat (first | (with_reducible first | exact HB.out | apply bA | apply bN | apply bD | refine bS ?_ GE441.out | refine bS ?_ GE442.out | refine bS ?_ GE453.out) | exact HB.out))))
       (case aL => have := LMc50.out; omega)
       intro v451 w53 ho hb hg hat
       rw [← Ny450.out] at ho
       have n0_ := aM (V_afterv (V_apart_nil (by (with_reducible repeat (first | apply vA | apply vN | apply vD)); exact HO_442000.out)) hg hat)
       have n1_ := aM (V_afterv (V_apart_nil (by (with_reducible repeat (first | apply vA | apply vN | apply vD)); exact HO_443000.out)) hg hat)
       have n2_ := aM (blk_grown (g := gb441) (o := .cells #[.slice A0_0 l0_0.length c0_0, .int .i64 a0_1] 24 (0, 0)) (by (with_reducible repeat (first | refine kN ?_ _ | refine kD ?_ | refine kA ?_ _)); exact BK441.out) hg (by simp [Value.ownBlock]))
       have n3_ := aM (blk_grown (g := gb442) (o := .cells #[.slice A2_0 l2_0.length c2_0, .int .i64 a2_1] 24 (0, 0)) (by (with_reducible repeat (first | refine kN ?_ _ | refine kD ?_ | refine kA ?_ _)); exact BK442.out) hg (by simp [Value.ownBlock]))
       have n4_ := aM (blk_grown (g := gb453) (o := .cells #[.slice none 0 0, .int .i64 0] 24 (0, 0)) (by (with_reducible repeat (first | refine kN ?_ _ | refine kD ?_ | refine kA ?_ _)); exact BK453.out) hg (by simp [Value.ownBlock]))
       have n5_ := aM (hb)
       have n6_ := aM (ho)
       clear HO_442000
       clear HO_443000
       clear BK441
       clear BK442
       clear BK453
       clear HB
       have HO_442000 := n0_
       have HO_443000 := n1_
       have BK441 := n2_
       have BK442 := n3_
       have BK453 := n4_
       have HB := n5_
       have HO452 := n6_
       clear n0_ n1_ n2_ n3_ n4_ n5_ n6_
       clear ho hb hg hat
       obtain ⟨Ao54, co54, eo54⟩ := R_slice HO452.out
       (first | subst eo54 | (injection eo54 with f1_ f2_ f3_; have f4_ := f1_.symm; have f5_ := f3_.symm; clear f1_ f2_ f3_; subst f4_; subst f5_))
       refine hK.out _ _ ⟨(blk_cell BK441.out 0).trans rfl, (blk_cell BK441.out 1).trans rfl⟩ (fun hHeld => ?_)
       clear hK K
       refine norm_ (a' := ?_) ?_ ?_
       rotate_left
       ·show Act.put _ (some 52) _ = _
        simp only [Act.put, sA, sZ, sS, i64_w, i32_w]
        rfl
       refine pure_ (i := 5) (N := some 55) (v := ?_) (a' := ?_) #[true, true, true, true, true, true, true, false] rfl rfl (any_of HT_.out (by kernel_rfl)) (fun _ _ _ h => h) (Or.inl ⟨by rfl, ?_⟩) ?_ ?_
       rotate_left
       ·intro w'
        go_simp
        with_reducible rfl
       rotate_left
       ·simp only [Act.put, sA, sZ, sS, i64_w, i32_w]
        rfl
       exact norm_ (by simp only [putAll, Act.put, sA, sZ, sS]) (hCont (.slice Ao54 y450.length co54, gb453) _ ⟨hHeld, (by (with_reducible repeat (first | apply rA | apply rN | apply rD)); exact HO452.out), (by (with_reducible repeat (first | apply vA | apply vN | apply vD)); exact V_mono HO_442000.out (fun _ hk => ⟨hk.1.1.1, ⟨hk.2, ⟨hk.1.1.2.1, ⟨hk.1.1.2.2, hk.1.2⟩⟩⟩⟩)), (by (with_reducible repeat (first | apply vA | apply vN | apply vD)); exact V_mono HO_443000.out (fun _ hk => ⟨hk.1.1.1, ⟨hk.2, ⟨hk.1.1.2.1, ⟨hk.1.1.2.2, hk.1.2⟩⟩⟩⟩)), (by (with_reducible repeat (first | refine kN ?_ _ | refine kD ?_ | refine kA ?_ _)); exact BK441.out), (by (with_reducible repeat (first | refine kN ?_ _ | refine kD ?_ | refine kA ?_ _)); exact BK442.out), (by (with_reducible repeat (first | refine kN ?_ _ | refine kD ?_ | refine kA ?_ _)); exact BK453.out), GW453.out, GE453.out, NB441_453.out, NB453_441.out, NB442_453.out, NB453_442.out, (by repeat (first | (with_reducible first | exact HB.out | apply bA | apply bN | apply bD | refine bS ?_ GE441.out | refine bS ?_ GE442.out | refine bS ?_ GE453.out) | exact HB.out))⟩)
     rintro ⟨v451, gb453⟩ w55 ⟨hS_, h0_, h1_, h2_, h3_, h4_, h5_, h6_, h7_, h8_, h9_, h10_, h11_, h12_⟩
     have n0_ : Aside0 (Kd.R (Kd.int .u8) 5 w55 w.heap.size (fun k_ => (w.heap.size ≤ k_)) v451 y450) := ⟨h0_⟩
     have n1_ : Aside0 (Kd.V (Kd.int .u8) 5 w55 w.heap.size (fun k_ => ((P0_0_ k_ ∨ P2_0_ k_) ∨ w.heap.size ≤ k_) ∧ some k_ ≠ (v451 : Value).ownBlock ∧ k_ ≠ gb441 ∧ k_ ≠ gb442 ∧ k_ ≠ gb453) (.slice A0_0 l0_0.length c0_0) l0_0) := ⟨h1_⟩
     have n2_ : Aside0 (Kd.V (Kd.int .u8) 5 w55 w.heap.size (fun k_ => ((P0_0_ k_ ∨ P2_0_ k_) ∨ w.heap.size ≤ k_) ∧ some k_ ≠ (v451 : Value).ownBlock ∧ k_ ≠ gb441 ∧ k_ ≠ gb442 ∧ k_ ≠ gb453) (.slice A2_0 l2_0.length c2_0) l2_0) := ⟨h2_⟩
     have n3_ : Aside0 (w55.heap[gb441]? = some (.cells #[.slice A0_0 l0_0.length c0_0, .int .i64 a0_1] 24 (0, 0))) := ⟨h3_⟩
     have n4_ : Aside0 (w55.heap[gb442]? = some (.cells #[.slice A2_0 l2_0.length c2_0, .int .i64 a2_1] 24 (0, 0))) := ⟨h4_⟩
     have n5_ : Aside0 (w55.heap[gb453]? = some (.cells #[.slice none 0 0, .int .i64 0] 24 (0, 0))) := ⟨h5_⟩
     have n6_ : Aside0 (w.heap.size ≤ gb453) := ⟨h6_⟩
     have n7_ : Aside0 (w.heap.size ≤ gb453) := ⟨h7_⟩
     have n8_ : Aside0 (gb441 ≠ gb453) := ⟨h8_⟩
     have n9_ : Aside0 (gb453 ≠ gb441) := ⟨h9_⟩
     have n10_ : Aside0 (gb442 ≠ gb453) := ⟨h10_⟩
     have n11_ : Aside0 (gb453 ≠ gb442) := ⟨h11_⟩
     have n12_ : Aside0 (Below w.heap.size w w55) := ⟨h12_⟩
     clear HO_442000
     clear HO_443000
     clear BK441
     clear BK442
     clear HB
     clear h0_ h1_ h2_ h3_ h4_ h5_ h6_ h7_ h8_ h9_ h10_ h11_ h12_
     have HO452 := n0_
     have HO_442000 := n1_
     have HO_443000 := n2_
     have BK441 := n3_
     have BK442 := n4_
     have BK453 := n5_
     have GW453 := n6_
     have GE453 := n7_
     have NB441_453 := n8_
     have NB453_441 := n9_
     have NB442_453 := n10_
     have NB453_442 := n11_
     have HB := n12_
     clear n0_ n1_ n2_ n3_ n4_ n5_ n6_ n7_ n8_ n9_ n10_ n11_ n12_
     have hHeld : w55.cell? ⟨gb441, 0, none⟩ = some (.slice A0_0 l0_0.length c0_0) ∧ w55.cell? ⟨gb441, 1, none⟩ = some (.int .i64 a0_1) := hS_
     obtain ⟨Ao56, co56, eo56⟩ := R_slice HO452.out
     (first | subst eo56 | (injection eo56 with f1_ f2_ f3_; have f4_ := f1_.symm; have f5_ := f3_.symm; clear f1_ f2_ f3_; subst f4_; subst f5_))
     refine norm_ (a' := ?_) ?_ ?_
     rotate_left
     ·simp only [putAll, Act.put, sA, sZ, sS]
      rfl
     refine one_ (i := 7) (N := none) #[true, true, true, true, true, true, true, true] rfl rfl (one_of HT_.out (by kernel_rfl)) (by decide) (fun K hK => ?_)
     have hs57 : w55.cell? ⟨gb453, 0, none⟩ = some (.slice none 0 0) := (blk_cell BK453.out 0).trans rfl
     have hfs57 := blk_frozen BK453.out 0
     have hns57_0 := NB441_453.out
     have hns57_1 := NB442_453.out
     have hms57_0 := NB453_441.out
     have hms57_1 := NB453_442.out
     have hs58 : w55.cell? ⟨gb453, 1, none⟩ = some (.int .i64 0) := (blk_cell BK453.out 1).trans rfl
     have hfs58 := blk_frozen BK453.out 1
     have hns58_0 := NB441_453.out
     have hns58_1 := NB442_453.out
     have hms58_0 := NB453_441.out
     have hms58_1 := NB453_442.out
     refine skip_ (w1 := ?_) (by rfl) rfl ?_ ?_
     rotate_left
     ·go_simp
      rfl
     refine hK.out _ _ ⟨((cell_far (p := ⟨gb453, _, none⟩) NB441_453.out _).trans (((cell_far (p := ⟨gb453, _, none⟩) NB441_453.out _).trans (hHeld.1)))), ((cell_far (p := ⟨gb453, _, none⟩) NB441_453.out _).trans (((cell_far (p := ⟨gb453, _, none⟩) NB441_453.out _).trans (hHeld.2))))⟩ (fun hHeld => ?_)
     clear hK K
     refine done_ (done_of HT_.out (by kernel_rfl)) ?_
     try go_wp2
     (try simp only [Act.put, sA, sZ, sS])
     go_loopg [9, 10, 58] kj4 (fun kq v9 v10 v58 w' => ∃ (x9_2 : List (S52)) (x10_2 : List Int) (x58_2 : Int) (x454000_2 : List Int) (x454001_2 : Int) (u454000 : Value), v58 = .int .i64 x58_2 ∧ Aside0 (sBB.l0 kq t443 x9_2 x10_2 l1 (l1.length : Int) x58_2 l2_0 a2_1 x454000_2 x454001_2 = some r) ∧ Aside0 (kq ≤ kj4) ∧ Aside0 (Kd.R k52 52 w' w.heap.size (fun k_ => (w.heap.size ≤ k_)) v9 x9_2) ∧ Aside0 (Kd.R (Kd.int .i64) 3 w' w.heap.size (fun k_ => (w.heap.size ≤ k_)) v10 x10_2) ∧ Aside0 (Kd.V (Kd.int .u8) 5 w' w.heap.size (fun k_ => ((P0_0_ k_ ∨ P2_0_ k_) ∨ w.heap.size ≤ k_) ∧ some k_ ≠ (v9 : Value).ownBlock ∧ some k_ ≠ (v10 : Value).ownBlock ∧ some k_ ≠ (u454000 : Value).ownBlock ∧ k_ ≠ gb441 ∧ k_ ≠ gb442 ∧ k_ ≠ gb453) (.slice A0_0 l0_0.length c0_0) l0_0) ∧ Aside0 (Kd.V (Kd.int .u8) 5 w' w.heap.size (fun k_ => ((P0_0_ k_ ∨ P2_0_ k_) ∨ w.heap.size ≤ k_) ∧ some k_ ≠ (v9 : Value).ownBlock ∧ some k_ ≠ (v10 : Value).ownBlock ∧ some k_ ≠ (u454000 : Value).ownBlock ∧ k_ ≠ gb441 ∧ k_ ≠ gb442 ∧ k_ ≠ gb453) (.slice A2_0 l2_0.length c2_0) l2_0) ∧ Aside0 (Kd.R (Kd.int .u8) 5 w' w.heap.size (fun k_ => (w.heap.size ≤ k_)) u454000 x454000_2) ∧ Aside0 (w'.heap[gb441]? = some (.cells #[(.slice A0_0 l0_0.length c0_0), .int .i64 a0_1] 24 (0, 0))) ∧ Aside0 (w'.heap[gb442]? = some (.cells #[(.slice A2_0 l2_0.length c2_0), .int .i64 a2_1] 24 (0, 0))) ∧ Aside0 (w'.heap[gb453]? = some (.cells #[u454000, .int .i64 x454001_2] 24 (0, 0))) ∧ Aside0 (Below w.heap.size w w'))
     case atStart => exact ⟨(([] : List (S52))), (([] : List Int)), (0), (y450), (a0_1), (.slice Ao56 y450.length co56), (by first | rfl | (simp; done) | (simp [*]; done)), H', ⟨Nat.le_refl _⟩, ⟨by first | exact R_nil _ _ _ _ _ | exact N_nil _ _ _ _ _ | exact V_nil _ _ _ _ _ | exact Q_nil _ _ _ _ _ | exact S_nil _ _ _ _ _⟩, ⟨by first | exact R_nil _ _ _ _ _ | exact N_nil _ _ _ _ _ | exact V_nil _ _ _ _ _ | exact Q_nil _ _ _ _ _ | exact S_nil _ _ _ _ _⟩, ⟨by (with_reducible repeat (first | apply vA | apply vN | apply vD)); exact V_mono (V_far (p := ⟨gb453, 1, none⟩) (V_far (p := ⟨gb453, 0, none⟩) (V_mono HO_442000.out (fun k_ hk => (⟨hk, hk.2.2.2.2⟩ : _ ∧ k_ ≠ gb453))) (fun _ hk => hk.2) (.slice Ao56 y450.length co56)) (fun _ hk => hk.2) (.int .i64 a0_1)) (fun _ hk => ⟨hk.1.1, ⟨(by simp [Value.ownBlock]), ⟨(by simp [Value.ownBlock]), ⟨hk.1.2.1, ⟨hk.1.2.2.1, ⟨hk.1.2.2.2.1, hk.1.2.2.2.2⟩⟩⟩⟩⟩⟩)⟩, ⟨by (with_reducible repeat (first | apply vA | apply vN | apply vD)); exact V_mono (V_far (p := ⟨gb453, 1, none⟩) (V_far (p := ⟨gb453, 0, none⟩) (V_mono HO_443000.out (fun k_ hk => (⟨hk, hk.2.2.2.2⟩ : _ ∧ k_ ≠ gb453))) (fun _ hk => hk.2) (.slice Ao56 y450.length co56)) (fun _ hk => hk.2) (.int .i64 a0_1)) (fun _ hk => ⟨hk.1.1, ⟨(by simp [Value.ownBlock]), ⟨(by simp [Value.ownBlock]), ⟨hk.1.2.1, ⟨hk.1.2.2.1, ⟨hk.1.2.2.2.1, hk.1.2.2.2.2⟩⟩⟩⟩⟩⟩)⟩, ⟨by (with_reducible repeat (first | apply rA | apply rN | apply rD)); exact R_mono (R_far (p := ⟨gb453, 1, none⟩) (R_far (p := ⟨gb453, 0, none⟩) (R_types HO452.out BK453.out (by decide)) (fun _ hk => hk.2) (.slice Ao56 y450.length co56)) (fun _ hk => hk.2) (.int .i64 a0_1)) (fun _ hk => hk.1)⟩, ⟨by (with_reducible repeat (first | refine kN ?_ _ | refine kD ?_ | refine kA ?_ _)); refine blk_far ?_ NB441_453.out _; (with_reducible repeat (first | refine kN ?_ _ | refine kD ?_ | refine kA ?_ _)); refine blk_far ?_ NB441_453.out _; (with_reducible repeat (first | refine kN ?_ _ | refine kD ?_ | refine kA ?_ _)); exact BK441.out⟩, ⟨by (with_reducible repeat (first | refine kN ?_ _ | refine kD ?_ | refine kA ?_ _)); refine blk_far ?_ NB442_453.out _; (with_reducible repeat (first | refine kN ?_ _ | refine kD ?_ | refine kA ?_ _)); refine blk_far ?_ NB442_453.out _; (with_reducible repeat (first | refine kN ?_ _ | refine kD ?_ | refine kA ?_ _)); exact BK442.out⟩, ⟨by (with_reducible repeat (first | refine kN ?_ _ | refine kD ?_ | refine kA ?_ _)); refine blk_put (cs := #[.slice Ao56 y450.length co56, .int .i64 0]) ?_ 1 _ rfl; (with_reducible repeat (first | refine kN ?_ _ | refine kD ?_ | refine kA ?_ _)); refine blk_put (cs := #[.slice none 0 0, .int .i64 0]) ?_ 0 _ rfl; (with_reducible repeat (first | refine kN ?_ _ | refine kD ?_ | refine kA ?_ _)); exact BK453.out⟩, ⟨by repeat (first | (with_reducible first | exact HB.out | apply bA | apply bN | apply bD | refine bS ?_ GE441.out | refine bS ?_ GE442.out | refine bS ?_ GE453.out) | exact HB.out)⟩⟩
     case round =>
      clear H'
      try clear c1; try clear c2; try clear p2; try clear c3; try clear c4; try clear c5; try clear c8; try clear c9; try clear c10; try clear c11; try clear c11b0; try clear c11b1; try clear c12; try clear c20; try clear c20b0; try clear c20b1; try clear c22; try clear c33; try clear c42; try clear c49; try clear c50; try clear hcz13_0; try clear hcz13_1; try clear hcz14_0; try clear hcz14_1; try clear hcz23_0; try clear hcz23_1; try clear hcz24_0; try clear hcz24_1; try clear hcz29_0; try clear hcz29_1; try clear hcz31_0; try clear hcz31_1; try clear hcz34_0; try clear hcz34_1; try clear hcz35_0; try clear hcz35_1; try clear hcz40_0; try clear hcz40_1; try clear hcz43_0; try clear hcz43_1; try clear hcz44_0; try clear hcz44_1; try clear hfz13_0; try clear hfz13_1; try clear hfz14_0; try clear hfz14_1; try clear hfz23_0; try clear hfz23_1; try clear hfz24_0; try clear hfz24_1; try clear hfz29_0; try clear hfz29_1; try clear hfz31_0; try clear hfz31_1; try clear hfz34_0; try clear hfz34_1; try clear hfz35_0; try clear hfz35_1; try clear hfz40_0; try clear hfz40_1; try clear hfz43_0; try clear hfz43_1; try clear hfz44_0; try clear hfz44_1; try clear p2
      obtain ⟨x9_2, x10_2, x58_2, x454000_2, x454001_2, u454000, rfl, HA, HK2, HO_9, HO_10, HO_442000, HO_443000, HO_454000, BK441, BK442, BK453, HB⟩ := hrel
      cases gk with
      | zero => exact absurd HA.out (by simp [sBB.l0])
      | succ k2 =>
       have H := HA.out
       clear HA
       simp only [sBB.l0] at H
       by_cases c59 : x58_2 < (l1.length : Int)
       ·rw [if_pos c59] at H
        have c59b0 : decide (x58_2 < (l1.length : Int)) = true := decide_eq_true c59
        clear c59
        by_cases c60 : 0 ≤ x58_2
        ·rw [if_pos c60] at H
         have c60b0 : decide (0 ≤ x58_2) = true := decide_eq_true c60
         clear c60
         by_cases c61 : x58_2 < (l1.length : Int)
         ·rw [if_pos c61] at H
          have c61b0 : decide (x58_2 < (l1.length : Int)) = true := decide_eq_true c61
          clear c61
          replace H := Option.bind_eq_some_iff.mp H
          obtain ⟨⟨t456, t459, t460⟩, A620, H⟩ := H
          replace H : (if t460 = 0 then (if x9_2.length < 8796093022208 then (if x10_2.length < 17592186044416 then (sBB.l0 k2 t443 (x9_2 ++ [(⟨(rd_T52 l1 x58_2).f0, (rd_T52 l1 x58_2).f1⟩ : S52)]) (x10_2 ++ [x454001_2]) l1 (l1.length : Int) (wrap64 (x58_2 + 1)) l2_0 a2_1 t456 t459) else (none)) else (none)) else (sBB.l0 k2 t443 x9_2 x10_2 l1 (l1.length : Int) (wrap64 (x58_2 + 1)) l2_0 a2_1 x454000_2 x454001_2)) = some r := H
          have A62 := aM A620
          clear A620
          by_cases c63 : t460 = 0
          ·rw [if_pos c63] at H
           have c63b0 : (t460 == 0) = true := beq_iff_eq.mpr c63
           have c63b1 : (t460 != 0) = false := bne_eq_false_iff_eq.mpr c63
           clear c63
           by_cases c64 : x9_2.length < 8796093022208
           ·rw [if_pos c64] at H
            have LMc64 := aM c64
            clear c64
            obtain ⟨y462, hy462⟩ : ∃ y_ : List (S52), y_ = (x9_2 ++ [(⟨(rd_T52 l1 x58_2).f0, (rd_T52 l1 x58_2).f1⟩ : S52)]) := ⟨_, rfl⟩
            replace H : (if x10_2.length < 17592186044416 then (sBB.l0 k2 t443 y462 (x10_2 ++ [x454001_2]) l1 (l1.length : Int) (wrap64 (x58_2 + 1)) l2_0 a2_1 t456 t459) else (none)) = some r := by first | (rw [hy462]; with_reducible exact H) | (have H2_ := (Option.bind_some _ _).symm.trans H; rw [hy462]; with_reducible exact H2_) | (have H2_ := (Option.bind_some _ _).symm.trans H; with_reducible exact H2_) | with_reducible exact H | (rw [hy462]; exact H) | exact H
            have Ny462 := aM hy462
            clear hy462
            by_cases c65 : x10_2.length < 17592186044416
            ·rw [if_pos c65] at H
             have LMc65 := aM c65
             clear c65
             obtain ⟨y465, hy465⟩ : ∃ y_ : List Int, y_ = (x10_2 ++ [x454001_2]) := ⟨_, rfl⟩
             replace H : (sBB.l0 k2 t443 y462 y465 l1 (l1.length : Int) (wrap64 (x58_2 + 1)) l2_0 a2_1 t456 t459) = some r := by first | (rw [hy465]; with_reducible exact H) | (have H2_ := (Option.bind_some _ _).symm.trans H; rw [hy465]; with_reducible exact H2_) | (have H2_ := (Option.bind_some _ _).symm.trans H; with_reducible exact H2_) | with_reducible exact H | (rw [hy465]; exact H) | exact H
             have Ny465 := aM hy465
             clear hy465
             have H' := aM H
             clear H
             have p454 : 0 ≤ (x58_2 : Int) := of_decide_eq_true (by first | (with_reducible assumption) | assumption)
             have q454 : x58_2 < (l1.length : Int) := of_decide_eq_true (by first | (with_reducible assumption) | assumption)
             obtain ⟨ad454, e454, hx454_0, hx454_1⟩ := at_T52 HR1.out x58_2 p454 q454
             cases e454
             replace hx454_0 := (HB.out.cell (World.block_lt_of_cell? w _ hx454_0)).trans hx454_0
             replace hx454_1 := (HB.out.cell (World.block_lt_of_cell? w _ hx454_1)).trans hx454_1
             replace p454 := eq_true p454
             replace q454 := eq_true q454
             go_wp2_with (first | ((with_reducible refine gate_dst (N := 12) rfl ?_); (try (refine gate_guard (by rfl) ?_; dsimp only)); refine box_event ?hg (N := 12) ?hd (cs := #[.int .u64 0, .int .i64 0]) (t := 52) ?hr ?_; (case hd => rfl); (case hg => rfl); (case hr => first | (go_simp; done) | (go_simp; rfl)); intro gb455 hg w66 hbox hb; have n0_ := aM (R_below (R_elderB (by (with_reducible repeat (first | apply rA | apply rN | apply rD)); exact HO_9.out) gb455 (Nat.le_of_eq hg.symm)) hb); have n1_ := aM (R_below (by (with_reducible repeat (first | apply rA | apply rN | apply rD)); exact HO_10.out) hb); have n2_ := aM (V_below (V_elderB (by (with_reducible repeat (first | apply vA | apply vN | apply vD)); exact HO_442000.out) gb455 (Nat.le_of_eq hg.symm)) hb); have n3_ := aM (V_below (V_elderB (by (with_reducible repeat (first | apply vA | apply vN | apply vD)); exact HO_443000.out) gb455 (Nat.le_of_eq hg.symm)) hb); have n4_ := aM (R_below (by (with_reducible repeat (first | apply rA | apply rN | apply rD)); exact HO_454000.out) hb); have n5_ := aM (blk_below (g := gb441) (o := .cells #[.slice A0_0 l0_0.length c0_0, .int .i64 a0_1] 24 (0, 0)) (by (with_reducible repeat (first | refine kN ?_ _ | refine kD ?_ | refine kA ?_ _)); exact BK441.out) hb); have n6_ := aM (blk_below (g := gb442) (o := .cells #[.slice A2_0 l2_0.length c2_0, .int .i64 a2_1] 24 (0, 0)) (by (with_reducible repeat (first | refine kN ?_ _ | refine kD ?_ | refine kA ?_ _)); exact BK442.out) hb); have n7_ := aM (blk_below (g := gb453) (o := .cells #[u454000, .int .i64 x454001_2] 24 (0, 0)) (by (with_reducible repeat (first | refine kN ?_ _ | refine kD ?_ | refine kA ?_ _)); exact BK453.out) hb); have n8_ := aM (below_step (by repeat (first | (with_reducible first | exact HB.out | apply bA | apply bN | apply bD | refine bS ?_ GE441.out | refine bS ?_ GE442.out | refine bS ?_ GE453.out) | exact HB.out)) hb); have n9_ := aM (hbox); have n10_ := aM ((by rw [hg]; exact (below_size (by repeat (first | (with_reducible first | exact HB.out | apply bA | apply bN | apply bD | refine bS ?_ GE441.out | refine bS ?_ GE442.out | refine bS ?_ GE453.out) | exact HB.out))) : w.heap.size ≤ gb455)); have n11_ := aM ((by rw [hg]; exact (below_size (by repeat (first | (with_reducible first | exact HB.out | apply bA | apply bN | apply bD | refine bS ?_ GE441.out | refine bS ?_ GE442.out | refine bS ?_ GE453.out) | exact HB.out))) : w.heap.size ≤ gb455)); have n12_ := aM ((by rw [hg]; exact Nat.ne_of_lt (blk_lt (g := gb441) (o := .cells #[.slice A0_0 l0_0.length c0_0, .int .i64 a0_1] 24 (0, 0)) (by (with_reducible repeat (first | refine kN ?_ _ | refine kD ?_ | refine kA ?_ _)); exact BK441.out)) : gb441 ≠ gb455)); have n13_ := aM ((by rw [hg]; exact Nat.ne_of_gt (blk_lt (g := gb441) (o := .cells #[.slice A0_0 l0_0.length c0_0, .int .i64 a0_1] 24 (0, 0)) (by (with_reducible repeat (first | refine kN ?_ _ | refine kD ?_ | refine kA ?_ _)); exact BK441.out)) : gb455 ≠ gb441)); have n14_ := aM ((by rw [hg]; exact Nat.ne_of_lt (blk_lt (g := gb442) (o := .cells #[.slice A2_0 l2_0.length c2_0, .int .i64 a2_1] 24 (0, 0)) (by (with_reducible repeat (first | refine kN ?_ _ | refine kD ?_ | refine kA ?_ _)); exact BK442.out)) : gb442 ≠ gb455)); have n15_ := aM ((by rw [hg]; exact Nat.ne_of_gt (blk_lt (g := gb442) (o := .cells #[.slice A2_0 l2_0.length c2_0, .int .i64 a2_1] 24 (0, 0)) (by (with_reducible repeat (first | refine kN ?_ _ | refine kD ?_ | refine kA ?_ _)); exact BK442.out)) : gb455 ≠ gb442)); have n16_ := aM ((by rw [hg]; exact Nat.ne_of_lt (blk_lt (g := gb453) (o := .cells #[u454000, .int .i64 x454001_2] 24 (0, 0)) (by (with_reducible repeat (first | refine kN ?_ _ | refine kD ?_ | refine kA ?_ _)); exact BK453.out)) : gb453 ≠ gb455)); have n17_ := aM ((by rw [hg]; exact Nat.ne_of_gt (blk_lt (g := gb453) (o := .cells #[u454000, .int .i64 x454001_2] 24 (0, 0)) (by (with_reducible repeat (first | refine kN ?_ _ | refine kD ?_ | refine kA ?_ _)); exact BK453.out)) : gb455 ≠ gb453)); clear HO_9; clear HO_10; clear HO_442000; clear HO_443000; clear HO_454000; clear BK441; clear BK442; clear BK453; clear HB; have HO_9 := n0_; have HO_10 := n1_; have HO_442000 := n2_; have HO_443000 := n3_; have HO_454000 := n4_; have BK441 := n5_; have BK442 := n6_; have BK453 := n7_; have HB := n8_; have BK455 := n9_; have GW455 := n10_; have GE455 := n11_; have NB441_455 := n12_; have NB455_441 := n13_; have NB442_455 := n14_; have NB455_442 := n15_; have NB453_455 := n16_; have NB455_453 := n17_; clear n0_ n1_ n2_ n3_ n4_ n5_ n6_ n7_ n8_ n9_ n10_ n11_ n12_ n13_ n14_ n15_ n16_ n17_; clear hb hbox hg; have hnb67 := NB455_441.out; have hnc67 := NB441_455.out; have hnb68 := NB455_442.out; have hnc68 := NB442_455.out; have hnb69 := NB455_453.out; have hnc69 := NB453_455.out; have hcz70_0 : w66.cell? ⟨gb455, 0, none⟩ = some (.int .u64 0) := (blk_cell BK455.out 0).trans rfl; have hcz70_1 : w66.cell? ⟨gb455, 1, none⟩ = some (.int .i64 0) := (blk_cell BK455.out 1).trans rfl; have hfz70_0 := blk_frozen BK455.out 0; have hfz70_1 := blk_frozen BK455.out 1; have hnb71 := NB453_441.out; have hnc71 := NB441_453.out; have hnb72 := NB453_442.out; have hnc72 := NB442_453.out; have hcz73_0 : w66.cell? ⟨gb453, 0, none⟩ = some (u454000) := (blk_cell BK453.out 0).trans rfl; have hcz73_1 : w66.cell? ⟨gb453, 1, none⟩ = some (.int .i64 x454001_2) := (blk_cell BK453.out 1).trans rfl; have hfz73_0 := blk_frozen BK453.out 0; have hfz73_1 := blk_frozen BK453.out 1; obtain ⟨Ao74, co74, eo74⟩ := R_slice HO_454000.out; subst eo74) | ((with_reducible refine gate_callee (f := 26) rfl ?_); refine goesL_ (some 65) rfl rfl Try.func26 (by kernel_rfl) rfl #[.agg #[.slice Ao74 x454000_2.length co74, .int .i64 x454001_2], .agg #[.int .u64 ((rd_T52 l1 x58_2).f0), .int .i64 ((rd_T52 l1 x58_2).f1)]] rfl (by (try simp only [List.map_toArray, List.map_cons, List.map_nil]); first | done | rfl | (simp only [List.length_drop, List.length_take]; rfl)) ?_; (with_reducible refine (squelchlaw01_put.calls k2 _ _ x454000_2 x454001_2 ((rd_T52 l1 x58_2).f0) ((rd_T52 l1 x58_2).f1) t456 t459 t460 _ ?side1 ?side2 A62.out).mono ?_); (case side1 => refine (R_reads' (e := 5) (base := w.heap.size) (ok := fun k_ => ((w.heap.size ≤ k_))) (n := x454000_2.length) (c := co74) ?_).2.2; exact (by (with_reducible repeat (first | apply rA | apply rN | apply rD)); exact (R_mono (R_far (p := ⟨gb455, 1, none⟩) (R_far (p := ⟨gb455, 0, none⟩) (R_types HO_454000.out BK455.out (by decide)) (fun _ hk => hk.2) (.int .u64 ((rd_T52 l1 x58_2).f0))) (fun _ hk => hk.2) (.int .i64 ((rd_T52 l1 x58_2).f1))) (fun _ h_ => h_.1)))); (case side2 => exact (R_reads' HO_454000.out).2.1); rintro e w75 ⟨v457, rfl, ho0, hb⟩; refine ⟨_, rfl, ?_⟩; have n0_ := aM (R_below (by (with_reducible repeat (first | apply rA | apply rN | apply rD)); exact (R_mono (R_far (p := ⟨gb455, 1, none⟩) (R_far (p := ⟨gb455, 0, none⟩) (R_mono HO_9.out (fun k_ hk => (⟨hk, hk.2⟩ : _ ∧ k_ ≠ gb455))) (fun _ hk => hk.2) (.int .u64 ((rd_T52 l1 x58_2).f0))) (fun _ hk => hk.2) (.int .i64 ((rd_T52 l1 x58_2).f1))) (fun _ h_ => h_.1))) hb); have n1_ := aM (R_below (by (with_reducible repeat (first | apply rA | apply rN | apply rD)); exact (R_mono (R_far (p := ⟨gb455, 1, none⟩) (R_far (p := ⟨gb455, 0, none⟩) (R_types HO_10.out BK455.out (by decide)) (fun _ hk => hk.2) (.int .u64 ((rd_T52 l1 x58_2).f0))) (fun _ hk => hk.2) (.int .i64 ((rd_T52 l1 x58_2).f1))) (fun _ h_ => h_.1))) hb); have n2_ := aM (V_elder' (by (with_reducible repeat (first | apply vA | apply vN | apply vD)); exact (V_mono (V_far (p := ⟨gb455, 1, none⟩) (V_far (p := ⟨gb455, 0, none⟩) (V_mono HO_442000.out (fun k_ hk => (⟨hk, hk.2⟩ : _ ∧ k_ ≠ gb455))) (fun _ hk => hk.2) (.int .u64 ((rd_T52 l1 x58_2).f0))) (fun _ hk => hk.2) (.int .i64 ((rd_T52 l1 x58_2).f1))) (fun _ h_ => h_.1))) (R_base ho0) hb); have n3_ := aM (V_elder' (by (with_reducible repeat (first | apply vA | apply vN | apply vD)); exact (V_mono (V_far (p := ⟨gb455, 1, none⟩) (V_far (p := ⟨gb455, 0, none⟩) (V_mono HO_443000.out (fun k_ hk => (⟨hk, hk.2⟩ : _ ∧ k_ ≠ gb455))) (fun _ hk => hk.2) (.int .u64 ((rd_T52 l1 x58_2).f0))) (fun _ hk => hk.2) (.int .i64 ((rd_T52 l1 x58_2).f1))) (fun _ h_ => h_.1))) (R_base ho0) hb); have n4_ := aM (R_elder' (by (with_reducible repeat (first | apply rA | apply rN | apply rD)); exact (R_mono (R_far (p := ⟨gb455, 1, none⟩) (R_far (p := ⟨gb455, 0, none⟩) (R_types HO_454000.out BK455.out (by decide)) (fun _ hk => hk.2) (.int .u64 ((rd_T52 l1 x58_2).f0))) (fun _ hk => hk.2) (.int .i64 ((rd_T52 l1 x58_2).f1))) (fun _ h_ => h_.1))) (R_base ho0) hb); have n5_ := aM (R_lower (R_new' (R_newM (M := fun k_ => (w.heap.size ≤ k_)) ho0 (below_size (by repeat (first | (with_reducible first | exact HB.out | apply bA | apply bN | apply bD | refine bS ?_ GE441.out | refine bS ?_ GE442.out | refine bS ?_ GE453.out | refine bS ?_ GE455.out) | exact HB.out))) (fun k_ h_ => h_)) (R_lt (by (with_reducible repeat (first | apply rA | apply rN | apply rD)); exact (R_mono (R_far (p := ⟨gb455, 1, none⟩) (R_far (p := ⟨gb455, 0, none⟩) (R_types HO_454000.out BK455.out (by decide)) (fun _ hk => hk.2) (.int .u64 ((rd_T52 l1 x58_2).f0))) (fun _ hk => hk.2) (.int .i64 ((rd_T52 l1 x58_2).f1))) (fun _ h_ => h_.1))))) (below_size (by repeat (first | (with_reducible first | exact HB.out | apply bA | apply bN | apply bD | refine bS ?_ GE441.out | refine bS ?_ GE442.out | refine bS ?_ GE453.out | refine bS ?_ GE455.out) | exact HB.out)))); have n6_ := aM (blk_below (g := gb441) (o := .cells #[.slice A0_0 l0_0.length c0_0, .int .i64 a0_1] 24 (0, 0)) (by (with_reducible repeat (first | refine kN ?_ _ | refine kD ?_ | refine kA ?_ _)); refine blk_far ?_ NB441_455.out _; (with_reducible repeat (first | refine kN ?_ _ | refine kD ?_ | refine kA ?_ _)); refine blk_far ?_ NB441_455.out _; (with_reducible repeat (first | refine kN ?_ _ | refine kD ?_ | refine kA ?_ _)); exact BK441.out) hb); have n7_ := aM (blk_below (g := gb442) (o := .cells #[.slice A2_0 l2_0.length c2_0, .int .i64 a2_1] 24 (0, 0)) (by (with_reducible repeat (first | refine kN ?_ _ | refine kD ?_ | refine kA ?_ _)); refine blk_far ?_ NB442_455.out _; (with_reducible repeat (first | refine kN ?_ _ | refine kD ?_ | refine kA ?_ _)); refine blk_far ?_ NB442_455.out _; (with_reducible repeat (first | refine kN ?_ _ | refine kD ?_ | refine kA ?_ _)); exact BK442.out) hb); have n8_ := aM (blk_below (g := gb453) (o := .cells #[.slice Ao74 x454000_2.length co74, .int .i64 x454001_2] 24 (0, 0)) (by (with_reducible repeat (first | refine kN ?_ _ | refine kD ?_ | refine kA ?_ _)); refine blk_far ?_ NB453_455.out _; (with_reducible repeat (first | refine kN ?_ _ | refine kD ?_ | refine kA ?_ _)); refine blk_far ?_ NB453_455.out _; (with_reducible repeat (first | refine kN ?_ _ | refine kD ?_ | refine kA ?_ _)); exact BK453.out) hb); have n9_ := aM (blk_below (g := gb455) (o := .cells #[.int .u64 ((rd_T52 l1 x58_2).f0), .int .i64 ((rd_T52 l1 x58_2).f1)] 52 (0, 0)) (by (with_reducible repeat (first | refine kN ?_ _ | refine kD ?_ | refine kA ?_ _)); refine blk_put (cs := #[.int .u64 ((rd_T52 l1 x58_2).f0), .int .i64 0]) ?_ 1 _ rfl; (with_reducible repeat (first | refine kN ?_ _ | refine kD ?_ | refine kA ?_ _)); refine blk_put (cs := #[.int .u64 0, .int .i64 0]) ?_ 0 _ rfl; (with_reducible repeat (first | refine kN ?_ _ | refine kD ?_ | refine kA ?_ _)); exact BK455.out) hb); have n10_ := aM (below_step (by repeat (first | (with_reducible first | exact HB.out | apply bA | apply bN | apply bD | refine bS ?_ GE441.out | refine bS ?_ GE442.out | refine bS ?_ GE453.out | refine bS ?_ GE455.out) | exact HB.out)) hb); clear HO_9; clear HO_10; clear HO_442000; clear HO_443000; clear HO_454000; clear BK441; clear BK442; clear BK453; clear BK455; clear HB; have HO_9 := n0_; have HO_10 := n1_; have HO_442000 := n2_; have HO_443000 := n3_; have HO_454000 := n4_; have HO458 := n5_; have BK441 := n6_; have BK442 := n7_; have BK453 := n8_; have BK455 := n9_; have HB := n10_; clear n0_ n1_ n2_ n3_ n4_ n5_ n6_ n7_ n8_ n9_ n10_; (try clear hb); (try clear hb2); (try clear hk); (try clear hi); (try clear ho0)) | ((with_reducible refine gate_dst (N := 13) rfl ?_); (try (refine gate_guard (by rfl) ?_; dsimp only)); refine box_event ?hg (N := 13) ?hd (cs := #[.slice none 0 0, .int .i64 0]) (t := 24) ?hr ?_; (case hd => rfl); (case hg => rfl); (case hr => first | (go_simp; done) | (go_simp; rfl)); intro gb461 hg w76 hbox hb; have n0_ := aM (R_below (by (with_reducible repeat (first | apply rA | apply rN | apply rD)); exact HO_9.out) hb); have n1_ := aM (R_below (by (with_reducible repeat (first | apply rA | apply rN | apply rD)); exact HO_10.out) hb); have n2_ := aM (V_below (V_elderB (by (with_reducible repeat (first | apply vA | apply vN | apply vD)); exact HO_442000.out) gb461 (Nat.le_of_eq hg.symm)) hb); have n3_ := aM (V_below (V_elderB (by (with_reducible repeat (first | apply vA | apply vN | apply vD)); exact HO_443000.out) gb461 (Nat.le_of_eq hg.symm)) hb); have n4_ := aM (R_below (by (with_reducible repeat (first | apply rA | apply rN | apply rD)); exact HO_454000.out) hb); have n5_ := aM (R_below (by (with_reducible repeat (first | apply rA | apply rN | apply rD)); exact HO458.out) hb); have n6_ := aM (blk_below (g := gb441) (o := .cells #[.slice A0_0 l0_0.length c0_0, .int .i64 a0_1] 24 (0, 0)) (by (with_reducible repeat (first | refine kN ?_ _ | refine kD ?_ | refine kA ?_ _)); exact BK441.out) hb); have n7_ := aM (blk_below (g := gb442) (o := .cells #[.slice A2_0 l2_0.length c2_0, .int .i64 a2_1] 24 (0, 0)) (by (with_reducible repeat (first | refine kN ?_ _ | refine kD ?_ | refine kA ?_ _)); exact BK442.out) hb); have n8_ := aM (blk_below (g := gb453) (o := .cells #[.slice Ao74 x454000_2.length co74, .int .i64 x454001_2] 24 (0, 0)) (by (with_reducible repeat (first | refine kN ?_ _ | refine kD ?_ | refine kA ?_ _)); exact BK453.out) hb); have n9_ := aM (blk_below (g := gb455) (o := .cells #[.int .u64 ((rd_T52 l1 x58_2).f0), .int .i64 ((rd_T52 l1 x58_2).f1)] 52 (0, 0)) (by (with_reducible repeat (first | refine kN ?_ _ | refine kD ?_ | refine kA ?_ _)); exact BK455.out) hb); have n10_ := aM (below_step (by repeat (first | (with_reducible first | exact HB.out | apply bA | apply bN | apply bD | refine bS ?_ GE441.out | refine bS ?_ GE442.out | refine bS ?_ GE453.out | refine bS ?_ GE455.out) | exact HB.out)) hb); have n11_ := aM (hbox); have n12_ := aM ((by rw [hg]; exact (below_size (by repeat (first | (with_reducible first | exact HB.out | apply bA | apply bN | apply bD | refine bS ?_ GE441.out | refine bS ?_ GE442.out | refine bS ?_ GE453.out | refine bS ?_ GE455.out) | exact HB.out))) : w.heap.size ≤ gb461)); have n13_ := aM ((by rw [hg]; exact (below_size (by repeat (first | (with_reducible first | exact HB.out | apply bA | apply bN | apply bD | refine bS ?_ GE441.out | refine bS ?_ GE442.out | refine bS ?_ GE453.out | refine bS ?_ GE455.out) | exact HB.out))) : w.heap.size ≤ gb461)); have n14_ := aM ((by rw [hg]; exact Nat.ne_of_lt (blk_lt (g := gb441) (o := .cells #[.slice A0_0 l0_0.length c0_0, .int .i64 a0_1] 24 (0, 0)) (by (with_reducible repeat (first | refine kN ?_ _ | refine kD ?_ | refine kA ?_ _)); exact BK441.out)) : gb441 ≠ gb461)); have n15_ := aM ((by rw [hg]; exact Nat.ne_of_gt (blk_lt (g := gb441) (o := .cells #[.slice A0_0 l0_0.length c0_0, .int .i64 a0_1] 24 (0, 0)) (by (with_reducible repeat (first | refine kN ?_ _ | refine kD ?_ | refine kA ?_ _)); exact BK441.out)) : gb461 ≠ gb441)); have n16_ := aM ((by rw [hg]; exact Nat.ne_of_lt (blk_lt (g := gb442) (o := .cells #[.slice A2_0 l2_0.length c2_0, .int .i64 a2_1] 24 (0, 0)) (by (with_reducible repeat (first | refine kN ?_ _ | refine kD ?_ | refine kA ?_ _)); exact BK442.out)) : gb442 ≠ gb461)); have n17_ := aM ((by rw [hg]; exact Nat.ne_of_gt (blk_lt (g := gb442) (o := .cells #[.slice A2_0 l2_0.length c2_0, .int .i64 a2_1] 24 (0, 0)) (by (with_reducible repeat (first | refine kN ?_ _ | refine kD ?_ | refine kA ?_ _)); exact BK442.out)) : gb461 ≠ gb442)); have n18_ := aM ((by rw [hg]; exact Nat.ne_of_lt (blk_lt (g := gb453) (o := .cells #[.slice Ao74 x454000_2.length co74, .int .i64 x454001_2] 24 (0, 0)) (by (with_reducible repeat (first | refine kN ?_ _ | refine kD ?_ | refine kA ?_ _)); exact BK453.out)) : gb453 ≠ gb461)); have n19_ := aM ((by rw [hg]; exact Nat.ne_of_gt (blk_lt (g := gb453) (o := .cells #[.slice Ao74 x454000_2.length co74, .int .i64 x454001_2] 24 (0, 0)) (by (with_reducible repeat (first | refine kN ?_ _ | refine kD ?_ | refine kA ?_ _)); exact BK453.out)) : gb461 ≠ gb453)); have n20_ := aM ((by rw [hg]; exact Nat.ne_of_lt (blk_lt (g := gb455) (o := .cells #[.int .u64 ((rd_T52 l1 x58_2).f0), .int .i64 ((rd_T52 l1 x58_2).f1)] 52 (0, 0)) (by (with_reducible repeat (first | refine kN ?_ _ | refine kD ?_ | refine kA ?_ _)); exact BK455.out)) : gb455 ≠ gb461)); have n21_ := aM ((by rw [hg]; exact Nat.ne_of_gt (blk_lt (g := gb455) (o := .cells #[.int .u64 ((rd_T52 l1 x58_2).f0), .int .i64 ((rd_T52 l1 x58_2).f1)] 52 (0, 0)) (by (with_reducible repeat (first | refine kN ?_ _ | refine kD ?_ | refine kA ?_ _)); exact BK455.out)) : gb461 ≠ gb455)); clear HO_9; clear HO_10; clear HO_442000; clear HO_443000; clear HO_454000; clear HO458; clear BK441; clear BK442; clear BK453; clear BK455; clear HB; have HO_9 := n0_; have HO_10 := n1_; have HO_442000 := n2_; have HO_443000 := n3_; have HO_454000 := n4_; have HO458 := n5_; have BK441 := n6_; have BK442 := n7_; have BK453 := n8_; have BK455 := n9_; have HB := n10_; have BK461 := n11_; have GW461 := n12_; have GE461 := n13_; have NB441_461 := n14_; have NB461_441 := n15_; have NB442_461 := n16_; have NB461_442 := n17_; have NB453_461 := n18_; have NB461_453 := n19_; have NB455_461 := n20_; have NB461_455 := n21_; clear n0_ n1_ n2_ n3_ n4_ n5_ n6_ n7_ n8_ n9_ n10_ n11_ n12_ n13_ n14_ n15_ n16_ n17_ n18_ n19_ n20_ n21_; clear hb hbox hg; obtain ⟨Ao77, co77, eo77⟩ := R_slice HO458.out; subst eo77; have hnb78 := NB461_441.out; have hnc78 := NB441_461.out; have hnb79 := NB461_442.out; have hnc79 := NB442_461.out; have hnb80 := NB461_453.out; have hnc80 := NB453_461.out; have hnb81 := NB461_455.out; have hnc81 := NB455_461.out; have hcz82_0 : w76.cell? ⟨gb461, 0, none⟩ = some (.slice none 0 0) := (blk_cell BK461.out 0).trans rfl; have hcz82_1 : w76.cell? ⟨gb461, 1, none⟩ = some (.int .i64 0) := (blk_cell BK461.out 1).trans rfl; have hfz82_0 := blk_frozen BK461.out 0; have hfz82_1 := blk_frozen BK461.out 1; have hcz83_0 : w76.cell? ⟨gb455, 0, none⟩ = some (.int .u64 ((rd_T52 l1 x58_2).f0)) := (blk_cell BK455.out 0).trans rfl; have hcz83_1 : w76.cell? ⟨gb455, 1, none⟩ = some (.int .i64 ((rd_T52 l1 x58_2).f1)) := (blk_cell BK455.out 1).trans rfl; have hfz83_0 := blk_frozen BK455.out 0; have hfz83_1 := blk_frozen BK455.out 1) | ((with_reducible refine gate_builtin (b := .append) (xs := #[.tmp 70, .tmp 72]) rfl ?_); (try (refine gate_guard (by rfl) ?_; dsimp only)); at_builtin; refine R_append k52 (w0 := w) w.heap.size rfl (.tmp 70) (.tmp 72) 49 52 (.agg #[(.int .u64 0), (.int .i64 0)]) 16 rfl Try.underlying49 info52 rfl (by decide) (by omega) u9 x9_2 (⟨(rd_T52 l1 x58_2).f0, (rd_T52 l1 x58_2).f1⟩ : S52) [.int .u64 ((rd_T52 l1 x58_2).f0), .int .i64 ((rd_T52 l1 x58_2).f1)] (fun k_ => (w.heap.size ≤ k_) ∧ k_ ≠ gb455) (fun _ => False) rfl (by first | (go_simp; done) | (go_simp; rfl)) ?aP (fun _ hk => hk.elim) ?aF ?aO ?aB ?aS ?aL ?_; (case aP => exact k52_mkM _ _ _ (⟨(rd_T52 l1 x58_2).f0, (rd_T52 l1 x58_2).f1⟩ : S52)); (case aB => exact (by repeat (first | (with_reducible first | exact HB.out | apply bA | apply bN | apply bD | refine bS ?_ GE441.out | refine bS ?_ GE442.out | refine bS ?_ GE453.out | refine bS ?_ GE455.out | refine bS ?_ GE461.out) | exact HB.out))); (case aF => exact (fun k_ hk => ⟨(Nat.le_trans (below_size (by repeat (first | (with_reducible first | exact HB.out | apply bA | apply bN | apply bD | refine bS ?_ GE441.out | refine bS ?_ GE442.out | refine bS ?_ GE453.out | refine bS ?_ GE455.out | refine bS ?_ GE461.out) | exact HB.out))) hk), Kd.freshB (g := gb455) (o := .cells #[.int .u64 ((rd_T52 l1 x58_2).f0), .int .i64 ((rd_T52 l1 x58_2).f1)] 52 (0, 0)) (by (with_reducible repeat (first | refine kN ?_ _ | refine kD ?_ | refine kA ?_ _)); refine blk_far ?_ NB455_461.out _; (with_reducible repeat (first | refine kN ?_ _ | refine kD ?_ | refine kA ?_ _)); refine blk_far ?_ NB455_461.out _; (with_reducible repeat (first | refine kN ?_ _ | refine kD ?_ | refine kA ?_ _)); exact BK455.out) k_ hk⟩)); (case aO => exact (by (with_reducible repeat (first | apply rA | apply rN | apply rD)); exact R_mono (R_far (p := ⟨gb461, 1, none⟩) (R_far (p := ⟨gb461, 0, none⟩) (R_types HO_9.out BK461.out (by decide)) (fun _ hk => hk.2) (.slice Ao77 t456.length co77)) (fun _ hk => hk.2) (.int .i64 t459)) (fun _ hk => ⟨hk.1.1, hk.1.2⟩))); (case aS => exact (below_size (by repeat (first | (with_reducible first | exact HB.out | apply bA | apply bN | apply bD | refine bS ?_ GE441.out | refine bS ?_ GE442.out | refine bS ?_ GE453.out | refine bS ?_ GE455.out | refine bS ?_ GE461.out) | exact HB.out)))); (case aL => have := LMc64.out; omega); intro v463 w84 ho hb hg hat; rw [← Ny462.out] at ho; have n0_ := aM (R_over' (by (with_reducible repeat (first | apply rA | apply rN | apply rD)); exact (R_mono (R_far (p := ⟨gb461, 1, none⟩) (R_far (p := ⟨gb461, 0, none⟩) (R_types HO_10.out BK461.out (by decide)) (fun _ hk => hk.2) (.slice Ao77 t456.length co77)) (fun _ hk => hk.2) (.int .i64 t459)) (fun _ h_ => h_.1))) (R_typed (by (with_reducible repeat (first | apply rA | apply rN | apply rD)); exact (R_mono (R_far (p := ⟨gb461, 1, none⟩) (R_far (p := ⟨gb461, 0, none⟩) (R_types HO_9.out BK461.out (by decide)) (fun _ hk => hk.2) (.slice Ao77 t456.length co77)) (fun _ hk => hk.2) (.int .i64 t459)) (fun _ h_ => h_.1)))) (by decide) hg); have n1_ := aM (V_afterv (ok := (fun k_ => ((P0_0_ k_ ∨ P2_0_ k_) ∨ w.heap.size ≤ k_) ∧ some k_ ≠ (u10 : Value).ownBlock ∧ some k_ ≠ (.slice Ao74 x454000_2.length co74 : Value).ownBlock ∧ some k_ ≠ (.slice Ao77 t456.length co77 : Value).ownBlock ∧ k_ ≠ gb441 ∧ k_ ≠ gb442 ∧ k_ ≠ gb453 ∧ k_ ≠ gb455 ∧ k_ ≠ gb461)) (by (with_reducible repeat (first | apply vA | apply vN | apply vD)); exact V_mono (V_far (p := ⟨gb461, 1, none⟩) (V_far (p := ⟨gb461, 0, none⟩) (V_mono HO_442000.out (fun k_ hk => (⟨hk, hk.2⟩ : _ ∧ k_ ≠ gb461))) (fun _ hk => hk.2) (.slice Ao77 t456.length co77)) (fun _ hk => hk.2) (.int .i64 t459)) (fun _ hk => ⟨⟨hk.1.1.1.1.1, ⟨hk.1.1.1.1.2.2.1, ⟨hk.1.1.1.1.2.2.2.1, ⟨hk.1.1.2, ⟨hk.1.1.1.1.2.2.2.2.1, ⟨hk.1.1.1.1.2.2.2.2.2.1, ⟨hk.1.1.1.1.2.2.2.2.2.2, ⟨hk.1.1.1.2, hk.1.2⟩⟩⟩⟩⟩⟩⟩⟩, hk.1.1.1.1.2.1⟩)) hg hat); have n2_ := aM (V_afterv (ok := (fun k_ => ((P0_0_ k_ ∨ P2_0_ k_) ∨ w.heap.size ≤ k_) ∧ some k_ ≠ (u10 : Value).ownBlock ∧ some k_ ≠ (.slice Ao74 x454000_2.length co74 : Value).ownBlock ∧ some k_ ≠ (.slice Ao77 t456.length co77 : Value).ownBlock ∧ k_ ≠ gb441 ∧ k_ ≠ gb442 ∧ k_ ≠ gb453 ∧ k_ ≠ gb455 ∧ k_ ≠ gb461)) (by (with_reducible repeat (first | apply vA | apply vN | apply vD)); exact V_mono (V_far (p := ⟨gb461, 1, none⟩) (V_far (p := ⟨gb461, 0, none⟩) (V_mono HO_443000.out (fun k_ hk => (⟨hk, hk.2⟩ : _ ∧ k_ ≠ gb461))) (fun _ hk => hk.2) (.slice Ao77 t456.length co77)) (fun _ hk => hk.2) (.int .i64 t459)) (fun _ hk => ⟨⟨hk.1.1.1.1.1, ⟨hk.1.1.1.1.2.2.1, ⟨hk.1.1.1.1.2.2.2.1, ⟨hk.1.1.2, ⟨hk.1.1.1.1.2.2.2.2.1, ⟨hk.1.1.1.1.2.2.2.2.2.1, ⟨hk.1.1.1.1.2.2.2.2.2.2, ⟨hk.1.1.1.2, hk.1.2⟩⟩⟩⟩⟩⟩⟩⟩, hk.1.1.1.1.2.1⟩)) hg hat); have n3_ := aM (R_over' (by (with_reducible repeat (first | apply rA | apply rN | apply rD)); exact (R_mono (R_far (p := ⟨gb461, 1, none⟩) (R_far (p := ⟨gb461, 0, none⟩) (R_types HO_454000.out BK461.out (by decide)) (fun _ hk => hk.2) (.slice Ao77 t456.length co77)) (fun _ hk => hk.2) (.int .i64 t459)) (fun _ h_ => h_.1))) (R_typed (by (with_reducible repeat (first | apply rA | apply rN | apply rD)); exact (R_mono (R_far (p := ⟨gb461, 1, none⟩) (R_far (p := ⟨gb461, 0, none⟩) (R_types HO_9.out BK461.out (by decide)) (fun _ hk => hk.2) (.slice Ao77 t456.length co77)) (fun _ hk => hk.2) (.int .i64 t459)) (fun _ h_ => h_.1)))) (by decide) hg); have n4_ := aM (blk_grown (g := gb441) (o := .cells #[.slice A0_0 l0_0.length c0_0, .int .i64 a0_1] 24 (0, 0)) (by (with_reducible repeat (first | refine kN ?_ _ | refine kD ?_ | refine kA ?_ _)); refine blk_far ?_ NB441_461.out _; (with_reducible repeat (first | refine kN ?_ _ | refine kD ?_ | refine kA ?_ _)); refine blk_far ?_ NB441_461.out _; (with_reducible repeat (first | refine kN ?_ _ | refine kD ?_ | refine kA ?_ _)); exact BK441.out) hg (R_ne HO_9.out BK441.out (by decide))); have n5_ := aM (blk_grown (g := gb442) (o := .cells #[.slice A2_0 l2_0.length c2_0, .int .i64 a2_1] 24 (0, 0)) (by (with_reducible repeat (first | refine kN ?_ _ | refine kD ?_ | refine kA ?_ _)); refine blk_far ?_ NB442_461.out _; (with_reducible repeat (first | refine kN ?_ _ | refine kD ?_ | refine kA ?_ _)); refine blk_far ?_ NB442_461.out _; (with_reducible repeat (first | refine kN ?_ _ | refine kD ?_ | refine kA ?_ _)); exact BK442.out) hg (R_ne HO_9.out BK442.out (by decide))); have n6_ := aM (blk_grown (g := gb453) (o := .cells #[.slice Ao74 x454000_2.length co74, .int .i64 x454001_2] 24 (0, 0)) (by (with_reducible repeat (first | refine kN ?_ _ | refine kD ?_ | refine kA ?_ _)); refine blk_far ?_ NB453_461.out _; (with_reducible repeat (first | refine kN ?_ _ | refine kD ?_ | refine kA ?_ _)); refine blk_far ?_ NB453_461.out _; (with_reducible repeat (first | refine kN ?_ _ | refine kD ?_ | refine kA ?_ _)); exact BK453.out) hg (R_ne HO_9.out BK453.out (by decide))); have n7_ := aM (blk_grown (g := gb455) (o := .cells #[.int .u64 ((rd_T52 l1 x58_2).f0), .int .i64 ((rd_T52 l1 x58_2).f1)] 52 (0, 0)) (by (with_reducible repeat (first | refine kN ?_ _ | refine kD ?_ | refine kA ?_ _)); refine blk_far ?_ NB455_461.out _; (with_reducible repeat (first | refine kN ?_ _ | refine kD ?_ | refine kA ?_ _)); refine blk_far ?_ NB455_461.out _; (with_reducible repeat (first | refine kN ?_ _ | refine kD ?_ | refine kA ?_ _)); exact BK455.out) hg (R_away HO_9.out (fun _ hk => hk.2))); have n8_ := aM (R_over' (by (with_reducible repeat (first | apply rA | apply rN | apply rD)); exact (R_mono (R_far (p := ⟨gb461, 1, none⟩) (R_far (p := ⟨gb461, 0, none⟩) (R_types HO458.out BK461.out (by decide)) (fun _ hk => hk.2) (.slice Ao77 t456.length co77)) (fun _ hk => hk.2) (.int .i64 t459)) (fun _ h_ => h_.1))) (R_typed (by (with_reducible repeat (first | apply rA | apply rN | apply rD)); exact (R_mono (R_far (p := ⟨gb461, 1, none⟩) (R_far (p := ⟨gb461, 0, none⟩) (R_types HO_9.out BK461.out (by decide)) (fun _ hk => hk.2) (.slice Ao77 t456.length co77)) (fun _ hk => hk.2) (.int .i64 t459)) (fun _ h_ => h_.1)))) (by decide) hg); have n9_ := aM (blk_grown (g := gb461) (o := .cells #[.slice Ao77 t456.length co77, .int .i64 t459] 24 (0, 0)) (by (with_reducible repeat (first | refine kN ?_ _ | refine kD ?_ | refine kA ?_ _)); refine blk_put (cs := #[.slice Ao77 t456.length co77, .int .i64 0]) ?_ 1 _ rfl; (with_reducible repeat (first | refine kN ?_ _ | refine kD ?_ | refine kA ?_ _)); refine blk_put (cs := #[.slice none 0 0, .int .i64 0]) ?_ 0 _ rfl; (with_reducible repeat (first | refine kN ?_ _ | refine kD ?_ | refine kA ?_ _)); exact BK461.out) hg (R_ne HO_9.out BK461.out (by decide))); have n10_ := aM (hb); have n11_ := aM (ho); clear HO_10; clear HO_442000; clear HO_443000; clear HO_454000; clear BK441; clear BK442; clear BK453; clear BK455; clear HO458; clear BK461; clear HB; clear HO_9; have HO_10 := n0_; have HO_442000 := n1_; have HO_443000 := n2_; have HO_454000 := n3_; have BK441 := n4_; have BK442 := n5_; have BK453 := n6_; have BK455 := n7_; have HO458 := n8_; have BK461 := n9_; have HB := n10_; have HO464 := n11_; clear n0_ n1_ n2_ n3_ n4_ n5_ n6_ n7_ n8_ n9_ n10_ n11_; clear ho hb hg hat; have hcz85_0 : w84.cell? ⟨gb453, 0, none⟩ = some (.slice Ao74 x454000_2.length co74) := (blk_cell BK453.out 0).trans rfl; have hcz85_1 : w84.cell? ⟨gb453, 1, none⟩ = some (.int .i64 x454001_2) := (blk_cell BK453.out 1).trans rfl; have hfz85_0 := blk_frozen BK453.out 0; have hfz85_1 := blk_frozen BK453.out 1) | ((with_reducible refine gate_builtin (b := .append) (xs := #[.tmp 74, .tmp 77]) rfl ?_); (try (refine gate_guard (by rfl) ?_; dsimp only)); at_builtin; refine R_append (Kd.int .i64) (w0 := w) w.heap.size rfl (.tmp 74) (.tmp 77) 50 3 (.int .i64 0) 8 rfl Try.underlying50 info3 rfl (by decide) (by omega) u10 x10_2 x454001_2 [.int .i64 x454001_2] (fun k_ => (w.heap.size ≤ k_)) (fun _ => False) rfl rfl ?aP (fun _ hk => hk.elim) ?aF ?aO ?aB ?aS ?aL ?_; (case aP => exact rfl); (case aB => exact (by repeat (first | (with_reducible first | exact HB.out | apply bA | apply bN | apply bD | refine bS ?_ GE441.out | refine bS ?_ GE442.out | refine bS ?_ GE453.out | refine bS ?_ GE455.out | refine bS ?_ GE461.out) | exact HB.out))); (case aF => exact (fun k_ hk => (Nat.le_trans (below_size (by repeat (first | (with_reducible first | exact HB.out | apply bA | apply bN | apply bD | refine bS ?_ GE441.out | refine bS ?_ GE442.out | refine bS ?_ GE453.out | refine bS ?_ GE455.out | refine bS ?_ GE461.out) | exact HB.out))) hk))); (case aO => exact (by (with_reducible repeat (first | apply rA | apply rN | apply rD)); exact HO_10.out)); (case aS => exact (below_size (by repeat (first | (with_reducible first | exact HB.out | apply bA | apply bN | apply bD | refine bS ?_ GE441.out | refine bS ?_ GE442.out | refine bS ?_ GE453.out | refine bS ?_ GE455.out | refine bS ?_ GE461.out) | exact HB.out)))); (case aL => have := LMc65.out; omega); intro v466 w86 ho hb hg hat; rw [← Ny465.out] at ho; have n0_ := aM (V_afterv (ok := (fun k_ => ((P0_0_ k_ ∨ P2_0_ k_) ∨ w.heap.size ≤ k_) ∧ some k_ ≠ (.slice Ao74 x454000_2.length co74 : Value).ownBlock ∧ some k_ ≠ (.slice Ao77 t456.length co77 : Value).ownBlock ∧ some k_ ≠ (v463 : Value).ownBlock ∧ k_ ≠ gb441 ∧ k_ ≠ gb442 ∧ k_ ≠ gb453 ∧ k_ ≠ gb455 ∧ k_ ≠ gb461)) (by (with_reducible repeat (first | apply vA | apply vN | apply vD)); exact V_mono HO_442000.out (fun _ hk => ⟨⟨hk.1.1, ⟨hk.1.2.2.1, ⟨hk.1.2.2.2.1, ⟨hk.2, ⟨hk.1.2.2.2.2.1, ⟨hk.1.2.2.2.2.2.1, ⟨hk.1.2.2.2.2.2.2.1, ⟨hk.1.2.2.2.2.2.2.2.1, hk.1.2.2.2.2.2.2.2.2⟩⟩⟩⟩⟩⟩⟩⟩, hk.1.2.1⟩)) hg hat); have n1_ := aM (V_afterv (ok := (fun k_ => ((P0_0_ k_ ∨ P2_0_ k_) ∨ w.heap.size ≤ k_) ∧ some k_ ≠ (.slice Ao74 x454000_2.length co74 : Value).ownBlock ∧ some k_ ≠ (.slice Ao77 t456.length co77 : Value).ownBlock ∧ some k_ ≠ (v463 : Value).ownBlock ∧ k_ ≠ gb441 ∧ k_ ≠ gb442 ∧ k_ ≠ gb453 ∧ k_ ≠ gb455 ∧ k_ ≠ gb461)) (by (with_reducible repeat (first | apply vA | apply vN | apply vD)); exact V_mono HO_443000.out (fun _ hk => ⟨⟨hk.1.1, ⟨hk.1.2.2.1, ⟨hk.1.2.2.2.1, ⟨hk.2, ⟨hk.1.2.2.2.2.1, ⟨hk.1.2.2.2.2.2.1, ⟨hk.1.2.2.2.2.2.2.1, ⟨hk.1.2.2.2.2.2.2.2.1, hk.1.2.2.2.2.2.2.2.2⟩⟩⟩⟩⟩⟩⟩⟩, hk.1.2.1⟩)) hg hat); have n2_ := aM (R_over' (by (with_reducible repeat (first | apply rA | apply rN | apply rD)); exact HO_454000.out) (R_typed (by (with_reducible repeat (first | apply rA | apply rN | apply rD)); exact HO_10.out)) (by decide) hg); have n3_ := aM (blk_grown (g := gb441) (o := .cells #[.slice A0_0 l0_0.length c0_0, .int .i64 a0_1] 24 (0, 0)) (by (with_reducible repeat (first | refine kN ?_ _ | refine kD ?_ | refine kA ?_ _)); exact BK441.out) hg (R_ne HO_10.out BK441.out (by decide))); have n4_ := aM (blk_grown (g := gb442) (o := .cells #[.slice A2_0 l2_0.length c2_0, .int .i64 a2_1] 24 (0, 0)) (by (with_reducible repeat (first | refine kN ?_ _ | refine kD ?_ | refine kA ?_ _)); exact BK442.out) hg (R_ne HO_10.out BK442.out (by decide))); have n5_ := aM (blk_grown (g := gb453) (o := .cells #[.slice Ao74 x454000_2.length co74, .int .i64 x454001_2] 24 (0, 0)) (by (with_reducible repeat (first | refine kN ?_ _ | refine kD ?_ | refine kA ?_ _)); exact BK453.out) hg (R_ne HO_10.out BK453.out (by decide))); have n6_ := aM (blk_grown (g := gb455) (o := .cells #[.int .u64 ((rd_T52 l1 x58_2).f0), .int .i64 ((rd_T52 l1 x58_2).f1)] 52 (0, 0)) (by (with_reducible repeat (first | refine kN ?_ _ | refine kD ?_ | refine kA ?_ _)); exact BK455.out) hg (R_ne HO_10.out BK455.out (by decide))); have n7_ := aM (R_over' (by (with_reducible repeat (first | apply rA | apply rN | apply rD)); exact HO458.out) (R_typed (by (with_reducible repeat (first | apply rA | apply rN | apply rD)); exact HO_10.out)) (by decide) hg); have n8_ := aM (blk_grown (g := gb461) (o := .cells #[.slice Ao77 t456.length co77, .int .i64 t459] 24 (0, 0)) (by (with_reducible repeat (first | refine kN ?_ _ | refine kD ?_ | refine kA ?_ _)); exact BK461.out) hg (R_ne HO_10.out BK461.out (by decide))); have n9_ := aM (R_over' (by (with_reducible repeat (first | apply rA | apply rN | apply rD)); exact HO464.out) (R_typed (by (with_reducible repeat (first | apply rA | apply rN | apply rD)); exact HO_10.out)) (by decide) hg); have n10_ := aM (hb); have n11_ := aM (ho); clear HO_442000; clear HO_443000; clear HO_454000; clear BK441; clear BK442; clear BK453; clear BK455; clear HO458; clear BK461; clear HO464; clear HB; clear HO_10; have HO_442000 := n0_; have HO_443000 := n1_; have HO_454000 := n2_; have BK441 := n3_; have BK442 := n4_; have BK453 := n5_; have BK455 := n6_; have HO458 := n7_; have BK461 := n8_; have HO464 := n9_; have HB := n10_; have HO467 := n11_; clear n0_ n1_ n2_ n3_ n4_ n5_ n6_ n7_ n8_ n9_ n10_ n11_; clear ho hb hg hat; have hcz87_0 : w86.cell? ⟨gb461, 0, none⟩ = some (.slice Ao77 t456.length co77) := (blk_cell BK461.out 0).trans rfl; have hcz87_1 : w86.cell? ⟨gb461, 1, none⟩ = some (.int .i64 t459) := (blk_cell BK461.out 1).trans rfl; have hfz87_0 := blk_frozen BK461.out 0; have hfz87_1 := blk_frozen BK461.out 1; have hcz88_0 : w86.cell? ⟨gb453, 0, none⟩ = some (.slice Ao74 x454000_2.length co74) := (blk_cell BK453.out 0).trans rfl; have hcz88_1 : w86.cell? ⟨gb453, 1, none⟩ = some (.int .i64 x454001_2) := (blk_cell BK453.out 1).trans rfl; have hfz88_0 := blk_frozen BK453.out 0; have hfz88_1 := blk_frozen BK453.out 1))
             go_roundg k2
             case measure => have := HJ4.out; have := HK2.out; omega
             case rel => exact ⟨(y462), (y465), (wrap64 (x58_2 + 1)), (t456), (t459), (.slice Ao77 t456.length co77), (by first | rfl | (simp; done) | (simp [*]; done)), H', ⟨by have := HJ4.out; have := HK2.out; omega⟩, ⟨by (with_reducible repeat (first | apply rA | apply rN | apply rD)); exact R_mono (R_far (p := ⟨gb453, 1, none⟩) (R_far (p := ⟨gb453, 0, none⟩) (R_types HO464.out BK453.out (by decide)) (fun _ hk => hk.2) (.slice Ao77 t456.length co77)) (fun _ hk => hk.2) (.int .i64 t459)) (fun _ hk => hk.1.1)⟩, ⟨by (with_reducible repeat (first | apply rA | apply rN | apply rD)); exact R_mono (R_far (p := ⟨gb453, 1, none⟩) (R_far (p := ⟨gb453, 0, none⟩) (R_types HO467.out BK453.out (by decide)) (fun _ hk => hk.2) (.slice Ao77 t456.length co77)) (fun _ hk => hk.2) (.int .i64 t459)) (fun _ hk => hk.1)⟩, ⟨by (with_reducible repeat (first | apply vA | apply vN | apply vD)); exact V_mono (V_far (p := ⟨gb453, 1, none⟩) (V_far (p := ⟨gb453, 0, none⟩) (V_mono HO_442000.out (fun k_ hk => (⟨hk, hk.1.2.2.2.2.2.2.1⟩ : _ ∧ k_ ≠ gb453))) (fun _ hk => hk.2) (.slice Ao77 t456.length co77)) (fun _ hk => hk.2) (.int .i64 t459)) (fun _ hk => ⟨hk.1.1.1, ⟨hk.1.1.2.2.2.1, ⟨hk.1.2, ⟨hk.1.1.2.2.1, ⟨hk.1.1.2.2.2.2.1, ⟨hk.1.1.2.2.2.2.2.1, hk.1.1.2.2.2.2.2.2.1⟩⟩⟩⟩⟩⟩)⟩, ⟨by (with_reducible repeat (first | apply vA | apply vN | apply vD)); exact V_mono (V_far (p := ⟨gb453, 1, none⟩) (V_far (p := ⟨gb453, 0, none⟩) (V_mono HO_443000.out (fun k_ hk => (⟨hk, hk.1.2.2.2.2.2.2.1⟩ : _ ∧ k_ ≠ gb453))) (fun _ hk => hk.2) (.slice Ao77 t456.length co77)) (fun _ hk => hk.2) (.int .i64 t459)) (fun _ hk => ⟨hk.1.1.1, ⟨hk.1.1.2.2.2.1, ⟨hk.1.2, ⟨hk.1.1.2.2.1, ⟨hk.1.1.2.2.2.2.1, ⟨hk.1.1.2.2.2.2.2.1, hk.1.1.2.2.2.2.2.2.1⟩⟩⟩⟩⟩⟩)⟩, ⟨by (with_reducible repeat (first | apply rA | apply rN | apply rD)); exact R_mono (R_far (p := ⟨gb453, 1, none⟩) (R_far (p := ⟨gb453, 0, none⟩) (R_types HO458.out BK453.out (by decide)) (fun _ hk => hk.2) (.slice Ao77 t456.length co77)) (fun _ hk => hk.2) (.int .i64 t459)) (fun _ hk => hk.1.1.1)⟩, ⟨by (with_reducible repeat (first | refine kN ?_ _ | refine kD ?_ | refine kA ?_ _)); refine blk_far ?_ NB441_453.out _; (with_reducible repeat (first | refine kN ?_ _ | refine kD ?_ | refine kA ?_ _)); refine blk_far ?_ NB441_453.out _; (with_reducible repeat (first | refine kN ?_ _ | refine kD ?_ | refine kA ?_ _)); exact BK441.out⟩, ⟨by (with_reducible repeat (first | refine kN ?_ _ | refine kD ?_ | refine kA ?_ _)); refine blk_far ?_ NB442_453.out _; (with_reducible repeat (first | refine kN ?_ _ | refine kD ?_ | refine kA ?_ _)); refine blk_far ?_ NB442_453.out _; (with_reducible repeat (first | refine kN ?_ _ | refine kD ?_ | refine kA ?_ _)); exact BK442.out⟩, ⟨by (with_reducible repeat (first | refine kN ?_ _ | refine kD ?_ | refine kA ?_ _)); refine blk_put (cs := #[.slice Ao77 t456.length co77, .int .i64 x454001_2]) ?_ 1 _ rfl; (with_reducible repeat (first | refine kN ?_ _ | refine kD ?_ | refine kA ?_ _)); refine blk_put (cs := #[.slice Ao74 x454000_2.length co74, .int .i64 x454001_2]) ?_ 0 _ rfl; (with_reducible repeat (first | refine kN ?_ _ | refine kD ?_ | refine kA ?_ _)); exact BK453.out⟩, ⟨by repeat (first | (with_reducible first | exact HB.out | apply bA | apply bN | apply bD | refine bS ?_ GE441.out | refine bS ?_ GE442.out | refine bS ?_ GE453.out | refine bS ?_ GE455.out | refine bS ?_ GE461.out) | exact HB.out)⟩⟩
            ·rw [if_neg c65] at H
             exact absurd H (by simp)
           ·rw [if_neg c64] at H
            exact absurd H (by simp)
          ·rw [if_neg c63] at H
           have c63b0 : (t460 == 0) = false := beq_eq_false_iff_ne.mpr c63
           have c63b1 : (t460 != 0) = true := bne_iff_ne.mpr c63
           have H' := aM H
           clear H
           have p454 : 0 ≤ (x58_2 : Int) := of_decide_eq_true (by first | (with_reducible assumption) | assumption)
           have q454 : x58_2 < (l1.length : Int) := of_decide_eq_true (by first | (with_reducible assumption) | assumption)
           obtain ⟨ad454, e454, hx454_0, hx454_1⟩ := at_T52 HR1.out x58_2 p454 q454
           cases e454
           replace hx454_0 := (HB.out.cell (World.block_lt_of_cell? w _ hx454_0)).trans hx454_0
           replace hx454_1 := (HB.out.cell (World.block_lt_of_cell? w _ hx454_1)).trans hx454_1
           replace p454 := eq_true p454
           replace q454 := eq_true q454
           go_wp2_with (first | ((with_reducible refine gate_dst (N := 12) rfl ?_); (try (refine gate_guard (by rfl) ?_; dsimp only)); refine box_event ?hg (N := 12) ?hd (cs := #[.int .u64 0, .int .i64 0]) (t := 52) ?hr ?_; (case hd => rfl); (case hg => rfl); (case hr => first | (go_simp; done) | (go_simp; rfl)); intro gb455 hg w89 hbox hb; have n0_ := aM (R_below (R_elderB (by (with_reducible repeat (first | apply rA | apply rN | apply rD)); exact HO_9.out) gb455 (Nat.le_of_eq hg.symm)) hb); have n1_ := aM (R_below (by (with_reducible repeat (first | apply rA | apply rN | apply rD)); exact HO_10.out) hb); have n2_ := aM (V_below (V_elderB (by (with_reducible repeat (first | apply vA | apply vN | apply vD)); exact HO_442000.out) gb455 (Nat.le_of_eq hg.symm)) hb); have n3_ := aM (V_below (V_elderB (by (with_reducible repeat (first | apply vA | apply vN | apply vD)); exact HO_443000.out) gb455 (Nat.le_of_eq hg.symm)) hb); have n4_ := aM (R_below (by (with_reducible repeat (first | apply rA | apply rN | apply rD)); exact HO_454000.out) hb); have n5_ := aM (blk_below (g := gb441) (o := .cells #[.slice A0_0 l0_0.length c0_0, .int .i64 a0_1] 24 (0, 0)) (by (with_reducible repeat (first | refine kN ?_ _ | refine kD ?_ | refine kA ?_ _)); exact BK441.out) hb); have n6_ := aM (blk_below (g := gb442) (o := .cells #[.slice A2_0 l2_0.length c2_0, .int .i64 a2_1] 24 (0, 0)) (by (with_reducible repeat (first | refine kN ?_ _ | refine kD ?_ | refine kA ?_ _)); exact BK442.out) hb); have n7_ := aM (blk_below (g := gb453) (o := .cells #[u454000, .int .i64 x454001_2] 24 (0, 0)) (by (with_reducible repeat (first | refine kN ?_ _ | refine kD ?_ | refine kA ?_ _)); exact BK453.out) hb); have n8_ := aM (below_step (by repeat (first | (with_reducible first | exact HB.out | apply bA | apply bN | apply bD | refine bS ?_ GE441.out | refine bS ?_ GE442.out | refine bS ?_ GE453.out) | exact HB.out)) hb); have n9_ := aM (hbox); have n10_ := aM ((by rw [hg]; exact (below_size (by repeat (first | (with_reducible first | exact HB.out | apply bA | apply bN | apply bD | refine bS ?_ GE441.out | refine bS ?_ GE442.out | refine bS ?_ GE453.out) | exact HB.out))) : w.heap.size ≤ gb455)); have n11_ := aM ((by rw [hg]; exact (below_size (by repeat (first | (with_reducible first | exact HB.out | apply bA | apply bN | apply bD | refine bS ?_ GE441.out | refine bS ?_ GE442.out | refine bS ?_ GE453.out) | exact HB.out))) : w.heap.size ≤ gb455)); have n12_ := aM ((by rw [hg]; exact Nat.ne_of_lt (blk_lt (g := gb441) (o := .cells #[.slice A0_0 l0_0.length c0_0, .int .i64 a0_1] 24 (0, 0)) (by (with_reducible repeat (first | refine kN ?_ _ | refine kD ?_ | refine kA ?_ _)); exact BK441.out)) : gb441 ≠ gb455)); have n13_ := aM ((by rw [hg]; exact Nat.ne_of_gt (blk_lt (g := gb441) (o := .cells #[.slice A0_0 l0_0.length c0_0, .int .i64 a0_1] 24 (0, 0)) (by (with_reducible repeat (first | refine kN ?_ _ | refine kD ?_ | refine kA ?_ _)); exact BK441.out)) : gb455 ≠ gb441)); have n14_ := aM ((by rw [hg]; exact Nat.ne_of_lt (blk_lt (g := gb442) (o := .cells #[.slice A2_0 l2_0.length c2_0, .int .i64 a2_1] 24 (0, 0)) (by (with_reducible repeat (first | refine kN ?_ _ | refine kD ?_ | refine kA ?_ _)); exact BK442.out)) : gb442 ≠ gb455)); have n15_ := aM ((by rw [hg]; exact Nat.ne_of_gt (blk_lt (g := gb442) (o := .cells #[.slice A2_0 l2_0.length c2_0, .int .i64 a2_1] 24 (0, 0)) (by (with_reducible repeat (first | refine kN ?_ _ | refine kD ?_ | refine kA ?_ _)); exact BK442.out)) : gb455 ≠ gb442)); have n16_ := aM ((by rw [hg]; exact Nat.ne_of_lt (blk_lt (g := gb453) (o := .cells #[u454000, .int .i64 x454001_2] 24 (0, 0)) (by (with_reducible repeat (first | refine kN ?_ _ | refine kD ?_ | refine kA ?_ _)); exact BK453.out)) : gb453 ≠ gb455)); have n17_ := aM ((by rw [hg]; exact Nat.ne_of_gt (blk_lt (g := gb453) (o := .cells #[u454000, .int .i64 x454001_2] 24 (0, 0)) (by (with_reducible repeat (first | refine kN ?_ _ | refine kD ?_ | refine kA ?_ _)); exact BK453.out)) : gb455 ≠ gb453)); clear HO_9; clear HO_10; clear HO_442000; clear HO_443000; clear HO_454000; clear BK441; clear BK442; clear BK453; clear HB; have HO_9 := n0_; have HO_10 := n1_; have HO_442000 := n2_; have HO_443000 := n3_; have HO_454000 := n4_; have BK441 := n5_; have BK442 := n6_; have BK453 := n7_; have HB := n8_; have BK455 := n9_; have GW455 := n10_; have GE455 := n11_; have NB441_455 := n12_; have NB455_441 := n13_; have NB442_455 := n14_; have NB455_442 := n15_; have NB453_455 := n16_; have NB455_453 := n17_; clear n0_ n1_ n2_ n3_ n4_ n5_ n6_ n7_ n8_ n9_ n10_ n11_ n12_ n13_ n14_ n15_ n16_ n17_; clear hb hbox hg; have hnb90 := NB455_441.out; have hnc90 := NB441_455.out; have hnb91 := NB455_442.out; have hnc91 := NB442_455.out; have hnb92 := NB455_453.out; have hnc92 := NB453_455.out; have hcz93_0 : w89.cell? ⟨gb455, 0, none⟩ = some (.int .u64 0) := (blk_cell BK455.out 0).trans rfl; have hcz93_1 : w89.cell? ⟨gb455, 1, none⟩ = some (.int .i64 0) := (blk_cell BK455.out 1).trans rfl; have hfz93_0 := blk_frozen BK455.out 0; have hfz93_1 := blk_frozen BK455.out 1; have hnb94 := NB453_441.out; have hnc94 := NB441_453.out; have hnb95 := NB453_442.out; have hnc95 := NB442_453.out; have hcz96_0 : w89.cell? ⟨gb453, 0, none⟩ = some (u454000) := (blk_cell BK453.out 0).trans rfl; have hcz96_1 : w89.cell? ⟨gb453, 1, none⟩ = some (.int .i64 x454001_2) := (blk_cell BK453.out 1).trans rfl; have hfz96_0 := blk_frozen BK453.out 0; have hfz96_1 := blk_frozen BK453.out 1; obtain ⟨Ao97, co97, eo97⟩ := R_slice HO_454000.out; subst eo97) | ((with_reducible refine gate_callee (f := 26) rfl ?_); refine goesL_ (some 65) rfl rfl Try.func26 (by kernel_rfl) rfl #[.agg #[.slice Ao97 x454000_2.length co97, .int .i64 x454001_2], .agg #[.int .u64 ((rd_T52 l1 x58_2).f0), .int .i64 ((rd_T52 l1 x58_2).f1)]] rfl (by (try simp only [List.map_toArray, List.map_cons, List.map_nil]); first | done | rfl | (simp only [List.length_drop, List.length_take]; rfl)) ?_; (with_reducible refine (squelchlaw01_put.calls k2 _ _ x454000_2 x454001_2 ((rd_T52 l1 x58_2).f0) ((rd_T52 l1 x58_2).f1) t456 t459 t460 _ ?side1 ?side2 A62.out).mono ?_); (case side1 => refine (R_reads' (e := 5) (base := w.heap.size) (ok := fun k_ => ((w.heap.size ≤ k_))) (n := x454000_2.length) (c := co97) ?_).2.2; exact (by (with_reducible repeat (first | apply rA | apply rN | apply rD)); exact (R_mono (R_far (p := ⟨gb455, 1, none⟩) (R_far (p := ⟨gb455, 0, none⟩) (R_types HO_454000.out BK455.out (by decide)) (fun _ hk => hk.2) (.int .u64 ((rd_T52 l1 x58_2).f0))) (fun _ hk => hk.2) (.int .i64 ((rd_T52 l1 x58_2).f1))) (fun _ h_ => h_.1)))); (case side2 => exact (R_reads' HO_454000.out).2.1); rintro e w98 ⟨v457, rfl, ho0, hb⟩; refine ⟨_, rfl, ?_⟩; have n0_ := aM (R_below (by (with_reducible repeat (first | apply rA | apply rN | apply rD)); exact (R_mono (R_far (p := ⟨gb455, 1, none⟩) (R_far (p := ⟨gb455, 0, none⟩) (R_mono HO_9.out (fun k_ hk => (⟨hk, hk.2⟩ : _ ∧ k_ ≠ gb455))) (fun _ hk => hk.2) (.int .u64 ((rd_T52 l1 x58_2).f0))) (fun _ hk => hk.2) (.int .i64 ((rd_T52 l1 x58_2).f1))) (fun _ h_ => h_.1))) hb); have n1_ := aM (R_below (by (with_reducible repeat (first | apply rA | apply rN | apply rD)); exact (R_mono (R_far (p := ⟨gb455, 1, none⟩) (R_far (p := ⟨gb455, 0, none⟩) (R_types HO_10.out BK455.out (by decide)) (fun _ hk => hk.2) (.int .u64 ((rd_T52 l1 x58_2).f0))) (fun _ hk => hk.2) (.int .i64 ((rd_T52 l1 x58_2).f1))) (fun _ h_ => h_.1))) hb); have n2_ := aM (V_elder' (by (with_reducible repeat (first | apply vA | apply vN | apply vD)); exact (V_mono (V_far (p := ⟨gb455, 1, none⟩) (V_far (p := ⟨gb455, 0, none⟩) (V_mono HO_442000.out (fun k_ hk => (⟨hk, hk.2⟩ : _ ∧ k_ ≠ gb455))) (fun _ hk => hk.2) (.int .u64 ((rd_T52 l1 x58_2).f0))) (fun _ hk => hk.2) (.int .i64 ((rd_T52 l1 x58_2).f1))) (fun _ h_ => h_.1))) (R_base ho0) hb); have n3_ := aM (V_elder' (by (with_reducible repeat (first | apply vA | apply vN | apply vD)); exact (V_mono (V_far (p := ⟨gb455, 1, none⟩) (V_far (p := ⟨gb455, 0, none⟩) (V_mono HO_443000.out (fun k_ hk => (⟨hk, hk.2⟩ : _ ∧ k_ ≠ gb455))) (fun _ hk => hk.2) (.int .u64 ((rd_T52 l1 x58_2).f0))) (fun _ hk => hk.2) (.int .i64 ((rd_T52 l1 x58_2).f1))) (fun _ h_ => h_.1))) (R_base ho0) hb); have n4_ := aM (R_elder' (by (with_reducible repeat (first | apply rA | apply rN | apply rD)); exact (R_mono (R_far (p := ⟨gb455, 1, none⟩) (R_far (p := ⟨gb455, 0, none⟩) (R_types HO_454000.out BK455.out (by decide)) (fun _ hk => hk.2) (.int .u64 ((rd_T52 l1 x58_2).f0))) (fun _ hk => hk.2) (.int .i64 ((rd_T52 l1 x58_2).f1))) (fun _ h_ => h_.1))) (R_base ho0) hb); have n5_ := aM (R_lower (R_new' (R_newM (M := fun k_ => (w.heap.size ≤ k_)) ho0 (below_size (by repeat (first | (with_reducible first | exact HB.out | apply bA | apply bN | apply bD | refine bS ?_ GE441.out | refine bS ?_ GE442.out | refine bS ?_ GE453.out | refine bS ?_ GE455.out) | exact HB.out))) (fun k_ h_ => h_)) (R_lt (by (with_reducible repeat (first | apply rA | apply rN | apply rD)); exact (R_mono (R_far (p := ⟨gb455, 1, none⟩) (R_far (p := ⟨gb455, 0, none⟩) (R_types HO_454000.out BK455.out (by decide)) (fun _ hk => hk.2) (.int .u64 ((rd_T52 l1 x58_2).f0))) (fun _ hk => hk.2) (.int .i64 ((rd_T52 l1 x58_2).f1))) (fun _ h_ => h_.1))))) (below_size (by repeat (first | (with_reducible first | exact HB.out | apply bA | apply bN | apply bD | refine bS ?_ GE441.out | refine bS ?_ GE442.out | refine bS ?_ GE453.out | refine bS ?_ GE455.out) | exact HB.out)))); have n6_ := aM (blk_below (g := gb441) (o := .cells #[.slice A0_0 l0_0.length c0_0, .int .i64 a0_1] 24 (0, 0)) (by (with_reducible repeat (first | refine kN ?_ _ | refine kD ?_ | refine kA ?_ _)); refine blk_far ?_ NB441_455.out _; (with_reducible repeat (first | refine kN ?_ _ | refine kD ?_ | refine kA ?_ _)); refine blk_far ?_ NB441_455.out _; (with_reducible repeat (first | refine kN ?_ _ | refine kD ?_ | refine kA ?_ _)); exact BK441.out) hb); have n7_ := aM (blk_below (g := gb442) (o := .cells #[.slice A2_0 l2_0.length c2_0, .int .i64 a2_1] 24 (0, 0)) (by (with_reducible repeat (first | refine kN ?_ _ | refine kD ?_ | refine kA ?_ _)); refine blk_far ?_ NB442_455.out _; (with_reducible repeat (first | refine kN ?_ _ | refine kD ?_ | refine kA ?_ _)); refine blk_far ?_ NB442_455.out _; (with_reducible repeat (first | refine kN ?_ _ | refine kD ?_ | refine kA ?_ _)); exact BK442.out) hb); have n8_ := aM (blk_below (g := gb453) (o := .cells #[.slice Ao97 x454000_2.length co97, .int .i64 x454001_2] 24 (0, 0)) (by (with_reducible repeat (first | refine kN ?_ _ | refine kD ?_ | refine kA ?_ _)); refine blk_far ?_ NB453_455.out _; (with_reducible repeat (first | refine kN ?_ _ | refine kD ?_ | refine kA ?_ _)); refine blk_far ?_ NB453_455.out _; (with_reducible repeat (first | refine kN ?_ _ | refine kD ?_ | refine kA ?_ _)); exact BK453.out) hb); have n9_ := aM (blk_below (g := gb455) (o := .cells #[.int .u64 ((rd_T52 l1 x58_2).f0), .int .i64 ((rd_T52 l1 x58_2).f1)] 52 (0, 0)) (by (with_reducible repeat (first | refine kN ?_ _ | refine kD ?_ | refine kA ?_ _)); refine blk_put (cs := #[.int .u64 ((rd_T52 l1 x58_2).f0), .int .i64 0]) ?_ 1 _ rfl; (with_reducible repeat (first | refine kN ?_ _ | refine kD ?_ | refine kA ?_ _)); refine blk_put (cs := #[.int .u64 0, .int .i64 0]) ?_ 0 _ rfl; (with_reducible repeat (first | refine kN ?_ _ | refine kD ?_ | refine kA ?_ _)); exact BK455.out) hb); have n10_ := aM (below_step (by repeat (first | (with_reducible first | exact HB.out | apply bA | apply bN | apply bD | refine bS ?_ GE441.out | refine bS ?_ GE442.out | refine bS ?_ GE453.out | refine bS ?_ GE455.out) | exact HB.out)) hb); clear HO_9; clear HO_10; clear HO_442000; clear HO_443000; clear HO_454000; clear BK441; clear BK442; clear BK453; clear BK455; clear HB; have HO_9 := n0_; have HO_10 := n1_; have HO_442000 := n2_; have HO_443000 := n3_; have HO_454000 := n4_; have HO458 := n5_; have BK441 := n6_; have BK442 := n7_; have BK453 := n8_; have BK455 := n9_; have HB := n10_; clear n0_ n1_ n2_ n3_ n4_ n5_ n6_ n7_ n8_ n9_ n10_; (try clear hb); (try clear hb2); (try clear hk); (try clear hi); (try clear ho0)) | ((with_reducible refine gate_dst (N := 13) rfl ?_); (try (refine gate_guard (by rfl) ?_; dsimp only)); refine box_event ?hg (N := 13) ?hd (cs := #[.slice none 0 0, .int .i64 0]) (t := 24) ?hr ?_; (case hd => rfl); (case hg => rfl); (case hr => first | (go_simp; done) | (go_simp; rfl)); intro gb461 hg w99 hbox hb; have n0_ := aM (R_below (by (with_reducible repeat (first | apply rA | apply rN | apply rD)); exact HO_9.out) hb); have n1_ := aM (R_below (by (with_reducible repeat (first | apply rA | apply rN | apply rD)); exact HO_10.out) hb); have n2_ := aM (V_below (V_elderB (by (with_reducible repeat (first | apply vA | apply vN | apply vD)); exact HO_442000.out) gb461 (Nat.le_of_eq hg.symm)) hb); have n3_ := aM (V_below (V_elderB (by (with_reducible repeat (first | apply vA | apply vN | apply vD)); exact HO_443000.out) gb461 (Nat.le_of_eq hg.symm)) hb); have n4_ := aM (R_below (by (with_reducible repeat (first | apply rA | apply rN | apply rD)); exact HO_454000.out) hb); have n5_ := aM (R_below (by (with_reducible repeat (first | apply rA | apply rN | apply rD)); exact HO458.out) hb); have n6_ := aM (blk_below (g := gb441) (o := .cells #[.slice A0_0 l0_0.length c0_0, .int .i64 a0_1] 24 (0, 0)) (by (with_reducible repeat (first | refine kN ?_ _ | refine kD ?_ | refine kA ?_ _)); exact BK441.out) hb); have n7_ := aM (blk_below (g := gb442) (o := .cells #[.slice A2_0 l2_0.length c2_0, .int .i64 a2_1] 24 (0, 0)) (by (with_reducible repeat (first | refine kN ?_ _ | refine kD ?_ | refine kA ?_ _)); exact BK442.out) hb); have n8_ := aM (blk_below (g := gb453) (o := .cells #[.slice Ao97 x454000_2.length co97, .int .i64 x454001_2] 24 (0, 0)) (by (with_reducible repeat (first | refine kN ?_ _ | refine kD ?_ | refine kA ?_ _)); exact BK453.out) hb); have n9_ := aM (blk_below (g := gb455) (o := .cells #[.int .u64 ((rd_T52 l1 x58_2).f0), .int .i64 ((rd_T52 l1 x58_2).f1)] 52 (0, 0)) (by (with_reducible repeat (first | refine kN ?_ _ | refine kD ?_ | refine kA ?_ _)); exact BK455.out) hb); have n10_ := aM (below_step (by repeat (first | (with_reducible first | exact HB.out | apply bA | apply bN | apply bD | refine bS ?_ GE441.out | refine bS ?_ GE442.out | refine bS ?_ GE453.out | refine bS ?_ GE455.out) | exact HB.out)) hb); have n11_ := aM (hbox); have n12_ := aM ((by rw [hg]; exact (below_size (by repeat (first | (with_reducible first | exact HB.out | apply bA | apply bN | apply bD | refine bS ?_ GE441.out | refine bS ?_ GE442.out | refine bS ?_ GE453.out | refine bS ?_ GE455.out) | exact HB.out))) : w.heap.size ≤ gb461)); have n13_ := aM ((by rw [hg]; exact (below_size (by repeat (first | (with_reducible first | exact HB.out | apply bA | apply bN | apply bD | refine bS ?_ GE441.out | refine bS ?_ GE442.out | refine bS ?_ GE453.out | refine bS ?_ GE455.out) | exact HB.out))) : w.heap.size ≤ gb461)); have n14_ := aM ((by rw [hg]; exact Nat.ne_of_lt (blk_lt (g := gb441) (o := .cells #[.slice A0_0 l0_0.length c0_0, .int .i64 a0_1] 24 (0, 0)) (by (with_reducible repeat (first | refine kN ?_ _ | refine kD ?_ | refine kA ?_ _)); exact BK441.out)) : gb441 ≠ gb461)); have n15_ := aM ((by rw [hg]; exact Nat.ne_of_gt (blk_lt (g := gb441) (o := .cells #[.slice A0_0 l0_0.length c0_0, .int .i64 a0_1] 24 (0, 0)) (by (with_reducible repeat (first | refine kN ?_ _ | refine kD ?_ | refine kA ?_ _)); exact BK441.out)) : gb461 ≠ gb441)); have n16_ := aM ((by rw [hg]; exact Nat.ne_of_lt (blk_lt (g := gb442) (o := .cells #[.slice A2_0 l2_0.length c2_0, .int .i64 a2_1] 24 (0, 0)) (by (with_reducible repeat (first | refine kN ?_ _ | refine kD ?_ | refine kA ?_ _)); exact BK442.out)) : gb442 ≠ gb461)); have n17_ := aM ((by rw [hg]; exact Nat.ne_of_gt (blk_lt (g := gb442) (o := .cells #[.slice A2_0 l2_0.length c2_0, .int .i64 a2_1] 24 (0, 0)) (by (with_reducible repeat (first | refine kN ?_ _ | refine kD ?_ | refine kA ?_ _)); exact BK442.out)) : gb461 ≠ gb442)); have n18_ := aM ((by rw [hg]; exact Nat.ne_of_lt (blk_lt (g := gb453) (o := .cells #[.slice Ao97 x454000_2.length co97, .int .i64 x454001_2] 24 (0, 0)) (by (with_reducible repeat (first | refine kN ?_ _ | refine kD ?_ | refine kA ?_ _)); exact BK453.out)) : gb453 ≠ gb461)); have n19_ := aM ((by rw [hg]; exact Nat.ne_of_gt (blk_lt (g := gb453) (o := .cells #[.slice Ao97 x454000_2.length co97, .int .i64 x454001_2] 24 (0, 0)) (by (with_reducible repeat (first | refine kN ?_ _ | refine kD ?_ | refine kA ?_ _)); exact BK453.out)) : gb461 ≠ gb453)); have n20_ := aM ((by rw [hg]; exact Nat.ne_of_lt (blk_lt (g := gb455) (o := .cells #[.int .u64 ((rd_T52 l1 x58_2).f0), .int .i64 ((rd_T52 l1 x58_2).f1)] 52 (0, 0)) (by (with_reducible repeat (first | refine kN ?_ _ | refine kD ?_ | refine kA ?_ _)); exact BK455.out)) : gb455 ≠ gb461)); have n21_ := aM ((by rw [hg]; exact Nat.ne_of_gt (blk_lt (g := gb455) (o := .cells #[.int .u64 ((rd_T52 l1 x58_2).f0), .int .i64 ((rd_T52 l1 x58_2).f1)] 52 (0, 0)) (by (with_reducible repeat (first | refine kN ?_ _ | refine kD ?_ | refine kA ?_ _)); exact BK455.out)) : gb461 ≠ gb455)); clear HO_9; clear HO_10; clear HO_442000; clear HO_443000; clear HO_454000; clear HO458; clear BK441; clear BK442; clear BK453; clear BK455; clear HB; have HO_9 := n0_; have HO_10 := n1_; have HO_442000 := n2_; have HO_443000 := n3_; have HO_454000 := n4_; have HO458 := n5_; have BK441 := n6_; have BK442 := n7_; have BK453 := n8_; have BK455 := n9_; have HB := n10_; have BK461 := n11_; have GW461 := n12_; have GE461 := n13_; have NB441_461 := n14_; have NB461_441 := n15_; have NB442_461 := n16_; have NB461_442 := n17_; have NB453_461 := n18_; have NB461_453 := n19_; have NB455_461 := n20_; have NB461_455 := n21_; clear n0_ n1_ n2_ n3_ n4_ n5_ n6_ n7_ n8_ n9_ n10_ n11_ n12_ n13_ n14_ n15_ n16_ n17_ n18_ n19_ n20_ n21_; clear hb hbox hg; obtain ⟨Ao100, co100, eo100⟩ := R_slice HO458.out; subst eo100; have hnb101 := NB461_441.out; have hnc101 := NB441_461.out; have hnb102 := NB461_442.out; have hnc102 := NB442_461.out; have hnb103 := NB461_453.out; have hnc103 := NB453_461.out; have hnb104 := NB461_455.out; have hnc104 := NB455_461.out; have hcz105_0 : w99.cell? ⟨gb461, 0, none⟩ = some (.slice none 0 0) := (blk_cell BK461.out 0).trans rfl; have hcz105_1 : w99.cell? ⟨gb461, 1, none⟩ = some (.int .i64 0) := (blk_cell BK461.out 1).trans rfl; have hfz105_0 := blk_frozen BK461.out 0; have hfz105_1 := blk_frozen BK461.out 1))
           go_roundg k2
           case measure => have := HJ4.out; have := HK2.out; omega
           case rel => exact ⟨(x9_2), (x10_2), (wrap64 (x58_2 + 1)), (x454000_2), (x454001_2), (.slice Ao97 x454000_2.length co97), (by first | rfl | (simp; done) | (simp [*]; done)), H', ⟨by have := HJ4.out; have := HK2.out; omega⟩, ⟨by (with_reducible repeat (first | apply rA | apply rN | apply rD)); exact R_mono (R_far (p := ⟨gb461, 1, none⟩) (R_far (p := ⟨gb461, 0, none⟩) (R_types HO_9.out BK461.out (by decide)) (fun _ hk => hk.2) (.slice Ao100 t456.length co100)) (fun _ hk => hk.2) (.int .i64 t459)) (fun _ hk => hk.1.1)⟩, ⟨by (with_reducible repeat (first | apply rA | apply rN | apply rD)); exact R_mono (R_far (p := ⟨gb461, 1, none⟩) (R_far (p := ⟨gb461, 0, none⟩) (R_types HO_10.out BK461.out (by decide)) (fun _ hk => hk.2) (.slice Ao100 t456.length co100)) (fun _ hk => hk.2) (.int .i64 t459)) (fun _ hk => hk.1)⟩, ⟨by (with_reducible repeat (first | apply vA | apply vN | apply vD)); exact V_mono (V_far (p := ⟨gb461, 1, none⟩) (V_far (p := ⟨gb461, 0, none⟩) (V_mono HO_442000.out (fun k_ hk => (⟨hk, hk.2⟩ : _ ∧ k_ ≠ gb461))) (fun _ hk => hk.2) (.slice Ao100 t456.length co100)) (fun _ hk => hk.2) (.int .i64 t459)) (fun _ hk => ⟨hk.1.1.1.1.1, ⟨hk.1.1.1.1.2.1, ⟨hk.1.1.1.1.2.2.1, ⟨hk.1.1.1.1.2.2.2.1, ⟨hk.1.1.1.1.2.2.2.2.1, ⟨hk.1.1.1.1.2.2.2.2.2.1, hk.1.1.1.1.2.2.2.2.2.2⟩⟩⟩⟩⟩⟩)⟩, ⟨by (with_reducible repeat (first | apply vA | apply vN | apply vD)); exact V_mono (V_far (p := ⟨gb461, 1, none⟩) (V_far (p := ⟨gb461, 0, none⟩) (V_mono HO_443000.out (fun k_ hk => (⟨hk, hk.2⟩ : _ ∧ k_ ≠ gb461))) (fun _ hk => hk.2) (.slice Ao100 t456.length co100)) (fun _ hk => hk.2) (.int .i64 t459)) (fun _ hk => ⟨hk.1.1.1.1.1, ⟨hk.1.1.1.1.2.1, ⟨hk.1.1.1.1.2.2.1, ⟨hk.1.1.1.1.2.2.2.1, ⟨hk.1.1.1.1.2.2.2.2.1, ⟨hk.1.1.1.1.2.2.2.2.2.1, hk.1.1.1.1.2.2.2.2.2.2⟩⟩⟩⟩⟩⟩)⟩, ⟨by (with_reducible repeat (first | apply rA | apply rN | apply rD)); exact R_mono (R_far (p := ⟨gb461, 1, none⟩) (R_far (p := ⟨gb461, 0, none⟩) (R_types HO_454000.out BK461.out (by decide)) (fun _ hk => hk.2) (.slice Ao100 t456.length co100)) (fun _ hk => hk.2) (.int .i64 t459)) (fun _ hk => hk.1.1)⟩, ⟨by (with_reducible repeat (first | refine kN ?_ _ | refine kD ?_ | refine kA ?_ _)); refine blk_far ?_ NB441_461.out _; (with_reducible repeat (first | refine kN ?_ _ | refine kD ?_ | refine kA ?_ _)); refine blk_far ?_ NB441_461.out _; (with_reducible repeat (first | refine kN ?_ _ | refine kD ?_ | refine kA ?_ _)); exact BK441.out⟩, ⟨by (with_reducible repeat (first | refine kN ?_ _ | refine kD ?_ | refine kA ?_ _)); refine blk_far ?_ NB442_461.out _; (with_reducible repeat (first | refine kN ?_ _ | refine kD ?_ | refine kA ?_ _)); refine blk_far ?_ NB442_461.out _; (with_reducible repeat (first | refine kN ?_ _ | refine kD ?_ | refine kA ?_ _)); exact BK442.out⟩, ⟨by (with_reducible repeat (first | refine kN ?_ _ | refine kD ?_ | refine kA ?_ _)); refine blk_far ?_ NB453_461.out _; (with_reducible repeat (first | refine kN ?_ _ | refine kD ?_ | refine kA ?_ _)); refine blk_far ?_ NB453_461.out _; (with_reducible repeat (first | refine kN ?_ _ | refine kD ?_ | refine kA ?_ _)); exact BK453.out⟩, ⟨by repeat (first | (with_reducible first | exact HB.out | apply bA | apply bN | apply bD | refine bS ?_ GE441.out | refine bS ?_ GE442.out | refine bS ?_ GE453.out | refine bS ?_ GE455.out | refine bS ?_ GE461.out) | exact HB.out)⟩⟩
         ·rw [if_neg c61] at H
          exact absurd H (by simp)
        ·rw [if_neg c60] at H
         exact absurd H (by simp)
       ·rw [if_neg c59] at H
        have c59b0 : decide (x58_2 < (l1.length : Int)) = false := decide_eq_false c59
        clear c59
        obtain ⟨y468, hy468⟩ : ∃ y_ : List (S24), y_ = (([(⟨x454000_2, x454001_2⟩ : S24), (⟨l2_0, a2_1⟩ : S24)] : List (S24))) := ⟨_, rfl⟩
        replace H : ((bits_Join.f k2 y468).bind fun bt471 => (if bt471.2.2 = 0 then (sBB.l1 k2 t443 x10_2 x9_2 (x9_2.length : Int) 0 x454000_2 x454001_2 bt471.1 bt471.2.1) else (if t443 = true then (some (bt471.2.2 == 2)) else (some false)))) = some r := by first | (rw [hy468]; with_reducible exact H) | (have H2_ := (Option.bind_some _ _).symm.trans H; rw [hy468]; with_reducible exact H2_) | (have H2_ := (Option.bind_some _ _).symm.trans H; with_reducible exact H2_) | with_reducible exact H | (rw [hy468]; exact H) | exact H
        have Ny468 := aM hy468
        clear hy468
        replace H := Option.bind_eq_some_iff.mp H
        obtain ⟨⟨t471, t474, t475⟩, A1060, H⟩ := H
        replace H : (if t475 = 0 then (sBB.l1 k2 t443 x10_2 x9_2 (x9_2.length : Int) 0 x454000_2 x454001_2 t471 t474) else (if t443 = true then (some (t475 == 2)) else (some false))) = some r := H
        have A106 := aM A1060
        clear A1060
        by_cases c107 : t475 = 0
        ·rw [if_pos c107] at H
         have c107b0 : (t475 == 0) = true := beq_iff_eq.mpr c107
         have c107b1 : (t475 != 0) = false := bne_eq_false_iff_eq.mpr c107
         clear c107
         have H' := aM H
         clear H
         have hnb108 := NB453_441.out
         have hnc108 := NB441_453.out
         have hnb109 := NB453_442.out
         have hnc109 := NB442_453.out
         have hcz110_0 : wr.cell? ⟨gb453, 0, none⟩ = some (u454000) := (blk_cell BK453.out 0).trans rfl
         have hcz110_1 : wr.cell? ⟨gb453, 1, none⟩ = some (.int .i64 x454001_2) := (blk_cell BK453.out 1).trans rfl
         have hfz110_0 := blk_frozen BK453.out 0
         have hfz110_1 := blk_frozen BK453.out 1
         have hnb111 := NB442_441.out
         have hnc111 := NB441_442.out
         have hcz112_0 : wr.cell? ⟨gb442, 0, none⟩ = some (.slice A2_0 l2_0.length c2_0) := (blk_cell BK442.out 0).trans rfl
         have hcz112_1 : wr.cell? ⟨gb442, 1, none⟩ = some (.int .i64 a2_1) := (blk_cell BK442.out 1).trans rfl
         have hfz112_0 := blk_frozen BK442.out 0
         have hfz112_1 := blk_frozen BK442.out 1
         obtain ⟨Ao113, co113, eo113⟩ := R_slice HO_454000.out
         subst eo113
         go_wp2_with (first | ((with_reducible refine gate_dst (N := 84) rfl ?_); (try (refine gate_guard (by rfl) ?_; dsimp only)); refine N_lit k24 _ 24 ?hg (N' := 84) ?hd (xs := ([(⟨x454000_2, x454001_2⟩ : S24), (⟨l2_0, a2_1⟩ : S24)] : List (S24))) (inner := [.slice Ao113 x454000_2.length co113, .int .i64 x454001_2, .slice A2_0 l2_0.length c2_0, .int .i64 a2_1]) (ok := (fun k_ => ((P0_0_ k_ ∨ P2_0_ k_) ∨ w.heap.size ≤ k_) ∧ some k_ ≠ (u9 : Value).ownBlock ∧ some k_ ≠ (u10 : Value).ownBlock ∧ k_ ≠ gb441 ∧ k_ ≠ gb442 ∧ k_ ≠ gb453)) (okp := (fun k_ => ((P0_0_ k_ ∨ P2_0_ k_) ∨ w.heap.size ≤ k_) ∧ some k_ ≠ (u9 : Value).ownBlock ∧ some k_ ≠ (u10 : Value).ownBlock ∧ k_ ≠ gb441 ∧ k_ ≠ gb442 ∧ k_ ≠ gb453)) ?hr ?hp (fun _ hk => hk) ((show ∀ k_, wr.heap.size ≤ k_ → (fun k_ => ((P0_0_ k_ ∨ P2_0_ k_) ∨ w.heap.size ≤ k_) ∧ some k_ ≠ (u9 : Value).ownBlock ∧ some k_ ≠ (u10 : Value).ownBlock ∧ k_ ≠ gb441 ∧ k_ ≠ gb442 ∧ k_ ≠ gb453) k_ from fun k_ hk => ⟨(.inr (Nat.le_trans (below_size (by repeat (first | (with_reducible first | exact HB.out | apply bA | apply bN | apply bD | refine bS ?_ GE441.out | refine bS ?_ GE442.out | refine bS ?_ GE453.out) | exact HB.out))) hk)), Kd.fresh' (R_lt (by (with_reducible repeat (first | apply rA | apply rN | apply rD)); exact HO_9.out)) k_ hk, Kd.fresh' (R_lt (by (with_reducible repeat (first | apply rA | apply rN | apply rD)); exact HO_10.out)) k_ hk, Kd.freshB (g := gb441) (o := .cells #[.slice A0_0 l0_0.length c0_0, .int .i64 a0_1] 24 (0, 0)) (by (with_reducible repeat (first | refine kN ?_ _ | refine kD ?_ | refine kA ?_ _)); exact BK441.out) k_ hk, Kd.freshB (g := gb442) (o := .cells #[.slice A2_0 l2_0.length c2_0, .int .i64 a2_1] 24 (0, 0)) (by (with_reducible repeat (first | refine kN ?_ _ | refine kD ?_ | refine kA ?_ _)); exact BK442.out) k_ hk, Kd.freshB (g := gb453) (o := .cells #[.slice Ao113 x454000_2.length co113, .int .i64 x454001_2] 24 (0, 0)) (by (with_reducible repeat (first | refine kN ?_ _ | refine kD ?_ | refine kA ?_ _)); exact BK453.out) k_ hk⟩) _ (Nat.le_refl _)) (Below.refl _ _) (Nat.le_refl _) (by simp) ?_; (case hd => rfl); (case hg => rfl); (case hr => first | (go_simp; done) | (go_simp; rfl)); (case hp => exact (Reps.c2 (show Kd.FK k24 _ _ (⟨x454000_2, x454001_2⟩ : S24) [.slice Ao113 x454000_2.length co113, .int .i64 x454001_2] from (k24_mkF _ _ (⟨x454000_2, x454001_2⟩ : S24) (R_reads' (R_mono (ok' := (fun k_ => ((P0_0_ k_ ∨ P2_0_ k_) ∨ w.heap.size ≤ k_) ∧ some k_ ≠ (u9 : Value).ownBlock ∧ some k_ ≠ (u10 : Value).ownBlock ∧ k_ ≠ gb441 ∧ k_ ≠ gb442 ∧ k_ ≠ gb453)) (R_types (R_types (R_types (R_apart' (R_apart' (HO_454000.out) (R_typed HO_9.out) (by decide)) (R_typed HO_10.out) (by decide)) BK441.out (by decide)) BK442.out (by decide)) BK453.out (by decide)) (fun k_ hk => ⟨(.inr (hk.1.1.1.1.1)), ⟨hk.1.1.1.1.2, ⟨hk.1.1.1.2, ⟨hk.1.1.2, ⟨hk.1.2, hk.2⟩⟩⟩⟩⟩))).2.1 (R_F (R_mono (ok' := (fun k_ => ((P0_0_ k_ ∨ P2_0_ k_) ∨ w.heap.size ≤ k_) ∧ some k_ ≠ (u9 : Value).ownBlock ∧ some k_ ≠ (u10 : Value).ownBlock ∧ k_ ≠ gb441 ∧ k_ ≠ gb442 ∧ k_ ≠ gb453)) (R_types (R_types (R_types (R_apart' (R_apart' (HO_454000.out) (R_typed HO_9.out) (by decide)) (R_typed HO_10.out) (by decide)) BK441.out (by decide)) BK442.out (by decide)) BK453.out (by decide)) (fun k_ hk => ⟨(.inr (hk.1.1.1.1.1)), ⟨hk.1.1.1.1.2, ⟨hk.1.1.1.2, ⟨hk.1.1.2, ⟨hk.1.2, hk.2⟩⟩⟩⟩⟩))))) (Reps.c2 (show Kd.FK k24 _ _ (⟨l2_0, a2_1⟩ : S24) [.slice A2_0 l2_0.length c2_0, .int .i64 a2_1] from (k24_mkF _ _ (⟨l2_0, a2_1⟩ : S24) (V_reads' (V_mono (ok' := (fun k_ => ((P0_0_ k_ ∨ P2_0_ k_) ∨ w.heap.size ≤ k_) ∧ some k_ ≠ (u9 : Value).ownBlock ∧ some k_ ≠ (u10 : Value).ownBlock ∧ k_ ≠ gb441 ∧ k_ ≠ gb442 ∧ k_ ≠ gb453)) (HO_443000.out) (fun k_ hk => ⟨hk.1, ⟨hk.2.1, ⟨hk.2.2.1, ⟨hk.2.2.2.2.1, ⟨hk.2.2.2.2.2.1, hk.2.2.2.2.2.2⟩⟩⟩⟩⟩))).2.1 (V_F (V_mono (ok' := (fun k_ => ((P0_0_ k_ ∨ P2_0_ k_) ∨ w.heap.size ≤ k_) ∧ some k_ ≠ (u9 : Value).ownBlock ∧ some k_ ≠ (u10 : Value).ownBlock ∧ k_ ≠ gb441 ∧ k_ ≠ gb442 ∧ k_ ≠ gb453)) (HO_443000.out) (fun k_ hk => ⟨hk.1, ⟨hk.2.1, ⟨hk.2.2.1, ⟨hk.2.2.2.2.1, ⟨hk.2.2.2.2.2.1, hk.2.2.2.2.2.2⟩⟩⟩⟩⟩))))) (Reps.none _ _)))); intro v469 w114 ho115 hb hg_ hnew_; clear hg_ hnew_; (first | rw [← Ny468.out] at ho115 | (simp only [Int.reduceToNat] at ho115; rw [← Ny468.out] at ho115)); have n0_ := aM (R_below (by (with_reducible repeat (first | apply rA | apply rN | apply rD)); exact HO_9.out) hb); have n1_ := aM (R_below (by (with_reducible repeat (first | apply rA | apply rN | apply rD)); exact HO_10.out) hb); have n2_ := aM (V_elder' (by (with_reducible repeat (first | apply vA | apply vN | apply vD)); exact HO_442000.out) (by first | exact N_base ho115 | exact S_base ho115) hb); have n3_ := aM (V_elder' (by (with_reducible repeat (first | apply vA | apply vN | apply vD)); exact HO_443000.out) (by first | exact N_base ho115 | exact S_base ho115) hb); have n4_ := aM (N_lower ho115 (below_size (by repeat (first | (with_reducible first | exact HB.out | apply bA | apply bN | apply bD | refine bS ?_ GE441.out | refine bS ?_ GE442.out | refine bS ?_ GE453.out) | exact HB.out)))); have n5_ := aM (blk_below (g := gb441) (o := .cells #[.slice A0_0 l0_0.length c0_0, .int .i64 a0_1] 24 (0, 0)) (by (with_reducible repeat (first | refine kN ?_ _ | refine kD ?_ | refine kA ?_ _)); exact BK441.out) hb); have n6_ := aM (blk_below (g := gb442) (o := .cells #[.slice A2_0 l2_0.length c2_0, .int .i64 a2_1] 24 (0, 0)) (by (with_reducible repeat (first | refine kN ?_ _ | refine kD ?_ | refine kA ?_ _)); exact BK442.out) hb); have n7_ := aM (blk_below (g := gb453) (o := .cells #[.slice Ao113 x454000_2.length co113, .int .i64 x454001_2] 24 (0, 0)) (by (with_reducible repeat (first | refine kN ?_ _ | refine kD ?_ | refine kA ?_ _)); exact BK453.out) hb); have n8_ := aM (below_step (by repeat (first | (with_reducible first | exact HB.out | apply bA | apply bN | apply bD | refine bS ?_ GE441.out | refine bS ?_ GE442.out | refine bS ?_ GE453.out) | exact HB.out)) hb); clear HO_9; clear HO_10; clear HO_442000; clear HO_443000; clear BK441; clear BK442; clear BK453; clear HB; clear HO_454000; have HO_9 := n0_; have HO_10 := n1_; have HO_442000 := n2_; have HO_443000 := n3_; have HO470 := n4_; have BK441 := n5_; have BK442 := n6_; have BK453 := n7_; have HB := n8_; clear n0_ n1_ n2_ n3_ n4_ n5_ n6_ n7_ n8_; clear hb ho115; obtain ⟨Ao116, co116, eo116⟩ := N_slice HO470.out; subst eo116) | ((with_reducible refine gate_callee (f := 23) rfl ?_); refine goesL_ (some 85) rfl rfl Try.func23 (by kernel_rfl) rfl #[.slice Ao116 y468.length co116] rfl (by (try simp only [List.map_toArray, List.map_cons, List.map_nil]); first | done | rfl | (simp only [List.length_drop, List.length_take]; rfl)) ?_; (with_reducible refine (bits_Join.calls k2 _ _ y468 t471 t474 t475 _ ?side1 ?side2 A106.out).mono ?_); (case side1 => repeat (first | exact (N_reads' HO470.out).2.2 | (with_reducible refine C_alloc ?_ _) | (with_reducible refine C_drewN ?_ _) | (with_reducible refine C_drew ?_))); (case side2 => exact (N_reads' HO470.out).2.1); rintro e w117 ⟨v472, rfl, ho0, hb⟩; refine ⟨_, rfl, ?_⟩; have n0_ := aM (R_below (by (with_reducible repeat (first | apply rA | apply rN | apply rD)); exact HO_9.out) hb); have n1_ := aM (R_below (by (with_reducible repeat (first | apply rA | apply rN | apply rD)); exact HO_10.out) hb); have n2_ := aM (V_elder' (by (with_reducible repeat (first | apply vA | apply vN | apply vD)); exact HO_442000.out) (R_base ho0) hb); have n3_ := aM (V_elder' (by (with_reducible repeat (first | apply vA | apply vN | apply vD)); exact HO_443000.out) (R_base ho0) hb); have n4_ := aM (N_elder' (by (with_reducible repeat (first | apply N_alloc | apply N_drewN | apply N_drew)); exact HO470.out) (R_base ho0) hb); have n5_ := aM (R_lower (R_newM (M := fun k_ => (w.heap.size ≤ k_)) ho0 (below_size (by repeat (first | (with_reducible first | exact HB.out | apply bA | apply bN | apply bD | refine bS ?_ GE441.out | refine bS ?_ GE442.out | refine bS ?_ GE453.out) | exact HB.out))) (fun k_ h_ => h_)) (below_size (by repeat (first | (with_reducible first | exact HB.out | apply bA | apply bN | apply bD | refine bS ?_ GE441.out | refine bS ?_ GE442.out | refine bS ?_ GE453.out) | exact HB.out)))); have n6_ := aM (blk_below (g := gb441) (o := .cells #[.slice A0_0 l0_0.length c0_0, .int .i64 a0_1] 24 (0, 0)) (by (with_reducible repeat (first | refine kN ?_ _ | refine kD ?_ | refine kA ?_ _)); exact BK441.out) hb); have n7_ := aM (blk_below (g := gb442) (o := .cells #[.slice A2_0 l2_0.length c2_0, .int .i64 a2_1] 24 (0, 0)) (by (with_reducible repeat (first | refine kN ?_ _ | refine kD ?_ | refine kA ?_ _)); exact BK442.out) hb); have n8_ := aM (blk_below (g := gb453) (o := .cells #[.slice Ao113 x454000_2.length co113, .int .i64 x454001_2] 24 (0, 0)) (by (with_reducible repeat (first | refine kN ?_ _ | refine kD ?_ | refine kA ?_ _)); exact BK453.out) hb); have n9_ := aM (below_step (by repeat (first | (with_reducible first | exact HB.out | apply bA | apply bN | apply bD | refine bS ?_ GE441.out | refine bS ?_ GE442.out | refine bS ?_ GE453.out) | exact HB.out)) hb); clear HO_9; clear HO_10; clear HO_442000; clear HO_443000; clear HO470; clear BK441; clear BK442; clear BK453; clear HB; have HO_9 := n0_; have HO_10 := n1_; have HO_442000 := n2_; have HO_443000 := n3_; have HO470 := n4_; have HO473 := n5_; have BK441 := n6_; have BK442 := n7_; have BK453 := n8_; have HB := n9_; clear n0_ n1_ n2_ n3_ n4_ n5_ n6_ n7_ n8_ n9_; (try clear hb); (try clear hb2); (try clear hk); (try clear hi); (try clear ho0)) | ((with_reducible refine gate_dst (N := 15) rfl ?_); (try (refine gate_guard (by rfl) ?_; dsimp only)); refine box_event ?hg (N := 15) ?hd (cs := #[.slice none 0 0, .int .i64 0]) (t := 24) ?hr ?_; (case hd => rfl); (case hg => rfl); (case hr => first | (go_simp; done) | (go_simp; rfl)); intro gb476 hg w118 hbox hb; have n0_ := aM (R_below (by (with_reducible repeat (first | apply rA | apply rN | apply rD)); exact HO_9.out) hb); have n1_ := aM (R_below (by (with_reducible repeat (first | apply rA | apply rN | apply rD)); exact HO_10.out) hb); have n2_ := aM (V_below (V_elderB (by (with_reducible repeat (first | apply vA | apply vN | apply vD)); exact HO_442000.out) gb476 (Nat.le_of_eq hg.symm)) hb); have n3_ := aM (V_below (V_elderB (by (with_reducible repeat (first | apply vA | apply vN | apply vD)); exact HO_443000.out) gb476 (Nat.le_of_eq hg.symm)) hb); have n4_ := aM (N_below (N_elderB (by (with_reducible repeat (first | apply N_alloc | apply N_drewN | apply N_drew)); exact HO470.out) gb476 (Nat.le_of_eq hg.symm)) hb); have n5_ := aM (R_below (by (with_reducible repeat (first | apply rA | apply rN | apply rD)); exact HO473.out) hb); have n6_ := aM (blk_below (g := gb441) (o := .cells #[.slice A0_0 l0_0.length c0_0, .int .i64 a0_1] 24 (0, 0)) (by (with_reducible repeat (first | refine kN ?_ _ | refine kD ?_ | refine kA ?_ _)); exact BK441.out) hb); have n7_ := aM (blk_below (g := gb442) (o := .cells #[.slice A2_0 l2_0.length c2_0, .int .i64 a2_1] 24 (0, 0)) (by (with_reducible repeat (first | refine kN ?_ _ | refine kD ?_ | refine kA ?_ _)); exact BK442.out) hb); have n8_ := aM (blk_below (g := gb453) (o := .cells #[.slice Ao113 x454000_2.length co113, .int .i64 x454001_2] 24 (0, 0)) (by (with_reducible repeat (first | refine kN ?_ _ | refine kD ?_ | refine kA ?_ _)); exact BK453.out) hb); have n9_ := aM (below_step (by repeat (first | (with_reducible first | exact HB.out | apply bA | apply bN | apply bD | refine bS ?_ GE441.out | refine bS ?_ GE442.out | refine bS ?_ GE453.out) | exact HB.out)) hb); have n10_ := aM (hbox); have n11_ := aM ((by rw [hg]; exact (below_size (by repeat (first | (with_reducible first | exact HB.out | apply bA | apply bN | apply bD | refine bS ?_ GE441.out | refine bS ?_ GE442.out | refine bS ?_ GE453.out) | exact HB.out))) : w.heap.size ≤ gb476)); have n12_ := aM ((by rw [hg]; exact (below_size (by repeat (first | (with_reducible first | exact HB.out | apply bA | apply bN | apply bD | refine bS ?_ GE441.out | refine bS ?_ GE442.out | refine bS ?_ GE453.out) | exact HB.out))) : w.heap.size ≤ gb476)); have n13_ := aM ((by rw [hg]; exact Nat.ne_of_lt (blk_lt (g := gb441) (o := .cells #[.slice A0_0 l0_0.length c0_0, .int .i64 a0_1] 24 (0, 0)) (by (with_reducible repeat (first | refine kN ?_ _ | refine kD ?_ | refine kA ?_ _)); exact BK441.out)) : gb441 ≠ gb476)); have n14_ := aM ((by rw [hg]; exact Nat.ne_of_gt (blk_lt (g := gb441) (o := .cells #[.slice A0_0 l0_0.length c0_0, .int .i64 a0_1] 24 (0, 0)) (by (with_reducible repeat (first | refine kN ?_ _ | refine kD ?_ | refine kA ?_ _)); exact BK441.out)) : gb476 ≠ gb441)); have n15_ := aM ((by rw [hg]; exact Nat.ne_of_lt (blk_lt (g := gb442) (o := .cells #[.slice A2_0 l2_0.length c2_0, .int .i64 a2_1] 24 (0, 0)) (by (with_reducible repeat (first | refine kN ?_ _ | refine kD ?_ | refine kA ?_ _)); exact BK442.out)) : gb442 ≠ gb476)); have n16_ := aM ((by rw [hg]; exact Nat.ne_of_gt (blk_lt (g := gb442) (o := .cells #[.slice A2_0 l2_0.length c2_0, .int .i64 a2_1] 24 (0, 0)) (by (with_reducible repeat (first | refine kN ?_ _ | refine kD ?_ | refine kA ?_ _)); exact BK442.out)) : gb476 ≠ gb442)); have n17_ := aM ((by rw [hg]; exact Nat.ne_of_lt (blk_lt (g := gb453) (o := .cells #[.slice Ao113 x454000_2.length co113, .int .i64 x454001_2] 24 (0, 0)) (by (with_reducible repeat (first | refine kN ?_ _ | refine kD ?_ | refine kA ?_ _)); exact BK453.out)) : gb453 ≠ gb476)); have n18_ := aM ((by rw [hg]; exact Nat.ne_of_gt (blk_lt (g := gb453) (o := .cells #[.slice Ao113 x454000_2.length co113, .int .i64 x454001_2] 24 (0, 0)) (by (with_reducible repeat (first | refine kN ?_ _ | refine kD ?_ | refine kA ?_ _)); exact BK453.out)) : gb476 ≠ gb453)); clear HO_9; clear HO_10; clear HO_442000; clear HO_443000; clear HO470; clear HO473; clear BK441; clear BK442; clear BK453; clear HB; have HO_9 := n0_; have HO_10 := n1_; have HO_442000 := n2_; have HO_443000 := n3_; have HO470 := n4_; have HO473 := n5_; have BK441 := n6_; have BK442 := n7_; have BK453 := n8_; have HB := n9_; have BK476 := n10_; have GW476 := n11_; have GE476 := n12_; have NB441_476 := n13_; have NB476_441 := n14_; have NB442_476 := n15_; have NB476_442 := n16_; have NB453_476 := n17_; have NB476_453 := n18_; clear n0_ n1_ n2_ n3_ n4_ n5_ n6_ n7_ n8_ n9_ n10_ n11_ n12_ n13_ n14_ n15_ n16_ n17_ n18_; clear hb hbox hg; obtain ⟨Ao119, co119, eo119⟩ := R_slice HO473.out; subst eo119; have hnb120 := NB476_441.out; have hnc120 := NB441_476.out; have hnb121 := NB476_442.out; have hnc121 := NB442_476.out; have hnb122 := NB476_453.out; have hnc122 := NB453_476.out; have hcz123_0 : w118.cell? ⟨gb476, 0, none⟩ = some (.slice none 0 0) := (blk_cell BK476.out 0).trans rfl; have hcz123_1 : w118.cell? ⟨gb476, 1, none⟩ = some (.int .i64 0) := (blk_cell BK476.out 1).trans rfl; have hfz123_0 := blk_frozen BK476.out 0; have hfz123_1 := blk_frozen BK476.out 1; obtain ⟨Ao124, co124, eo124⟩ := R_slice HO_9.out; subst eo124))
         (try simp only [Act.put, sA, sZ, sS])
         go_loopg [97] k2 (fun kq v97 w' => ∃ (x97_3 : Int), v97 = .int .i64 x97_3 ∧ Aside0 (sBB.l1 kq t443 x10_2 x9_2 (x9_2.length : Int) x97_3 x454000_2 x454001_2 t471 t474 = some r) ∧ Aside0 (kq ≤ k2) ∧ Aside0 (Kd.R (Kd.int .i64) 3 w' w.heap.size (fun k_ => (w.heap.size ≤ k_)) u10 x10_2) ∧ Aside0 (Kd.R k52 52 w' w.heap.size (fun k_ => (w.heap.size ≤ k_)) (.slice Ao124 x9_2.length co124) x9_2) ∧ Aside0 (Kd.V (Kd.int .u8) 5 w' w.heap.size (fun k_ => ((P0_0_ k_ ∨ P2_0_ k_) ∨ w.heap.size ≤ k_) ∧ some k_ ≠ (u10 : Value).ownBlock ∧ some k_ ≠ ((.slice Ao124 x9_2.length co124) : Value).ownBlock ∧ some k_ ≠ ((.slice Ao119 t471.length co119) : Value).ownBlock ∧ k_ ≠ gb441 ∧ k_ ≠ gb442 ∧ k_ ≠ gb453 ∧ k_ ≠ gb476) (.slice A0_0 l0_0.length c0_0) l0_0) ∧ Aside0 (Kd.V (Kd.int .u8) 5 w' w.heap.size (fun k_ => ((P0_0_ k_ ∨ P2_0_ k_) ∨ w.heap.size ≤ k_) ∧ some k_ ≠ (u10 : Value).ownBlock ∧ some k_ ≠ ((.slice Ao124 x9_2.length co124) : Value).ownBlock ∧ some k_ ≠ ((.slice Ao119 t471.length co119) : Value).ownBlock ∧ k_ ≠ gb441 ∧ k_ ≠ gb442 ∧ k_ ≠ gb453 ∧ k_ ≠ gb476) (.slice A2_0 l2_0.length c2_0) l2_0) ∧ Aside0 (Kd.R (Kd.int .u8) 5 w' w.heap.size (fun k_ => (w.heap.size ≤ k_)) (.slice Ao119 t471.length co119) t471) ∧ Aside0 (w'.heap[gb441]? = some (.cells #[(.slice A0_0 l0_0.length c0_0), .int .i64 a0_1] 24 (0, 0))) ∧ Aside0 (w'.heap[gb442]? = some (.cells #[(.slice A2_0 l2_0.length c2_0), .int .i64 a2_1] 24 (0, 0))) ∧ Aside0 (w'.heap[gb453]? = some (.cells #[(.slice Ao113 x454000_2.length co113), .int .i64 x454001_2] 24 (0, 0))) ∧ Aside0 (w'.heap[gb476]? = some (.cells #[(.slice Ao119 t471.length co119), .int .i64 t474] 24 (0, 0))) ∧ Aside0 (Below w.heap.size w w'))
         case atStart => exact ⟨(0), (by first | rfl | (simp; done) | (simp [*]; done)), H', ⟨Nat.le_refl _⟩, ⟨by (with_reducible repeat (first | apply rA | apply rN | apply rD)); exact R_mono (R_far (p := ⟨gb476, 1, none⟩) (R_far (p := ⟨gb476, 0, none⟩) (R_types HO_10.out BK476.out (by decide)) (fun _ hk => hk.2) (.slice Ao119 t471.length co119)) (fun _ hk => hk.2) (.int .i64 t474)) (fun _ hk => hk.1)⟩, ⟨by (with_reducible repeat (first | apply rA | apply rN | apply rD)); exact R_mono (R_far (p := ⟨gb476, 1, none⟩) (R_far (p := ⟨gb476, 0, none⟩) (R_types HO_9.out BK476.out (by decide)) (fun _ hk => hk.2) (.slice Ao119 t471.length co119)) (fun _ hk => hk.2) (.int .i64 t474)) (fun _ hk => hk.1)⟩, ⟨by (with_reducible repeat (first | apply vA | apply vN | apply vD)); exact V_mono (V_far (p := ⟨gb476, 1, none⟩) (V_far (p := ⟨gb476, 0, none⟩) (V_mono HO_442000.out (fun k_ hk => (⟨hk, hk.2⟩ : _ ∧ k_ ≠ gb476))) (fun _ hk => hk.2) (.slice Ao119 t471.length co119)) (fun _ hk => hk.2) (.int .i64 t474)) (fun _ hk => ⟨hk.1.1.1.1.1, ⟨hk.1.1.1.1.2.2.1, ⟨hk.1.1.1.1.2.1, ⟨hk.1.1.2, ⟨hk.1.1.1.1.2.2.2.2.1, ⟨hk.1.1.1.1.2.2.2.2.2.1, ⟨hk.1.1.1.1.2.2.2.2.2.2, hk.1.2⟩⟩⟩⟩⟩⟩⟩)⟩, ⟨by (with_reducible repeat (first | apply vA | apply vN | apply vD)); exact V_mono (V_far (p := ⟨gb476, 1, none⟩) (V_far (p := ⟨gb476, 0, none⟩) (V_mono HO_443000.out (fun k_ hk => (⟨hk, hk.2⟩ : _ ∧ k_ ≠ gb476))) (fun _ hk => hk.2) (.slice Ao119 t471.length co119)) (fun _ hk => hk.2) (.int .i64 t474)) (fun _ hk => ⟨hk.1.1.1.1.1, ⟨hk.1.1.1.1.2.2.1, ⟨hk.1.1.1.1.2.1, ⟨hk.1.1.2, ⟨hk.1.1.1.1.2.2.2.2.1, ⟨hk.1.1.1.1.2.2.2.2.2.1, ⟨hk.1.1.1.1.2.2.2.2.2.2, hk.1.2⟩⟩⟩⟩⟩⟩⟩)⟩, ⟨by (with_reducible repeat (first | apply rA | apply rN | apply rD)); exact R_mono (R_far (p := ⟨gb476, 1, none⟩) (R_far (p := ⟨gb476, 0, none⟩) (R_types HO473.out BK476.out (by decide)) (fun _ hk => hk.2) (.slice Ao119 t471.length co119)) (fun _ hk => hk.2) (.int .i64 t474)) (fun _ hk => hk.1.1)⟩, ⟨by (with_reducible repeat (first | refine kN ?_ _ | refine kD ?_ | refine kA ?_ _)); refine blk_far ?_ NB441_476.out _; (with_reducible repeat (first | refine kN ?_ _ | refine kD ?_ | refine kA ?_ _)); refine blk_far ?_ NB441_476.out _; (with_reducible repeat (first | refine kN ?_ _ | refine kD ?_ | refine kA ?_ _)); exact BK441.out⟩, ⟨by (with_reducible repeat (first | refine kN ?_ _ | refine kD ?_ | refine kA ?_ _)); refine blk_far ?_ NB442_476.out _; (with_reducible repeat (first | refine kN ?_ _ | refine kD ?_ | refine kA ?_ _)); refine blk_far ?_ NB442_476.out _; (with_reducible repeat (first | refine kN ?_ _ | refine kD ?_ | refine kA ?_ _)); exact BK442.out⟩, ⟨by (with_reducible repeat (first | refine kN ?_ _ | refine kD ?_ | refine kA ?_ _)); refine blk_far ?_ NB453_476.out _; (with_reducible repeat (first | refine kN ?_ _ | refine kD ?_ | refine kA ?_ _)); refine blk_far ?_ NB453_476.out _; (with_reducible repeat (first | refine kN ?_ _ | refine kD ?_ | refine kA ?_ _)); exact BK453.out⟩, ⟨by (with_reducible repeat (first | refine kN ?_ _ | refine kD ?_ | refine kA ?_ _)); refine blk_put (cs := #[.slice Ao119 t471.length co119, .int .i64 0]) ?_ 1 _ rfl; (with_reducible repeat (first | refine kN ?_ _ | refine kD ?_ | refine kA ?_ _)); refine blk_put (cs := #[.slice none 0 0, .int .i64 0]) ?_ 0 _ rfl; (with_reducible repeat (first | refine kN ?_ _ | refine kD ?_ | refine kA ?_ _)); exact BK476.out⟩, ⟨by repeat (first | (with_reducible first | exact HB.out | apply bA | apply bN | apply bD | refine bS ?_ GE441.out | refine bS ?_ GE442.out | refine bS ?_ GE453.out | refine bS ?_ GE476.out) | exact HB.out)⟩⟩
         case round =>
          clear H'
          try clear c1; try clear c2; try clear p2; try clear c3; try clear c4; try clear p4; try clear q4; try clear hx4; try clear c5; try clear c6; try clear p6; try clear c7; try clear c8; try clear c9; try clear c10; try clear c11; try clear c11b0; try clear c11b1; try clear c12; try clear c20; try clear c20b0; try clear c20b1; try clear c22; try clear c23; try clear c26; try clear c33; try clear c42; try clear p45; try clear q45; try clear hx45; try clear c49; try clear c50; try clear c59; try clear c59b0; try clear c60; try clear c60b0; try clear c61; try clear c61b0; try clear c63; try clear c63b0; try clear c63b1; try clear c64; try clear p64; try clear c65; try clear c67; try clear c68; try clear c69; try clear c71; try clear c72; try clear c78; try clear c79; try clear c80; try clear c81; try clear c90; try clear c91; try clear c92; try clear c94; try clear c95; try clear c101; try clear c102; try clear c103; try clear c104; try clear c107; try clear c107b0; try clear c107b1; try clear c108; try clear c109; try clear c111; try clear c120; try clear c121; try clear c122; try clear hcz105_0; try clear hcz105_1; try clear hcz110_0; try clear hcz110_1; try clear hcz112_0; try clear hcz112_1; try clear hcz123_0; try clear hcz123_1; try clear hcz13_0; try clear hcz13_1; try clear hcz14_0; try clear hcz14_1; try clear hcz23_0; try clear hcz23_1; try clear hcz24_0; try clear hcz24_1; try clear hcz29_0; try clear hcz29_1; try clear hcz31_0; try clear hcz31_1; try clear hcz34_0; try clear hcz34_1; try clear hcz35_0; try clear hcz35_1; try clear hcz40_0; try clear hcz40_1; try clear hcz43_0; try clear hcz43_1; try clear hcz44_0; try clear hcz44_1; try clear hcz70_0; try clear hcz70_1; try clear hcz73_0; try clear hcz73_1; try clear hcz82_0; try clear hcz82_1; try clear hcz83_0; try clear hcz83_1; try clear hcz85_0; try clear hcz85_1; try clear hcz87_0; try clear hcz87_1; try clear hcz88_0; try clear hcz88_1; try clear hcz93_0; try clear hcz93_1; try clear hcz96_0; try clear hcz96_1; try clear hfz105_0; try clear hfz105_1; try clear hfz110_0; try clear hfz110_1; try clear hfz112_0; try clear hfz112_1; try clear hfz123_0; try clear hfz123_1; try clear hfz13_0; try clear hfz13_1; try clear hfz14_0; try clear hfz14_1; try clear hfz23_0; try clear hfz23_1; try clear hfz24_0; try clear hfz24_1; try clear hfz29_0; try clear hfz29_1; try clear hfz31_0; try clear hfz31_1; try clear hfz34_0; try clear hfz34_1; try clear hfz35_0; try clear hfz35_1; try clear hfz40_0; try clear hfz40_1; try clear hfz43_0; try clear hfz43_1; try clear hfz44_0; try clear hfz44_1; try clear hfz70_0; try clear hfz70_1; try clear hfz73_0; try clear hfz73_1; try clear hfz82_0; try clear hfz82_1; try clear hfz83_0; try clear hfz83_1; try clear hfz85_0; try clear hfz85_1; try clear hfz87_0; try clear hfz87_1; try clear hfz88_0; try clear hfz88_1; try clear hfz93_0; try clear hfz93_1; try clear hfz96_0; try clear hfz96_1; try clear hx454_0; try clear hx454_1; try clear p2; try clear p454; try clear q454
          obtain ⟨x97_3, rfl, HA, HK3, HO_10, HO_95, HO_442000, HO_443000, HO_477000, BK441, BK442, BK453, BK476, HB⟩ := hrel
          cases gk with
          | zero => exact absurd HA.out (by simp [sBB.l1])
          | succ k3 =>
           have H := HA.out
           clear HA
           simp only [sBB.l1] at H
           by_cases c125 : x97_3 < (x9_2.length : Int)
           ·rw [if_pos c125] at H
            have c125b0 : decide (x97_3 < (x9_2.length : Int)) = true := decide_eq_true c125
            clear c125
            by_cases c126 : 0 ≤ x97_3
            ·rw [if_pos c126] at H
             have c126b0 : decide (0 ≤ x97_3) = true := decide_eq_true c126
             clear c126
             by_cases c127 : x97_3 < (x9_2.length : Int)
             ·rw [if_pos c127] at H
              have c127b0 : decide (x97_3 < (x9_2.length : Int)) = true := decide_eq_true c127
              clear c127
              have HC128 := aM H
              clear H
              have p477 : 0 ≤ (x97_3 : Int) := of_decide_eq_true (by first | (with_reducible assumption) | assumption)
              have q477 : x97_3 < (x9_2.length : Int) := of_decide_eq_true (by first | (with_reducible assumption) | assumption)
              obtain ⟨ad477, e477, hx477_0, hx477_1⟩ := at_T52 (R_reads' HO_95.out).2.2 x97_3 p477 q477
              cases e477
              replace p477 := eq_true p477
              replace q477 := eq_true q477
              go_upto_if 108 with (first | ((with_reducible refine gate_dst (N := 18) rfl ?_); (try (refine gate_guard (by rfl) ?_; dsimp only)); refine box_event ?hg (N := 18) ?hd (cs := #[.int .u64 0, .int .i64 0]) (t := 52) ?hr ?_; (case hd => rfl); (case hg => rfl); (case hr => first | (go_simp; done) | (go_simp; rfl)); intro gb478 hg w129 hbox hb; have n0_ := aM (R_below (by (with_reducible repeat (first | apply rA | apply rN | apply rD)); exact HO_10.out) hb); have n1_ := aM (R_below (R_elderB (by (with_reducible repeat (first | apply rA | apply rN | apply rD)); exact HO_95.out) gb478 (Nat.le_of_eq hg.symm)) hb); have n2_ := aM (V_below (V_elderB (by (with_reducible repeat (first | apply vA | apply vN | apply vD)); exact HO_442000.out) gb478 (Nat.le_of_eq hg.symm)) hb); have n3_ := aM (V_below (V_elderB (by (with_reducible repeat (first | apply vA | apply vN | apply vD)); exact HO_443000.out) gb478 (Nat.le_of_eq hg.symm)) hb); have n4_ := aM (R_below (by (with_reducible repeat (first | apply rA | apply rN | apply rD)); exact HO_477000.out) hb); have n5_ := aM (blk_below (g := gb441) (o := .cells #[.slice A0_0 l0_0.length c0_0, .int .i64 a0_1] 24 (0, 0)) (by (with_reducible repeat (first | refine kN ?_ _ | refine kD ?_ | refine kA ?_ _)); exact BK441.out) hb); have n6_ := aM (blk_below (g := gb442) (o := .cells #[.slice A2_0 l2_0.length c2_0, .int .i64 a2_1] 24 (0, 0)) (by (with_reducible repeat (first | refine kN ?_ _ | refine kD ?_ | refine kA ?_ _)); exact BK442.out) hb); have n7_ := aM (blk_below (g := gb453) (o := .cells #[.slice Ao113 x454000_2.length co113, .int .i64 x454001_2] 24 (0, 0)) (by (with_reducible repeat (first | refine kN ?_ _ | refine kD ?_ | refine kA ?_ _)); exact BK453.out) hb); have n8_ := aM (blk_below (g := gb476) (o := .cells #[.slice Ao119 t471.length co119, .int .i64 t474] 24 (0, 0)) (by (with_reducible repeat (first | refine kN ?_ _ | refine kD ?_ | refine kA ?_ _)); exact BK476.out) hb); have n9_ := aM (below_step (by repeat (first | (with_reducible first | exact HB.out | apply bA | apply bN | apply bD | refine bS ?_ GE441.out | refine bS ?_ GE442.out | refine bS ?_ GE453.out | refine bS ?_ GE476.out) | exact HB.out)) hb); have n10_ := aM (hbox); have n11_ := aM ((by rw [hg]; exact (below_size (by repeat (first | (with_reducible first | exact HB.out | apply bA | apply bN | apply bD | refine bS ?_ GE441.out | refine bS ?_ GE442.out | refine bS ?_ GE453.out | refine bS ?_ GE476.out) | exact HB.out))) : w.heap.size ≤ gb478)); have n12_ := aM ((by rw [hg]; exact (below_size (by repeat (first | (with_reducible first | exact HB.out | apply bA | apply bN | apply bD | refine bS ?_ GE441.out | refine bS ?_ GE442.out | refine bS ?_ GE453.out | refine bS ?_ GE476.out) | exact HB.out))) : w.heap.size ≤ gb478)); have n13_ := aM ((by rw [hg]; exact Nat.ne_of_lt (blk_lt (g := gb441) (o := .cells #[.slice A0_0 l0_0.length c0_0, .int .i64 a0_1] 24 (0, 0)) (by (with_reducible repeat (first | refine kN ?_ _ | refine kD ?_ | refine kA ?_ _)); exact BK441.out)) : gb441 ≠ gb478)); have n14_ := aM ((by rw [hg]; exact Nat.ne_of_gt (blk_lt (g := gb441) (o := .cells #[.slice A0_0 l0_0.length c0_0, .int .i64 a0_1] 24 (0, 0)) (by (with_reducible repeat (first | refine kN ?_ _ | refine kD ?_ | refine kA ?_ _)); exact BK441.out)) : gb478 ≠ gb441)); have n15_ := aM ((by rw [hg]; exact Nat.ne_of_lt (blk_lt (g := gb442) (o := .cells #[.slice A2_0 l2_0.length c2_0, .int .i64 a2_1] 24 (0, 0)) (by (with_reducible repeat (first | refine kN ?_ _ | refine kD ?_ | refine kA ?_ _)); exact BK442.out)) : gb442 ≠ gb478)); have n16_ := aM ((by rw [hg]; exact Nat.ne_of_gt (blk_lt (g := gb442) (o := .cells #[.slice A2_0 l2_0.length c2_0, .int .i64 a2_1] 24 (0, 0)) (by (with_reducible repeat (first | refine kN ?_ _ | refine kD ?_ | refine kA ?_ _)); exact BK442.out)) : gb478 ≠ gb442)); have n17_ := aM ((by rw [hg]; exact Nat.ne_of_lt (blk_lt (g := gb453) (o := .cells #[.slice Ao113 x454000_2.length co113, .int .i64 x454001_2] 24 (0, 0)) (by (with_reducible repeat (first | refine kN ?_ _ | refine kD ?_ | refine kA ?_ _)); exact BK453.out)) : gb453 ≠ gb478)); have n18_ := aM ((by rw [hg]; exact Nat.ne_of_gt (blk_lt (g := gb453) (o := .cells #[.slice Ao113 x454000_2.length co113, .int .i64 x454001_2] 24 (0, 0)) (by (with_reducible repeat (first | refine kN ?_ _ | refine kD ?_ | refine kA ?_ _)); exact BK453.out)) : gb478 ≠ gb453)); have n19_ := aM ((by rw [hg]; exact Nat.ne_of_lt (blk_lt (g := gb476) (o := .cells #[.slice Ao119 t471.length co119, .int .i64 t474] 24 (0, 0)) (by (with_reducible repeat (first | refine kN ?_ _ | refine kD ?_ | refine kA ?_ _)); exact BK476.out)) : gb476 ≠ gb478)); have n20_ := aM ((by rw [hg]; exact Nat.ne_of_gt (blk_lt (g := gb476) (o := .cells #[.slice Ao119 t471.length co119, .int .i64 t474] 24 (0, 0)) (by (with_reducible repeat (first | refine kN ?_ _ | refine kD ?_ | refine kA ?_ _)); exact BK476.out)) : gb478 ≠ gb476)); clear HO_10; clear HO_95; clear HO_442000; clear HO_443000; clear HO_477000; clear BK441; clear BK442; clear BK453; clear BK476; clear HB; have HO_10 := n0_; have HO_95 := n1_; have HO_442000 := n2_; have HO_443000 := n3_; have HO_477000 := n4_; have BK441 := n5_; have BK442 := n6_; have BK453 := n7_; have BK476 := n8_; have HB := n9_; have BK478 := n10_; have GW478 := n11_; have GE478 := n12_; have NB441_478 := n13_; have NB478_441 := n14_; have NB442_478 := n15_; have NB478_442 := n16_; have NB453_478 := n17_; have NB478_453 := n18_; have NB476_478 := n19_; have NB478_476 := n20_; clear n0_ n1_ n2_ n3_ n4_ n5_ n6_ n7_ n8_ n9_ n10_ n11_ n12_ n13_ n14_ n15_ n16_ n17_ n18_ n19_ n20_; clear hb hbox hg; have hnb130 := NB478_441.out; have hnc130 := NB441_478.out; have hnb131 := NB478_442.out; have hnc131 := NB442_478.out; have hnb132 := NB478_453.out; have hnc132 := NB453_478.out; have hnb133 := NB478_476.out; have hnc133 := NB476_478.out; have hcz134_0 : w129.cell? ⟨gb478, 0, none⟩ = some (.int .u64 0) := (blk_cell BK478.out 0).trans rfl; have hcz134_1 : w129.cell? ⟨gb478, 1, none⟩ = some (.int .i64 0) := (blk_cell BK478.out 1).trans rfl; have hfz134_0 := blk_frozen BK478.out 0; have hfz134_1 := blk_frozen BK478.out 1; have hnb135 := NB453_441.out; have hnc135 := NB441_453.out; have hnb136 := NB453_442.out; have hnc136 := NB442_453.out; have hnb137 := NB453_476.out; have hnc137 := NB476_453.out; have hcz138_0 : w129.cell? ⟨gb453, 0, none⟩ = some (.slice Ao113 x454000_2.length co113) := (blk_cell BK453.out 0).trans rfl; have hcz138_1 : w129.cell? ⟨gb453, 1, none⟩ = some (.int .i64 x454001_2) := (blk_cell BK453.out 1).trans rfl; have hfz138_0 := blk_frozen BK453.out 0; have hfz138_1 := blk_frozen BK453.out 1; obtain ⟨Ao139, co139, eo139⟩ := R_slice HO_10.out; subst eo139))
              (try simp only [Act.put, sA, sZ, sS])
              go_cut [19] (fun v19 wc => ∃ (kq : Nat) (x19_127 : Int), v19 = .int .i64 x19_127 ∧ Aside0 (sBB.j3 kq t443 x10_2 x97_3 x19_127 x9_2 (x9_2.length : Int) x97_3 x454000_2 x454001_2 t471 t474 ((rd_T52 x9_2 x97_3).f0) ((rd_T52 x9_2 x97_3).f1) = some r) ∧ Aside0 (kq ≤ k3) ∧ Aside0 (Kd.R (Kd.int .i64) 3 wc w.heap.size (fun k_ => (w.heap.size ≤ k_)) (.slice Ao139 x10_2.length co139) x10_2) ∧ Aside0 (Kd.R k52 52 wc w.heap.size (fun k_ => (w.heap.size ≤ k_) ∧ k_ ≠ gb478) (.slice (some ad477) x9_2.length co124) x9_2) ∧ Aside0 (Kd.V (Kd.int .u8) 5 wc w.heap.size (fun k_ => ((P0_0_ k_ ∨ P2_0_ k_) ∨ w.heap.size ≤ k_) ∧ some k_ ≠ ((.slice Ao139 x10_2.length co139) : Value).ownBlock ∧ some k_ ≠ ((.slice (some ad477) x9_2.length co124) : Value).ownBlock ∧ some k_ ≠ ((.slice Ao119 t471.length co119) : Value).ownBlock ∧ k_ ≠ gb441 ∧ k_ ≠ gb442 ∧ k_ ≠ gb453 ∧ k_ ≠ gb476 ∧ k_ ≠ gb478) (.slice A0_0 l0_0.length c0_0) l0_0) ∧ Aside0 (Kd.V (Kd.int .u8) 5 wc w.heap.size (fun k_ => ((P0_0_ k_ ∨ P2_0_ k_) ∨ w.heap.size ≤ k_) ∧ some k_ ≠ ((.slice Ao139 x10_2.length co139) : Value).ownBlock ∧ some k_ ≠ ((.slice (some ad477) x9_2.length co124) : Value).ownBlock ∧ some k_ ≠ ((.slice Ao119 t471.length co119) : Value).ownBlock ∧ k_ ≠ gb441 ∧ k_ ≠ gb442 ∧ k_ ≠ gb453 ∧ k_ ≠ gb476 ∧ k_ ≠ gb478) (.slice A2_0 l2_0.length c2_0) l2_0) ∧ Aside0 (Kd.R (Kd.int .u8) 5 wc w.heap.size (fun k_ => (w.heap.size ≤ k_)) (.slice Ao119 t471.length co119) t471) ∧ Aside0 (wc.heap[gb441]? = some (.cells #[(.slice A0_0 l0_0.length c0_0), .int .i64 a0_1] 24 (0, 0))) ∧ Aside0 (wc.heap[gb442]? = some (.cells #[(.slice A2_0 l2_0.length c2_0), .int .i64 a2_1] 24 (0, 0))) ∧ Aside0 (wc.heap[gb453]? = some (.cells #[(.slice Ao113 x454000_2.length co113), .int .i64 x454001_2] 24 (0, 0))) ∧ Aside0 (wc.heap[gb476]? = some (.cells #[(.slice Ao119 t471.length co119), .int .i64 t474] 24 (0, 0))) ∧ Aside0 (wc.heap[gb478]? = some (.cells #[.int .u64 ((rd_T52 x9_2 x97_3).f0), .int .i64 ((rd_T52 x9_2 x97_3).f1)] 52 (0, 0))) ∧ Aside0 (Below w.heap.size w wc))
              case first =>
               have H := HC128.out
               clear HC128
               by_cases c140 : (wrap64 (x97_3 + 1)) < (x10_2.length : Int)
               ·rw [if_pos c140] at H
                have c140b0 : decide ((wrap64 (x97_3 + 1)) < (x10_2.length : Int)) = true := decide_eq_true c140
                clear c140
                (first | rw [c140b0] | (simp only [i64_w, i32_w]; rw [c140b0]) | skip)
                obtain ⟨ji141, hji141⟩ : ∃ j_ : Int, (wrap64 (x97_3 + 1)) = j_ := ⟨_, rfl⟩
                replace H : (if 0 ≤ (ji141) then (sBB.j3 k3 t443 x10_2 x97_3 (rd x10_2 (ji141)) x9_2 (x9_2.length : Int) x97_3 x454000_2 x454001_2 t471 t474 ((rd_T52 x9_2 x97_3).f0) ((rd_T52 x9_2 x97_3).f1)) else (none)) = some r := by first | (rw [hji141] at H; exact H) | (simp only [hji141] at H ⊢; exact H)
                (try rw [hji141] at c140b0)
                have hji141w : (IntKind.i64.wrap (x97_3 + 1)) = ji141 := (i64_w _).trans hji141
                by_cases c142 : 0 ≤ (ji141)
                ·rw [if_pos c142] at H
                 have c142b0 : decide (0 ≤ (ji141)) = true := decide_eq_true c142
                 clear c142
                 have H' := aM H
                 clear H
                 have p479 : 0 ≤ ((ji141) : Int) := of_decide_eq_true (by first | (with_reducible assumption) | assumption)
                 have q479 : (ji141) < (x10_2.length : Int) := of_decide_eq_true (by first | (with_reducible assumption) | assumption)
                 obtain ⟨ad479, e479, hx479_0⟩ := Kd.at_int (R_reads' HO_10.out).2.2 (ji141) p479 q479
                 cases e479
                 have hn479_0 : ad479.block ≠ gb478 := Kd.own_blk (R_ne HO_10.out BK478.out (by decide))
                 have hn479_1 : ad479.block ≠ gb478 := Kd.own_blk (R_ne HO_10.out BK478.out (by decide))
                 replace hx479_0 := (cell_far (p := ⟨gb478, 0, none⟩) (by first | (rw [add_block]; exact hn479_0) | (show (Addr.add _ _).block ≠ _; rw [add_block]; exact hn479_0) | exact hn479_0) (.int .u64 ((rd_T52 x9_2 x97_3).f0))).trans hx479_0
                 replace hx479_0 := (cell_far (p := ⟨gb478, 1, none⟩) (by first | (rw [add_block]; exact hn479_1) | (show (Addr.add _ _).block ≠ _; rw [add_block]; exact hn479_1) | exact hn479_1) (.int .i64 ((rd_T52 x9_2 x97_3).f1))).trans hx479_0
                 clear hn479_0
                 clear hn479_1
                 replace p479 := eq_true p479
                 replace q479 := eq_true q479
                 go_wp2
                 go_meet
                 case rel => exact ⟨_, (rd x10_2 (ji141)), (by first | rfl | (simp; done) | (simp only [← hji141] <;> (first | rfl | simp)) | (simp [*]; done)), H', ⟨by have := HJ4.out; have := HK2.out; have := HK3.out; first | omega | exact Nat.le_refl _⟩, ⟨by (with_reducible repeat (first | apply rA | apply rN | apply rD)); exact R_mono (R_far (p := ⟨gb478, 1, none⟩) (R_far (p := ⟨gb478, 0, none⟩) (R_types HO_10.out BK478.out (by decide)) (fun _ hk => hk.2) (.int .u64 ((rd_T52 x9_2 x97_3).f0))) (fun _ hk => hk.2) (.int .i64 ((rd_T52 x9_2 x97_3).f1))) (fun _ hk => hk.1)⟩, ⟨by (with_reducible repeat (first | apply rA | apply rN | apply rD)); exact R_mono (R_far (p := ⟨gb478, 1, none⟩) (R_far (p := ⟨gb478, 0, none⟩) (R_mono HO_95.out (fun k_ hk => (⟨hk, hk.2⟩ : _ ∧ k_ ≠ gb478))) (fun _ hk => hk.2) (.int .u64 ((rd_T52 x9_2 x97_3).f0))) (fun _ hk => hk.2) (.int .i64 ((rd_T52 x9_2 x97_3).f1))) (fun _ hk => ⟨hk.1.1, hk.1.2⟩)⟩, ⟨by (with_reducible repeat (first | apply vA | apply vN | apply vD)); exact V_mono (V_far (p := ⟨gb478, 1, none⟩) (V_far (p := ⟨gb478, 0, none⟩) (V_mono HO_442000.out (fun k_ hk => (⟨hk, hk.2⟩ : _ ∧ k_ ≠ gb478))) (fun _ hk => hk.2) (.int .u64 ((rd_T52 x9_2 x97_3).f0))) (fun _ hk => hk.2) (.int .i64 ((rd_T52 x9_2 x97_3).f1))) (fun _ hk => ⟨hk.1.1.1, ⟨hk.1.1.2.1, ⟨hk.1.1.2.2.1, ⟨hk.1.1.2.2.2.1, ⟨hk.1.1.2.2.2.2.1, ⟨hk.1.1.2.2.2.2.2.1, ⟨hk.1.1.2.2.2.2.2.2.1, ⟨hk.1.1.2.2.2.2.2.2.2, hk.1.2⟩⟩⟩⟩⟩⟩⟩⟩)⟩, ⟨by (with_reducible repeat (first | apply vA | apply vN | apply vD)); exact V_mono (V_far (p := ⟨gb478, 1, none⟩) (V_far (p := ⟨gb478, 0, none⟩) (V_mono HO_443000.out (fun k_ hk => (⟨hk, hk.2⟩ : _ ∧ k_ ≠ gb478))) (fun _ hk => hk.2) (.int .u64 ((rd_T52 x9_2 x97_3).f0))) (fun _ hk => hk.2) (.int .i64 ((rd_T52 x9_2 x97_3).f1))) (fun _ hk => ⟨hk.1.1.1, ⟨hk.1.1.2.1, ⟨hk.1.1.2.2.1, ⟨hk.1.1.2.2.2.1, ⟨hk.1.1.2.2.2.2.1, ⟨hk.1.1.2.2.2.2.2.1, ⟨hk.1.1.2.2.2.2.2.2.1, ⟨hk.1.1.2.2.2.2.2.2.2, hk.1.2⟩⟩⟩⟩⟩⟩⟩⟩)⟩, ⟨by (with_reducible repeat (first | apply rA | apply rN | apply rD)); exact R_mono (R_far (p := ⟨gb478, 1, none⟩) (R_far (p := ⟨gb478, 0, none⟩) (R_types HO_477000.out BK478.out (by decide)) (fun _ hk => hk.2) (.int .u64 ((rd_T52 x9_2 x97_3).f0))) (fun _ hk => hk.2) (.int .i64 ((rd_T52 x9_2 x97_3).f1))) (fun _ hk => hk.1)⟩, ⟨by (with_reducible repeat (first | refine kN ?_ _ | refine kD ?_ | refine kA ?_ _)); refine blk_far ?_ NB441_478.out _; (with_reducible repeat (first | refine kN ?_ _ | refine kD ?_ | refine kA ?_ _)); refine blk_far ?_ NB441_478.out _; (with_reducible repeat (first | refine kN ?_ _ | refine kD ?_ | refine kA ?_ _)); exact BK441.out⟩, ⟨by (with_reducible repeat (first | refine kN ?_ _ | refine kD ?_ | refine kA ?_ _)); refine blk_far ?_ NB442_478.out _; (with_reducible repeat (first | refine kN ?_ _ | refine kD ?_ | refine kA ?_ _)); refine blk_far ?_ NB442_478.out _; (with_reducible repeat (first | refine kN ?_ _ | refine kD ?_ | refine kA ?_ _)); exact BK442.out⟩, ⟨by (with_reducible repeat (first | refine kN ?_ _ | refine kD ?_ | refine kA ?_ _)); refine blk_far ?_ NB453_478.out _; (with_reducible repeat (first | refine kN ?_ _ | refine kD ?_ | refine kA ?_ _)); refine blk_far ?_ NB453_478.out _; (with_reducible repeat (first | refine kN ?_ _ | refine kD ?_ | refine kA ?_ _)); exact BK453.out⟩, ⟨by (with_reducible repeat (first | refine kN ?_ _ | refine kD ?_ | refine kA ?_ _)); refine blk_far ?_ NB476_478.out _; (with_reducible repeat (first | refine kN ?_ _ | refine kD ?_ | refine kA ?_ _)); refine blk_far ?_ NB476_478.out _; (with_reducible repeat (first | refine kN ?_ _ | refine kD ?_ | refine kA ?_ _)); exact BK476.out⟩, ⟨by (with_reducible repeat (first | refine kN ?_ _ | refine kD ?_ | refine kA ?_ _)); refine blk_put (cs := #[.int .u64 ((rd_T52 x9_2 x97_3).f0), .int .i64 0]) ?_ 1 _ rfl; (with_reducible repeat (first | refine kN ?_ _ | refine kD ?_ | refine kA ?_ _)); refine blk_put (cs := #[.int .u64 0, .int .i64 0]) ?_ 0 _ rfl; (with_reducible repeat (first | refine kN ?_ _ | refine kD ?_ | refine kA ?_ _)); exact BK478.out⟩, ⟨by repeat (first | (with_reducible first | exact HB.out | apply bA | apply bN | apply bD | refine bS ?_ GE441.out | refine bS ?_ GE442.out | refine bS ?_ GE453.out | refine bS ?_ GE476.out | refine bS ?_ GE478.out) | exact HB.out)⟩⟩
                ·rw [if_neg c142] at H
                 exact absurd H (by simp)
               ·rw [if_neg c140] at H
                have c140b0 : decide ((wrap64 (x97_3 + 1)) < (x10_2.length : Int)) = false := decide_eq_false c140
                clear c140
                (first | rw [c140b0] | (simp only [i64_w, i32_w]; rw [c140b0]) | skip)
                have H' := aM H
                clear H
                go_wp2
                go_meet
                case rel => exact ⟨_, (x454001_2), (by first | rfl | (simp; done) | (simp [*]; done)), H', ⟨by have := HJ4.out; have := HK2.out; have := HK3.out; first | omega | exact Nat.le_refl _⟩, ⟨by (with_reducible repeat (first | apply rA | apply rN | apply rD)); exact R_mono (R_far (p := ⟨gb478, 1, none⟩) (R_far (p := ⟨gb478, 0, none⟩) (R_types HO_10.out BK478.out (by decide)) (fun _ hk => hk.2) (.int .u64 ((rd_T52 x9_2 x97_3).f0))) (fun _ hk => hk.2) (.int .i64 ((rd_T52 x9_2 x97_3).f1))) (fun _ hk => hk.1)⟩, ⟨by (with_reducible repeat (first | apply rA | apply rN | apply rD)); exact R_mono (R_far (p := ⟨gb478, 1, none⟩) (R_far (p := ⟨gb478, 0, none⟩) (R_mono HO_95.out (fun k_ hk => (⟨hk, hk.2⟩ : _ ∧ k_ ≠ gb478))) (fun _ hk => hk.2) (.int .u64 ((rd_T52 x9_2 x97_3).f0))) (fun _ hk => hk.2) (.int .i64 ((rd_T52 x9_2 x97_3).f1))) (fun _ hk => ⟨hk.1.1, hk.1.2⟩)⟩, ⟨by (with_reducible repeat (first | apply vA | apply vN | apply vD)); exact V_mono (V_far (p := ⟨gb478, 1, none⟩) (V_far (p := ⟨gb478, 0, none⟩) (V_mono HO_442000.out (fun k_ hk => (⟨hk, hk.2⟩ : _ ∧ k_ ≠ gb478))) (fun _ hk => hk.2) (.int .u64 ((rd_T52 x9_2 x97_3).f0))) (fun _ hk => hk.2) (.int .i64 ((rd_T52 x9_2 x97_3).f1))) (fun _ hk => ⟨hk.1.1.1, ⟨hk.1.1.2.1, ⟨hk.1.1.2.2.1, ⟨hk.1.1.2.2.2.1, ⟨hk.1.1.2.2.2.2.1, ⟨hk.1.1.2.2.2.2.2.1, ⟨hk.1.1.2.2.2.2.2.2.1, ⟨hk.1.1.2.2.2.2.2.2.2, hk.1.2⟩⟩⟩⟩⟩⟩⟩⟩)⟩, ⟨by (with_reducible repeat (first | apply vA | apply vN | apply vD)); exact V_mono (V_far (p := ⟨gb478, 1, none⟩) (V_far (p := ⟨gb478, 0, none⟩) (V_mono HO_443000.out (fun k_ hk => (⟨hk, hk.2⟩ : _ ∧ k_ ≠ gb478))) (fun _ hk => hk.2) (.int .u64 ((rd_T52 x9_2 x97_3).f0))) (fun _ hk => hk.2) (.int .i64 ((rd_T52 x9_2 x97_3).f1))) (fun _ hk => ⟨hk.1.1.1, ⟨hk.1.1.2.1, ⟨hk.1.1.2.2.1, ⟨hk.1.1.2.2.2.1, ⟨hk.1.1.2.2.2.2.1, ⟨hk.1.1.2.2.2.2.2.1, ⟨hk.1.1.2.2.2.2.2.2.1, ⟨hk.1.1.2.2.2.2.2.2.2, hk.1.2⟩⟩⟩⟩⟩⟩⟩⟩)⟩, ⟨by (with_reducible repeat (first | apply rA | apply rN | apply rD)); exact R_mono (R_far (p := ⟨gb478, 1, none⟩) (R_far (p := ⟨gb478, 0, none⟩) (R_types HO_477000.out BK478.out (by decide)) (fun _ hk => hk.2) (.int .u64 ((rd_T52 x9_2 x97_3).f0))) (fun _ hk => hk.2) (.int .i64 ((rd_T52 x9_2 x97_3).f1))) (fun _ hk => hk.1)⟩, ⟨by (with_reducible repeat (first | refine kN ?_ _ | refine kD ?_ | refine kA ?_ _)); refine blk_far ?_ NB441_478.out _; (with_reducible repeat (first | refine kN ?_ _ | refine kD ?_ | refine kA ?_ _)); refine blk_far ?_ NB441_478.out _; (with_reducible repeat (first | refine kN ?_ _ | refine kD ?_ | refine kA ?_ _)); exact BK441.out⟩, ⟨by (with_reducible repeat (first | refine kN ?_ _ | refine kD ?_ | refine kA ?_ _)); refine blk_far ?_ NB442_478.out _; (with_reducible repeat (first | refine kN ?_ _ | refine kD ?_ | refine kA ?_ _)); refine blk_far ?_ NB442_478.out _; (with_reducible repeat (first | refine kN ?_ _ | refine kD ?_ | refine kA ?_ _)); exact BK442.out⟩, ⟨by (with_reducible repeat (first | refine kN ?_ _ | refine kD ?_ | refine kA ?_ _)); refine blk_far ?_ NB453_478.out _; (with_reducible repeat (first | refine kN ?_ _ | refine kD ?_ | refine kA ?_ _)); refine blk_far ?_ NB453_478.out _; (with_reducible repeat (first | refine kN ?_ _ | refine kD ?_ | refine kA ?_ _)); exact BK453.out⟩, ⟨by (with_reducible repeat (first | refine kN ?_ _ | refine kD ?_ | refine kA ?_ _)); refine blk_far ?_ NB476_478.out _; (with_reducible repeat (first | refine kN ?_ _ | refine kD ?_ | refine kA ?_ _)); refine blk_far ?_ NB476_478.out _; (with_reducible repeat (first | refine kN ?_ _ | refine kD ?_ | refine kA ?_ _)); exact BK476.out⟩, ⟨by (with_reducible repeat (first | refine kN ?_ _ | refine kD ?_ | refine kA ?_ _)); refine blk_put (cs := #[.int .u64 ((rd_T52 x9_2 x97_3).f0), .int .i64 0]) ?_ 1 _ rfl; (with_reducible repeat (first | refine kN ?_ _ | refine kD ?_ | refine kA ?_ _)); refine blk_put (cs := #[.int .u64 0, .int .i64 0]) ?_ 0 _ rfl; (with_reducible repeat (first | refine kN ?_ _ | refine kD ?_ | refine kA ?_ _)); exact BK478.out⟩, ⟨by repeat (first | (with_reducible first | exact HB.out | apply bA | apply bN | apply bD | refine bS ?_ GE441.out | refine bS ?_ GE442.out | refine bS ?_ GE453.out | refine bS ?_ GE476.out | refine bS ?_ GE478.out) | exact HB.out)⟩⟩
              case rest =>
               clear HC128
               try clear c1; try clear c2; try clear p2; try clear c3; try clear c4; try clear p4; try clear q4; try clear hx4; try clear c5; try clear c6; try clear p6; try clear c7; try clear c8; try clear c9; try clear c10; try clear c11; try clear c11b0; try clear c11b1; try clear c12; try clear c13; try clear c14; try clear c20; try clear c20b0; try clear c20b1; try clear c22; try clear c23; try clear c26; try clear c33; try clear c42; try clear p45; try clear q45; try clear hx45; try clear p47; try clear q47; try clear hx47; try clear c49; try clear c50; try clear c59; try clear c59b0; try clear c60; try clear c60b0; try clear c61; try clear c61b0; try clear c63; try clear c63b0; try clear c63b1; try clear c64; try clear p64; try clear c65; try clear c67; try clear c68; try clear c69; try clear c71; try clear c72; try clear c78; try clear c79; try clear c80; try clear c81; try clear c90; try clear c91; try clear c92; try clear c94; try clear c95; try clear c101; try clear c102; try clear c103; try clear c104; try clear c107; try clear c107b0; try clear c107b1; try clear c108; try clear c109; try clear c111; try clear c120; try clear c121; try clear c122; try clear c125; try clear c125b0; try clear c126; try clear c126b0; try clear c127; try clear c127b0; try clear c130; try clear c131; try clear c132; try clear c133; try clear c135; try clear c136; try clear c137; try clear c140; try clear c140b0; try clear c142; try clear c142b0; try clear hcz105_0; try clear hcz105_1; try clear hcz110_0; try clear hcz110_1; try clear hcz112_0; try clear hcz112_1; try clear hcz123_0; try clear hcz123_1; try clear hcz134_0; try clear hcz134_1; try clear hcz138_0; try clear hcz138_1; try clear hcz13_0; try clear hcz13_1; try clear hcz14_0; try clear hcz14_1; try clear hcz23_0; try clear hcz23_1; try clear hcz24_0; try clear hcz24_1; try clear hcz29_0; try clear hcz29_1; try clear hcz31_0; try clear hcz31_1; try clear hcz34_0; try clear hcz34_1; try clear hcz35_0; try clear hcz35_1; try clear hcz40_0; try clear hcz40_1; try clear hcz43_0; try clear hcz43_1; try clear hcz44_0; try clear hcz44_1; try clear hcz70_0; try clear hcz70_1; try clear hcz73_0; try clear hcz73_1; try clear hcz82_0; try clear hcz82_1; try clear hcz83_0; try clear hcz83_1; try clear hcz85_0; try clear hcz85_1; try clear hcz87_0; try clear hcz87_1; try clear hcz88_0; try clear hcz88_1; try clear hcz93_0; try clear hcz93_1; try clear hcz96_0; try clear hcz96_1; try clear hfz105_0; try clear hfz105_1; try clear hfz110_0; try clear hfz110_1; try clear hfz112_0; try clear hfz112_1; try clear hfz123_0; try clear hfz123_1; try clear hfz134_0; try clear hfz134_1; try clear hfz138_0; try clear hfz138_1; try clear hfz13_0; try clear hfz13_1; try clear hfz14_0; try clear hfz14_1; try clear hfz23_0; try clear hfz23_1; try clear hfz24_0; try clear hfz24_1; try clear hfz29_0; try clear hfz29_1; try clear hfz31_0; try clear hfz31_1; try clear hfz34_0; try clear hfz34_1; try clear hfz35_0; try clear hfz35_1; try clear hfz40_0; try clear hfz40_1; try clear hfz43_0; try clear hfz43_1; try clear hfz44_0; try clear hfz44_1; try clear hfz70_0; try clear hfz70_1; try clear hfz73_0; try clear hfz73_1; try clear hfz82_0; try clear hfz82_1; try clear hfz83_0; try clear hfz83_1; try clear hfz85_0; try clear hfz85_1; try clear hfz87_0; try clear hfz87_1; try clear hfz88_0; try clear hfz88_1; try clear hfz93_0; try clear hfz93_1; try clear hfz96_0; try clear hfz96_1; try clear hx454_0; try clear hx454_1; try clear hx477_0; try clear hx477_1; try clear hx479_0; try clear p2; try clear p4; try clear p45; try clear p454; try clear p477; try clear p479; try clear p6; try clear p64; try clear q4; try clear q45; try clear q454; try clear q477; try clear q479
               obtain ⟨kq, x19_127, rfl, HA, HJ127, HO_10, HO_95, HO_442000, HO_443000, HO_477000, BK441, BK442, BK453, BK476, BK478, HB⟩ := hcut
               cases kq with
               | zero => exact absurd HA.out (by simp [sBB.j3])
               | succ kj127 =>
                have H := HA.out
                clear HA
                simp only [sBB.j3] at H
                by_cases c143 : ((rd_T52 x9_2 x97_3).f1) ≥ 0
                ·rw [if_pos c143] at H
                 have c143b0 : decide (0 ≤ ((rd_T52 x9_2 x97_3).f1)) = true := decide_eq_true c143
                 clear c143
                 by_cases c144 : 0 ≤ x97_3
                 ·rw [if_pos c144] at H
                  have c144b0 : decide (0 ≤ x97_3) = true := decide_eq_true c144
                  clear c144
                  by_cases c145 : x97_3 < (x10_2.length : Int)
                  ·rw [if_pos c145] at H
                   have c145b0 : decide (x97_3 < (x10_2.length : Int)) = true := decide_eq_true c145
                   clear c145
                   replace H := Option.bind_eq_some_iff.mp H
                   obtain ⟨⟨t481, t482⟩, A1460, H⟩ := H
                   replace H : (if t481 = ((rd_T52 x9_2 x97_3).f0) then (if t482 = 0 then (if x19_127 = (wrap64 ((rd x10_2 x97_3) + ((rd_T52 x9_2 x97_3).f1))) then (sBB.l1 kj127 t443 x10_2 x9_2 (x9_2.length : Int) (wrap64 (x97_3 + 1)) x454000_2 x454001_2 t471 t474) else (some false)) else (some false)) else (some false)) = some r := H
                   have A146 := aM A1460
                   clear A1460
                   by_cases c147 : t481 = ((rd_T52 x9_2 x97_3).f0)
                   ·rw [if_pos c147] at H
                    have c147b0 : (t481 == ((rd_T52 x9_2 x97_3).f0)) = true := beq_iff_eq.mpr c147
                    have c147b1 : (t481 != ((rd_T52 x9_2 x97_3).f0)) = false := bne_eq_false_iff_eq.mpr c147
                    clear c147
                    by_cases c148 : t482 = 0
                    ·rw [if_pos c148] at H
                     have c148b0 : (t482 == 0) = true := beq_iff_eq.mpr c148
                     have c148b1 : (t482 != 0) = false := bne_eq_false_iff_eq.mpr c148
                     clear c148
                     by_cases c149 : x19_127 = (wrap64 ((rd x10_2 x97_3) + ((rd_T52 x9_2 x97_3).f1)))
                     ·rw [if_pos c149] at H
                      have c149b0 : (x19_127 == (wrap64 ((rd x10_2 x97_3) + ((rd_T52 x9_2 x97_3).f1)))) = true := beq_iff_eq.mpr c149
                      have c149b1 : (x19_127 != (wrap64 ((rd x10_2 x97_3) + ((rd_T52 x9_2 x97_3).f1)))) = false := bne_eq_false_iff_eq.mpr c149
                      clear c149
                      have H' := aM H
                      clear H
                      have hnb150 := NB478_441.out
                      have hnc150 := NB441_478.out
                      have hnb151 := NB478_442.out
                      have hnc151 := NB442_478.out
                      have hnb152 := NB478_453.out
                      have hnc152 := NB453_478.out
                      have hnb153 := NB478_476.out
                      have hnc153 := NB476_478.out
                      have hcz154_0 : wc.cell? ⟨gb478, 0, none⟩ = some (.int .u64 ((rd_T52 x9_2 x97_3).f0)) := (blk_cell BK478.out 0).trans rfl
                      have hcz154_1 : wc.cell? ⟨gb478, 1, none⟩ = some (.int .i64 ((rd_T52 x9_2 x97_3).f1)) := (blk_cell BK478.out 1).trans rfl
                      have hfz154_0 := blk_frozen BK478.out 0
                      have hfz154_1 := blk_frozen BK478.out 1
                      try go_wp2
                      have n0_ := aM (R_drew HO_10.out)
                      have n1_ := aM (R_drew HO_95.out)
                      have n2_ := aM (V_drew HO_442000.out)
                      have n3_ := aM (V_drew HO_443000.out)
                      have n4_ := aM (R_drew HO_477000.out)
                      have n5_ := aM (kD BK441.out)
                      have n6_ := aM (kD BK442.out)
                      have n7_ := aM (kD BK453.out)
                      have n8_ := aM (kD BK476.out)
                      have n9_ := aM (kD BK478.out)
                      have n10_ := aM (bD HB.out)
                      clear HO_10
                      clear HO_95
                      clear HO_442000
                      clear HO_443000
                      clear HO_477000
                      clear BK441
                      clear BK442
                      clear BK453
                      clear BK476
                      clear BK478
                      clear HB
                      have HO_10 := n0_
                      have HO_95 := n1_
                      have HO_442000 := n2_
                      have HO_443000 := n3_
                      have HO_477000 := n4_
                      have BK441 := n5_
                      have BK442 := n6_
                      have BK453 := n7_
                      have BK476 := n8_
                      have BK478 := n9_
                      have HB := n10_
                      clear n0_ n1_ n2_ n3_ n4_ n5_ n6_ n7_ n8_ n9_ n10_
                      have p480 : 0 ≤ (x97_3 : Int) := of_decide_eq_true (by first | (with_reducible assumption) | assumption)
                      have q480 : x97_3 < (x10_2.length : Int) := of_decide_eq_true (by first | (with_reducible assumption) | assumption)
                      obtain ⟨ad480, e480, hx480_0⟩ := Kd.at_int (R_reads' HO_10.out).2.2 x97_3 p480 q480
                      cases e480
                      replace p480 := eq_true p480
                      replace q480 := eq_true q480
                      refine start_ (n := 13) (S := fun w' => w'.cell? ⟨gb476, 0, none⟩ = some (.slice Ao119 t471.length co119) ∧ w'.cell? ⟨gb476, 1, none⟩ = some (.int .i64 t474) ∧ w'.cell? ⟨gb478, 0, none⟩ = some (.int .u64 ((rd_T52 x9_2 x97_3).f0)) ∧ w'.cell? ⟨gb478, 1, none⟩ = some (.int .i64 ((rd_T52 x9_2 x97_3).f1)) ∧ w'.cell? (ad480.add (x97_3).toNat) = some (.int .i64 (rd x10_2 x97_3))) (ds := []) #[false, false, false, false, false, false, false, false, false, false, false, false, false] (by kernel_rfl) rfl rfl ⟨(blk_cell BK476.out 0).trans rfl, (blk_cell BK476.out 1).trans rfl, (blk_cell BK478.out 0).trans rfl, (blk_cell BK478.out 1).trans rfl, hx480_0⟩ (fun hHeld => ?_); refine with_tabW sBB.tab29 sBB.bits29 (fun HT_ HW_ => ?_)
                      generalize wc.drew = w155 at HO_10 HO_95 HO_442000 HO_443000 HO_477000 BK441 BK442 BK453 BK476 BK478 HB hx480_0 hHeld ⊢
                      refine pure_ (i := 1) (N := some 143) (v := ?_) (a' := ?_) #[false, true, false, false, false, false, false, false, false, false, false, false, false] rfl rfl (any_of HT_.out (by kernel_rfl)) (fun _ _ _ h => h) (Or.inl ⟨by rfl, ?_⟩) ?_ ?_
                      rotate_left
                      ·intro w'
                       go_simp
                       with_reducible rfl
                      rotate_left
                      ·simp only [Act.put, sA, sZ, sS, i64_w, i32_w]
                       rfl
                      refine pure_ (i := 2) (N := some 144) (v := ?_) (a' := ?_) #[false, true, true, false, false, false, false, false, false, false, false, false, false] rfl rfl (any_of HT_.out (by kernel_rfl)) (fun _ _ _ h => h) (Or.inl ⟨by rfl, ?_⟩) ?_ ?_
                      rotate_left
                      ·intro w'
                       go_simp
                       with_reducible rfl
                      rotate_left
                      ·simp only [Act.put, sA, sZ, sS, i64_w, i32_w]
                       rfl
                      refine pure_ (i := 3) (N := some 145) (v := ?_) (a' := ?_) #[false, true, true, true, false, false, false, false, false, false, false, false, false] rfl rfl (any_of HT_.out (by kernel_rfl)) (fun _ _ _ h => h) (Or.inl ⟨by rfl, ?_⟩) ?_ ?_
                      rotate_left
                      ·intro w'
                       go_simp
                       with_reducible rfl
                      rotate_left
                      ·simp only [Act.put, sA, sZ, sS, i64_w, i32_w]
                       rfl
                      refine pure_ (i := 5) (N := some 147) (v := ?_) (a' := ?_) #[false, true, true, true, false, true, false, false, false, false, false, false, false] rfl rfl (any_of HT_.out (by kernel_rfl)) (fun _ _ _ h => h) (Or.inl ⟨by rfl, ?_⟩) ?_ ?_
                      rotate_left
                      ·intro w'
                       go_simp
                       with_reducible rfl
                      rotate_left
                      ·simp only [Act.put, sA, sZ, sS, i64_w, i32_w]
                       rfl
                      refine take_ (i := 0) (N := some 142) (v := ?_) (a' := ?_) #[true, true, true, true, false, true, false, false, false, false, false, false, false] rfl rfl (take_ofW HT_.out HW_.out (by kernel_rfl)) (fun _ _ _ h => h) (Or.inl ⟨by rfl, ?_⟩) hHeld ?_ ?_
                      rotate_left
                      ·rintro w' ⟨s0, s1, s2, s3, s4⟩
                       go_simp
                       with_reducible rfl
                      rotate_left
                      ·simp only [Act.put, sA, sZ, sS, i64_w, i32_w]
                       rfl
                      refine take_ (i := 4) (N := some 146) (v := ?_) (a' := ?_) #[true, true, true, true, true, true, false, false, false, false, false, false, false] rfl rfl (take_ofW HT_.out HW_.out (by kernel_rfl)) (fun _ _ _ h => h) (Or.inl ⟨by rfl, ?_⟩) hHeld ?_ ?_
                      rotate_left
                      ·rintro w' ⟨s0, s1, s2, s3, s4⟩
                       go_simp
                       with_reducible rfl
                      rotate_left
                      ·simp only [Act.put, sA, sZ, sS, i64_w, i32_w]
                       rfl
                      refine take_ (i := 6) (N := some 148) (v := ?_) (a' := ?_) #[true, true, true, true, true, true, true, false, false, false, false, false, false] rfl rfl (take_ofW HT_.out HW_.out (by kernel_rfl)) (fun _ _ _ h => h) (Or.inl ⟨by rfl, ?_⟩) hHeld ?_ ?_
                      rotate_left
                      ·rintro w' ⟨s0, s1, s2, s3, s4⟩
                       go_simp
                       with_reducible rfl
                      rotate_left
                      ·simp only [Act.put, sA, sZ, sS, i64_w, i32_w]
                       rfl
                      refine one_ (i := 7) (N := some 149) #[true, true, true, true, true, true, true, true, false, false, false, false, false] rfl rfl (one_of HT_.out (by kernel_rfl)) (by decide) (fun K hK => ?_)
                      refine goes_ Try.func21 (by kernel_rfl) rfl #[.agg #[.slice Ao119 t471.length co119, .int .i64 t474], .int .i64 (rd x10_2 x97_3), .int .i64 ((rd_T52 x9_2 x97_3).f1)] (by rfl) rfl rfl (by (try simp only [List.map_toArray, List.map_cons, List.map_nil]); first | done | rfl | (simp only [List.length_drop, List.length_take]; rfl)) ?_
                      with_reducible refine (bits_Get.calls kj127 _ _ t471 t474 (rd x10_2 x97_3) ((rd_T52 x9_2 x97_3).f1) t481 t482 _ ?side1 ?side2 A146.out).mono ?_
                      (case side1 => repeat (first | exact (R_reads' HO_477000.out).2.2 | (with_reducible refine C_alloc ?_ _) | (with_reducible refine C_drewN ?_ _) | (with_reducible refine C_drew ?_)))
                      (case side2 => exact (R_reads' HO_477000.out).2.1)
                      rintro e w156 ⟨rfl, hb⟩
                      have HS4_ := (hb.cell (World.block_lt_of_cell? _ _ (hHeld.2.2.2.2))).trans (hHeld.2.2.2.2)
                      refine ⟨_, rfl, ?_⟩
                      have n0_ := aM (R_below (by (with_reducible repeat (first | apply rA | apply rN | apply rD)); exact HO_10.out) hb)
                      have n1_ := aM (R_below (by (with_reducible repeat (first | apply rA | apply rN | apply rD)); exact HO_95.out) hb)
                      have n2_ := aM (V_below (by (with_reducible repeat (first | apply vA | apply vN | apply vD)); exact HO_442000.out) hb)
                      have n3_ := aM (V_below (by (with_reducible repeat (first | apply vA | apply vN | apply vD)); exact HO_443000.out) hb)
                      have n4_ := aM (R_below (by (with_reducible repeat (first | apply rA | apply rN | apply rD)); exact HO_477000.out) hb)
                      have n5_ := aM (blk_below (g := gb441) (o := .cells #[.slice A0_0 l0_0.length c0_0, .int .i64 a0_1] 24 (0, 0)) (by (with_reducible repeat (first | refine kN ?_ _ | refine kD ?_ | refine kA ?_ _)); exact BK441.out) hb)
                      have n6_ := aM (blk_below (g := gb442) (o := .cells #[.slice A2_0 l2_0.length c2_0, .int .i64 a2_1] 24 (0, 0)) (by (with_reducible repeat (first | refine kN ?_ _ | refine kD ?_ | refine kA ?_ _)); exact BK442.out) hb)
                      have n7_ := aM (blk_below (g := gb453) (o := .cells #[.slice Ao113 x454000_2.length co113, .int .i64 x454001_2] 24 (0, 0)) (by (with_reducible repeat (first | refine kN ?_ _ | refine kD ?_ | refine kA ?_ _)); exact BK453.out) hb)
                      have n8_ := aM (blk_below (g := gb476) (o := .cells #[.slice Ao119 t471.length co119, .int .i64 t474] 24 (0, 0)) (by (with_reducible repeat (first | refine kN ?_ _ | refine kD ?_ | refine kA ?_ _)); exact BK476.out) hb)
                      have n9_ := aM (blk_below (g := gb478) (o := .cells #[.int .u64 ((rd_T52 x9_2 x97_3).f0), .int .i64 ((rd_T52 x9_2 x97_3).f1)] 52 (0, 0)) (by (with_reducible repeat (first | refine kN ?_ _ | refine kD ?_ | refine kA ?_ _)); exact BK478.out) hb)
                      have n10_ := aM (below_step (by repeat (first | (with_reducible first | exact HB.out | apply bA | apply bN | apply bD | refine bS ?_ GE441.out | refine bS ?_ GE442.out | refine bS ?_ GE453.out | refine bS ?_ GE476.out | refine bS ?_ GE478.out) | exact HB.out)) hb)
                      clear HO_10
                      clear HO_95
                      clear HO_442000
                      clear HO_443000
                      clear HO_477000
                      clear BK441
                      clear BK442
                      clear BK453
                      clear BK476
                      clear BK478
                      clear HB
                      have HO_10 := n0_
                      have HO_95 := n1_
                      have HO_442000 := n2_
                      have HO_443000 := n3_
                      have HO_477000 := n4_
                      have BK441 := n5_
                      have BK442 := n6_
                      have BK453 := n7_
                      have BK476 := n8_
                      have BK478 := n9_
                      have HB := n10_
                      clear n0_ n1_ n2_ n3_ n4_ n5_ n6_ n7_ n8_ n9_ n10_
                      (try clear hb)
                      (try clear hb2)
                      (try clear hk)
                      (try clear hi)
                      refine hK.out _ _ ⟨(blk_cell BK476.out 0).trans rfl, (blk_cell BK476.out 1).trans rfl, (blk_cell BK478.out 0).trans rfl, (blk_cell BK478.out 1).trans rfl, HS4_⟩ (fun hHeld => ?_)
                      clear hK K
                      refine norm_ (a' := ?_) ?_ ?_
                      rotate_left
                      ·show Act.put _ (some 149) _ = _
                       simp only [Act.put, sA, sZ, sS, i64_w, i32_w]
                       rfl
                      refine pure_ (i := 8) (N := some 141) (v := ?_) (a' := ?_) #[true, true, true, true, true, true, true, true, true, false, false, false, false] rfl rfl (any_of HT_.out (by kernel_rfl)) (fun _ _ _ h => h) (Or.inl ⟨by rfl, ?_⟩) ?_ ?_
                      rotate_left
                      ·intro w'
                       go_simp
                       with_reducible rfl
                      rotate_left
                      ·simp only [Act.put, sA, sZ, sS, i64_w, i32_w]
                       rfl
                      refine pure_ (i := 9) (N := some 150) (v := ?_) (a' := ?_) #[true, true, true, true, true, true, true, true, true, true, false, false, false] rfl rfl (any_of HT_.out (by kernel_rfl)) (fun _ _ _ h => h) (Or.inl ⟨by rfl, ?_⟩) ?_ ?_
                      rotate_left
                      ·intro w'
                       go_simp
                       with_reducible rfl
                      rotate_left
                      ·simp only [Act.put, sA, sZ, sS, i64_w, i32_w]
                       rfl
                      refine pure_ (i := 10) (N := some 151) (v := ?_) (a' := ?_) #[true, true, true, true, true, true, true, true, true, true, true, false, false] rfl rfl (any_of HT_.out (by kernel_rfl)) (fun _ _ _ h => h) (Or.inl ⟨by rfl, ?_⟩) ?_ ?_
                      rotate_left
                      ·intro w'
                       go_simp
                       with_reducible rfl
                      rotate_left
                      ·simp only [Act.put, sA, sZ, sS, i64_w, i32_w]
                       rfl
                      refine pure_ (i := 11) (N := some 20) (v := ?_) (a' := ?_) #[true, true, true, true, true, true, true, true, true, true, true, true, false] rfl rfl (any_of HT_.out (by kernel_rfl)) (fun _ _ _ h => h) (Or.inl ⟨by rfl, ?_⟩) ?_ ?_
                      rotate_left
                      ·intro w'
                       go_simp
                       with_reducible rfl
                      rotate_left
                      ·simp only [Act.put, sA, sZ, sS, i64_w, i32_w]
                       rfl
                      refine pure_ (i := 12) (N := some 21) (v := ?_) (a' := ?_) #[true, true, true, true, true, true, true, true, true, true, true, true, true] rfl rfl (any_of HT_.out (by kernel_rfl)) (fun _ _ _ h => h) (Or.inl ⟨by rfl, ?_⟩) ?_ ?_
                      rotate_left
                      ·intro w'
                       go_simp
                       with_reducible rfl
                      rotate_left
                      ·simp only [Act.put, sA, sZ, sS, i64_w, i32_w]
                       rfl
                      refine done_ (done_of HT_.out (by kernel_rfl)) ?_
                      try go_wp2
                      have n0_ := aM (R_drew HO_10.out)
                      have n1_ := aM (R_drew HO_95.out)
                      have n2_ := aM (V_drew HO_442000.out)
                      have n3_ := aM (V_drew HO_443000.out)
                      have n4_ := aM (R_drew HO_477000.out)
                      have n5_ := aM (kD BK441.out)
                      have n6_ := aM (kD BK442.out)
                      have n7_ := aM (kD BK453.out)
                      have n8_ := aM (kD BK476.out)
                      have n9_ := aM (kD BK478.out)
                      have n10_ := aM (bD HB.out)
                      clear HO_10
                      clear HO_95
                      clear HO_442000
                      clear HO_443000
                      clear HO_477000
                      clear BK441
                      clear BK442
                      clear BK453
                      clear BK476
                      clear BK478
                      clear HB
                      have HO_10 := n0_
                      have HO_95 := n1_
                      have HO_442000 := n2_
                      have HO_443000 := n3_
                      have HO_477000 := n4_
                      have BK441 := n5_
                      have BK442 := n6_
                      have BK453 := n7_
                      have BK476 := n8_
                      have BK478 := n9_
                      have HB := n10_
                      clear n0_ n1_ n2_ n3_ n4_ n5_ n6_ n7_ n8_ n9_ n10_
                      have p483 : 0 ≤ (x97_3 : Int) := of_decide_eq_true (by first | (with_reducible assumption) | assumption)
                      have q483 : x97_3 < (x10_2.length : Int) := of_decide_eq_true (by first | (with_reducible assumption) | assumption)
                      obtain ⟨ad483, e483, hx483_0⟩ := Kd.at_int (R_reads' HO_10.out).2.2 x97_3 p483 q483
                      obtain rfl : ad480 = ad483 := (by injection e483)
                      replace p483 := eq_true p483
                      replace q483 := eq_true q483
                      refine start_ (n := 19) (S := fun w' => w'.cell? ⟨gb478, 0, none⟩ = some (.int .u64 ((rd_T52 x9_2 x97_3).f0)) ∧ w'.cell? ⟨gb478, 1, none⟩ = some (.int .i64 ((rd_T52 x9_2 x97_3).f1)) ∧ w'.cell? (ad480.add (x97_3).toNat) = some (.int .i64 (rd x10_2 x97_3))) (ds := []) #[false, false, false, false, false, false, false, false, false, false, false, false, false, false, false, false, false, false, false] (by kernel_rfl) rfl rfl ⟨(blk_cell BK478.out 0).trans rfl, (blk_cell BK478.out 1).trans rfl, hx483_0⟩ (fun hHeld => ?_); refine with_tabW sBB.tab30 sBB.bits30 (fun HT_ HW_ => ?_)
                      generalize w156.drew = w157 at HO_10 HO_95 HO_442000 HO_443000 HO_477000 BK441 BK442 BK453 BK476 BK478 HB hx483_0 hHeld ⊢
                      refine pure_ (i := 0) (N := some 152) (v := ?_) (a' := ?_) #[true, false, false, false, false, false, false, false, false, false, false, false, false, false, false, false, false, false, false] rfl rfl (any_of HT_.out (by kernel_rfl)) (fun _ _ _ h => h) (Or.inl ⟨by rfl, ?_⟩) ?_ ?_
                      rotate_left
                      ·intro w'
                       go_simp
                       with_reducible rfl
                      rotate_left
                      ·simp only [Act.put, sA, sZ, sS, i64_w, i32_w]
                       rfl
                      refine pure_ (i := 1) (N := some 153) (v := ?_) (a' := ?_) #[true, true, false, false, false, false, false, false, false, false, false, false, false, false, false, false, false, false, false] rfl rfl (any_of HT_.out (by kernel_rfl)) (fun _ _ _ h => h) (Or.inl ⟨by rfl, ?_⟩) ?_ ?_
                      rotate_left
                      ·intro w'
                       go_simp
                       with_reducible rfl
                      rotate_left
                      ·simp only [Act.put, sA, sZ, sS, i64_w, i32_w]
                       rfl
                      refine take_ (i := 2) (N := some 154) (v := ?_) (a' := ?_) #[true, true, true, false, false, false, false, false, false, false, false, false, false, false, false, false, false, false, false] rfl rfl (take_ofW HT_.out HW_.out (by kernel_rfl)) (fun _ _ _ h => h) (Or.inl ⟨by rfl, ?_⟩) hHeld ?_ ?_
                      rotate_left
                      ·rintro w' ⟨s0, s1, s2⟩
                       go_simp
                       with_reducible rfl
                      rotate_left
                      ·simp only [Act.put, sA, sZ, sS, i64_w, i32_w]
                       rfl
                      refine pure_ (i := 3) (N := some 155) (v := ?_) (a' := ?_) #[true, true, true, true, false, false, false, false, false, false, false, false, false, false, false, false, false, false, false] rfl rfl (any_of HT_.out (by kernel_rfl)) (fun _ _ _ h => h) (Or.inl ⟨by rfl, ?_⟩) ?_ ?_
                      rotate_left
                      ·intro w'
                       go_simp
                       with_reducible rfl
                      rotate_left
                      ·simp only [Act.put, sA, sZ, sS, i64_w, i32_w]
                       rfl
                      refine pure_ (i := 4) (N := some 156) (v := ?_) (a' := ?_) #[true, true, true, true, true, false, false, false, false, false, false, false, false, false, false, false, false, false, false] rfl rfl (any_of HT_.out (by kernel_rfl)) (fun _ _ _ h => h) (Or.inl ⟨by rfl, ?_⟩) ?_ ?_
                      rotate_left
                      ·intro w'
                       go_simp
                       with_reducible rfl
                      rotate_left
                      ·simp only [Act.put, sA, sZ, sS, i64_w, i32_w]
                       rfl
                      refine pure_ (i := 5) (N := some 157) (v := ?_) (a' := ?_) #[true, true, true, true, true, true, false, false, false, false, false, false, false, false, false, false, false, false, false] rfl rfl (any_of HT_.out (by kernel_rfl)) (fun _ _ _ h => h) (Or.inl ⟨by rfl, ?_⟩) ?_ ?_
                      rotate_left
                      ·intro w'
                       go_simp
                       with_reducible rfl
                      rotate_left
                      ·simp only [Act.put, sA, sZ, sS, i64_w, i32_w]
                       rfl
                      refine pure_ (i := 6) (N := some 158) (v := ?_) (a' := ?_) #[true, true, true, true, true, true, true, false, false, false, false, false, false, false, false, false, false, false, false] rfl rfl (any_of HT_.out (by kernel_rfl)) (fun _ _ _ h => h) (Or.inl ⟨by rfl, ?_⟩) ?_ ?_
                      rotate_left
                      ·intro w'
                       go_simp
                       with_reducible rfl
                      rotate_left
                      ·simp only [Act.put, sA, sZ, sS, i64_w, i32_w]
                       rfl
                      refine pure_ (i := 7) (N := some 159) (v := ?_) (a' := ?_) #[true, true, true, true, true, true, true, true, false, false, false, false, false, false, false, false, false, false, false] rfl rfl (any_of HT_.out (by kernel_rfl)) (fun _ _ _ h => h) (Or.inl ⟨by rfl, ?_⟩) ?_ ?_
                      rotate_left
                      ·intro w'
                       go_simp
                       with_reducible rfl
                      rotate_left
                      ·simp only [Act.put, sA, sZ, sS, i64_w, i32_w]
                       rfl
                      refine pure_ (i := 8) (N := some 160) (v := ?_) (a' := ?_) #[true, true, true, true, true, true, true, true, true, false, false, false, false, false, false, false, false, false, false] rfl rfl (any_of HT_.out (by kernel_rfl)) (fun _ _ _ h => h) (Or.inl ⟨by rfl, ?_⟩) ?_ ?_
                      rotate_left
                      ·intro w'
                       go_simp
                       with_reducible rfl
                      rotate_left
                      ·simp only [Act.put, sA, sZ, sS, i64_w, i32_w]
                       rfl
                      refine pure_ (i := 9) (N := some 161) (v := ?_) (a' := ?_) #[true, true, true, true, true, true, true, true, true, true, false, false, false, false, false, false, false, false, false] rfl rfl (any_of HT_.out (by kernel_rfl)) (fun _ _ _ h => h) (Or.inl ⟨by rfl, ?_⟩) ?_ ?_
                      rotate_left
                      ·intro w'
                       go_simp
                       with_reducible rfl
                      rotate_left
                      ·simp only [Act.put, sA, sZ, sS, i64_w, i32_w]
                       rfl
                      refine pure_ (i := 10) (N := some 162) (v := ?_) (a' := ?_) #[true, true, true, true, true, true, true, true, true, true, true, false, false, false, false, false, false, false, false] rfl rfl (any_of HT_.out (by kernel_rfl)) (fun _ _ _ h => h) (Or.inl ⟨by rfl, ?_⟩) ?_ ?_
                      rotate_left
                      ·intro w'
                       go_simp
                       with_reducible rfl
                      rotate_left
                      ·simp only [Act.put, sA, sZ, sS, i64_w, i32_w]
                       rfl
                      refine pure_ (i := 11) (N := some 163) (v := ?_) (a' := ?_) #[true, true, true, true, true, true, true, true, true, true, true, true, false, false, false, false, false, false, false] rfl rfl (any_of HT_.out (by kernel_rfl)) (fun _ _ _ h => h) (Or.inl ⟨by rfl, ?_⟩) ?_ ?_
                      rotate_left
                      ·intro w'
                       go_simp
                       with_reducible rfl
                      rotate_left
                      ·simp only [Act.put, sA, sZ, sS, i64_w, i32_w]
                       rfl
                      refine pure_ (i := 12) (N := some 164) (v := ?_) (a' := ?_) #[true, true, true, true, true, true, true, true, true, true, true, true, true, false, false, false, false, false, false] rfl rfl (any_of HT_.out (by kernel_rfl)) (fun _ _ _ h => h) (Or.inl ⟨by rfl, ?_⟩) ?_ ?_
                      rotate_left
                      ·intro w'
                       go_simp
                       with_reducible rfl
                      rotate_left
                      ·simp only [Act.put, sA, sZ, sS, i64_w, i32_w]
                       rfl
                      refine pure_ (i := 14) (N := some 166) (v := ?_) (a' := ?_) #[true, true, true, true, true, true, true, true, true, true, true, true, true, false, true, false, false, false, false] rfl rfl (any_of HT_.out (by kernel_rfl)) (fun _ _ _ h => h) (Or.inl ⟨by rfl, ?_⟩) ?_ ?_
                      rotate_left
                      ·intro w'
                       go_simp
                       with_reducible rfl
                      rotate_left
                      ·simp only [Act.put, sA, sZ, sS, i64_w, i32_w]
                       rfl
                      refine take_ (i := 13) (N := some 165) (v := ?_) (a' := ?_) #[true, true, true, true, true, true, true, true, true, true, true, true, true, true, true, false, false, false, false] rfl rfl (take_ofW HT_.out HW_.out (by kernel_rfl)) (fun _ _ _ h => h) (Or.inl ⟨by rfl, ?_⟩) hHeld ?_ ?_
                      rotate_left
                      ·rintro w' ⟨s0, s1, s2⟩
                       go_simp
                       with_reducible rfl
                      rotate_left
                      ·simp only [Act.put, sA, sZ, sS, i64_w, i32_w]
                       rfl
                      refine take_ (i := 15) (N := some 167) (v := ?_) (a' := ?_) #[true, true, true, true, true, true, true, true, true, true, true, true, true, true, true, true, false, false, false] rfl rfl (take_ofW HT_.out HW_.out (by kernel_rfl)) (fun _ _ _ h => h) (Or.inl ⟨by rfl, ?_⟩) hHeld ?_ ?_
                      rotate_left
                      ·rintro w' ⟨s0, s1, s2⟩
                       go_simp
                       with_reducible rfl
                      rotate_left
                      ·simp only [Act.put, sA, sZ, sS, i64_w, i32_w]
                       rfl
                      refine pure_ (i := 16) (N := some 168) (v := ?_) (a' := ?_) #[true, true, true, true, true, true, true, true, true, true, true, true, true, true, true, true, true, false, false] rfl rfl (any_of HT_.out (by kernel_rfl)) (fun _ _ _ h => h) (Or.inl ⟨by rfl, ?_⟩) ?_ ?_
                      rotate_left
                      ·intro w'
                       go_simp
                       with_reducible rfl
                      rotate_left
                      ·simp only [Act.put, sA, sZ, sS, i64_w, i32_w]
                       rfl
                      refine pure_ (i := 17) (N := some 169) (v := ?_) (a' := ?_) #[true, true, true, true, true, true, true, true, true, true, true, true, true, true, true, true, true, true, false] rfl rfl (any_of HT_.out (by kernel_rfl)) (fun _ _ _ h => h) (Or.inl ⟨by rfl, ?_⟩) ?_ ?_
                      rotate_left
                      ·intro w'
                       go_simp
                       with_reducible rfl
                      rotate_left
                      ·simp only [Act.put, sA, sZ, sS, i64_w, i32_w]
                       rfl
                      refine pure_ (i := 18) (N := some 170) (v := ?_) (a' := ?_) #[true, true, true, true, true, true, true, true, true, true, true, true, true, true, true, true, true, true, true] rfl rfl (any_of HT_.out (by kernel_rfl)) (fun _ _ _ h => h) (Or.inl ⟨by rfl, ?_⟩) ?_ ?_
                      rotate_left
                      ·intro w'
                       go_simp
                       with_reducible rfl
                      rotate_left
                      ·simp only [Act.put, sA, sZ, sS, i64_w, i32_w]
                       rfl
                      refine done_ (done_of HT_.out (by kernel_rfl)) ?_
                      try go_wp2
                      go_roundg kj127
                      case measure => have := HJ4.out; have := HK2.out; have := HK3.out; have := HJ127.out; omega
                      case rel => exact ⟨(wrap64 (x97_3 + 1)), (by first | rfl | (simp; done) | (simp [*]; done)), H', ⟨by have := HJ4.out; have := HK2.out; have := HK3.out; have := HJ127.out; omega⟩, ⟨by (with_reducible repeat (first | apply rA | apply rN | apply rD)); exact HO_10.out⟩, ⟨by (with_reducible repeat (first | apply rA | apply rN | apply rD)); exact R_mono HO_95.out (fun _ hk => hk.1)⟩, ⟨by (with_reducible repeat (first | apply vA | apply vN | apply vD)); exact V_mono HO_442000.out (fun _ hk => ⟨hk.1, ⟨hk.2.1, ⟨hk.2.2.1, ⟨hk.2.2.2.1, ⟨hk.2.2.2.2.1, ⟨hk.2.2.2.2.2.1, ⟨hk.2.2.2.2.2.2.1, hk.2.2.2.2.2.2.2.1⟩⟩⟩⟩⟩⟩⟩)⟩, ⟨by (with_reducible repeat (first | apply vA | apply vN | apply vD)); exact V_mono HO_443000.out (fun _ hk => ⟨hk.1, ⟨hk.2.1, ⟨hk.2.2.1, ⟨hk.2.2.2.1, ⟨hk.2.2.2.2.1, ⟨hk.2.2.2.2.2.1, ⟨hk.2.2.2.2.2.2.1, hk.2.2.2.2.2.2.2.1⟩⟩⟩⟩⟩⟩⟩)⟩, ⟨by (with_reducible repeat (first | apply rA | apply rN | apply rD)); exact HO_477000.out⟩, ⟨by (with_reducible repeat (first | refine kN ?_ _ | refine kD ?_ | refine kA ?_ _)); exact BK441.out⟩, ⟨by (with_reducible repeat (first | refine kN ?_ _ | refine kD ?_ | refine kA ?_ _)); exact BK442.out⟩, ⟨by (with_reducible repeat (first | refine kN ?_ _ | refine kD ?_ | refine kA ?_ _)); exact BK453.out⟩, ⟨by (with_reducible repeat (first | refine kN ?_ _ | refine kD ?_ | refine kA ?_ _)); exact BK476.out⟩, ⟨by repeat (first | (with_reducible first | exact HB.out | apply bA | apply bN | apply bD | refine bS ?_ GE441.out | refine bS ?_ GE442.out | refine bS ?_ GE453.out | refine bS ?_ GE476.out | refine bS ?_ GE478.out) | exact HB.out)⟩⟩
                     ·rw [if_neg c149] at H
                      have c149b0 : (x19_127 == (wrap64 ((rd x10_2 x97_3) + ((rd_T52 x9_2 x97_3).f1)))) = false := beq_eq_false_iff_ne.mpr c149
                      have c149b1 : (x19_127 != (wrap64 ((rd x10_2 x97_3) + ((rd_T52 x9_2 x97_3).f1)))) = true := bne_iff_ne.mpr c149
                      obtain rfl := Option.some.inj H
                      exact absurd HR_.out (by simp)
                    ·rw [if_neg c148] at H
                     have c148b0 : (t482 == 0) = false := beq_eq_false_iff_ne.mpr c148
                     have c148b1 : (t482 != 0) = true := bne_iff_ne.mpr c148
                     obtain rfl := Option.some.inj H
                     exact absurd HR_.out (by simp)
                   ·rw [if_neg c147] at H
                    have c147b0 : (t481 == ((rd_T52 x9_2 x97_3).f0)) = false := beq_eq_false_iff_ne.mpr c147
                    have c147b1 : (t481 != ((rd_T52 x9_2 x97_3).f0)) = true := bne_iff_ne.mpr c147
                    obtain rfl := Option.some.inj H
                    exact absurd HR_.out (by simp)
                  ·rw [if_neg c145] at H
                   exact absurd H (by simp)
                 ·rw [if_neg c144] at H
                  exact absurd H (by simp)
                ·rw [if_neg c143] at H
                 have c143b0 : decide (0 ≤ ((rd_T52 x9_2 x97_3).f1)) = false := decide_eq_false c143
                 clear c143
                 by_cases c158 : ((rd_T52 x9_2 x97_3).f1) < (-1)
                 ·rw [if_pos c158] at H
                  have c158b0 : decide (((rd_T52 x9_2 x97_3).f1) < (-1)) = true := decide_eq_true c158
                  clear c158
                  by_cases c159 : 0 ≤ x97_3
                  ·rw [if_pos c159] at H
                   have c159b0 : decide (0 ≤ x97_3) = true := decide_eq_true c159
                   clear c159
                   by_cases c160 : x97_3 < (x10_2.length : Int)
                   ·rw [if_pos c160] at H
                    have c160b0 : decide (x97_3 < (x10_2.length : Int)) = true := decide_eq_true c160
                    clear c160
                    replace H := Option.bind_eq_some_iff.mp H
                    obtain ⟨⟨t485, t486, t487⟩, A1610, H⟩ := H
                    replace H : (if t485 = (wrap64 ((wrap64 (Int.tmod ((rd_T52 x9_2 x97_3).f0) 2147483648)) - 1073741824)) then (if t487 = 0 then (if t486 = x19_127 then (sBB.l1 kj127 t443 x10_2 x9_2 (x9_2.length : Int) (wrap64 (x97_3 + 1)) x454000_2 x454001_2 t471 t474) else (some false)) else (some false)) else (some false)) = some r := H
                    have A161 := aM A1610
                    clear A1610
                    by_cases c162 : t485 = (wrap64 ((wrap64 (Int.tmod ((rd_T52 x9_2 x97_3).f0) 2147483648)) - 1073741824))
                    ·rw [if_pos c162] at H
                     have c162b0 : (t485 == (wrap64 ((wrap64 (Int.tmod ((rd_T52 x9_2 x97_3).f0) 2147483648)) - 1073741824))) = true := beq_iff_eq.mpr c162
                     have c162b1 : (t485 != (wrap64 ((wrap64 (Int.tmod ((rd_T52 x9_2 x97_3).f0) 2147483648)) - 1073741824))) = false := bne_eq_false_iff_eq.mpr c162
                     clear c162
                     by_cases c163 : t487 = 0
                     ·rw [if_pos c163] at H
                      have c163b0 : (t487 == 0) = true := beq_iff_eq.mpr c163
                      have c163b1 : (t487 != 0) = false := bne_eq_false_iff_eq.mpr c163
                      clear c163
                      by_cases c164 : t486 = x19_127
                      ·rw [if_pos c164] at H
                       have c164b0 : (t486 == x19_127) = true := beq_iff_eq.mpr c164
                       have c164b1 : (t486 != x19_127) = false := bne_eq_false_iff_eq.mpr c164
                       clear c164
                       have H' := aM H
                       clear H
                       have hnb165 := NB478_441.out
                       have hnc165 := NB441_478.out
                       have hnb166 := NB478_442.out
                       have hnc166 := NB442_478.out
                       have hnb167 := NB478_453.out
                       have hnc167 := NB453_478.out
                       have hnb168 := NB478_476.out
                       have hnc168 := NB476_478.out
                       have hcz169_0 : wc.cell? ⟨gb478, 0, none⟩ = some (.int .u64 ((rd_T52 x9_2 x97_3).f0)) := (blk_cell BK478.out 0).trans rfl
                       have hcz169_1 : wc.cell? ⟨gb478, 1, none⟩ = some (.int .i64 ((rd_T52 x9_2 x97_3).f1)) := (blk_cell BK478.out 1).trans rfl
                       have hfz169_0 := blk_frozen BK478.out 0
                       have hfz169_1 := blk_frozen BK478.out 1
                       try go_wp2
                       have n0_ := aM (R_drew HO_10.out)
                       have n1_ := aM (R_drew HO_95.out)
                       have n2_ := aM (V_drew HO_442000.out)
                       have n3_ := aM (V_drew HO_443000.out)
                       have n4_ := aM (R_drew HO_477000.out)
                       have n5_ := aM (kD BK441.out)
                       have n6_ := aM (kD BK442.out)
                       have n7_ := aM (kD BK453.out)
                       have n8_ := aM (kD BK476.out)
                       have n9_ := aM (kD BK478.out)
                       have n10_ := aM (bD HB.out)
                       clear HO_10
                       clear HO_95
                       clear HO_442000
                       clear HO_443000
                       clear HO_477000
                       clear BK441
                       clear BK442
                       clear BK453
                       clear BK476
                       clear BK478
                       clear HB
                       have HO_10 := n0_
                       have HO_95 := n1_
                       have HO_442000 := n2_
                       have HO_443000 := n3_
                       have HO_477000 := n4_
                       have BK441 := n5_
                       have BK442 := n6_
                       have BK453 := n7_
                       have BK476 := n8_
                       have BK478 := n9_
                       have HB := n10_
                       clear n0_ n1_ n2_ n3_ n4_ n5_ n6_ n7_ n8_ n9_ n10_
                       have p484 : 0 ≤ (x97_3 : Int) := of_decide_eq_true (by first | (with_reducible assumption) | assumption)
                       have q484 : x97_3 < (x10_2.length : Int) := of_decide_eq_true (by first | (with_reducible assumption) | assumption)
                       obtain ⟨ad484, e484, hx484_0⟩ := Kd.at_int (R_reads' HO_10.out).2.2 x97_3 p484 q484
                       cases e484
                       replace p484 := eq_true p484
                       replace q484 := eq_true q484
                       refine start_ (n := 13) (S := fun w' => w'.cell? ⟨gb476, 0, none⟩ = some (.slice Ao119 t471.length co119) ∧ w'.cell? ⟨gb476, 1, none⟩ = some (.int .i64 t474) ∧ w'.cell? (ad484.add (x97_3).toNat) = some (.int .i64 (rd x10_2 x97_3))) (ds := []) #[false, false, false, false, false, false, false, false, false, false, false, false, false] (by kernel_rfl) rfl rfl ⟨(blk_cell BK476.out 0).trans rfl, (blk_cell BK476.out 1).trans rfl, hx484_0⟩ (fun hHeld => ?_); refine with_tabW sBB.tab33 sBB.bits33 (fun HT_ HW_ => ?_)
                       generalize wc.drew = w170 at HO_10 HO_95 HO_442000 HO_443000 HO_477000 BK441 BK442 BK453 BK476 BK478 HB hx484_0 hHeld ⊢
                       refine pure_ (i := 1) (N := some 177) (v := ?_) (a' := ?_) #[false, true, false, false, false, false, false, false, false, false, false, false, false] rfl rfl (any_of HT_.out (by kernel_rfl)) (fun _ _ _ h => h) (Or.inl ⟨by rfl, ?_⟩) ?_ ?_
                       rotate_left
                       ·intro w'
                        go_simp
                        with_reducible rfl
                       rotate_left
                       ·simp only [Act.put, sA, sZ, sS, i64_w, i32_w]
                        rfl
                       refine pure_ (i := 2) (N := some 178) (v := ?_) (a' := ?_) #[false, true, true, false, false, false, false, false, false, false, false, false, false] rfl rfl (any_of HT_.out (by kernel_rfl)) (fun _ _ _ h => h) (Or.inl ⟨by rfl, ?_⟩) ?_ ?_
                       rotate_left
                       ·intro w'
                        go_simp
                        with_reducible rfl
                       rotate_left
                       ·simp only [Act.put, sA, sZ, sS, i64_w, i32_w]
                        rfl
                       refine pure_ (i := 3) (N := some 179) (v := ?_) (a' := ?_) #[false, true, true, true, false, false, false, false, false, false, false, false, false] rfl rfl (any_of HT_.out (by kernel_rfl)) (fun _ _ _ h => h) (Or.inl ⟨by rfl, ?_⟩) ?_ ?_
                       rotate_left
                       ·intro w'
                        go_simp
                        with_reducible rfl
                       rotate_left
                       ·simp only [Act.put, sA, sZ, sS, i64_w, i32_w]
                        rfl
                       refine take_ (i := 0) (N := some 176) (v := ?_) (a' := ?_) #[true, true, true, true, false, false, false, false, false, false, false, false, false] rfl rfl (take_ofW HT_.out HW_.out (by kernel_rfl)) (fun _ _ _ h => h) (Or.inl ⟨by rfl, ?_⟩) hHeld ?_ ?_
                       rotate_left
                       ·rintro w' ⟨s0, s1, s2⟩
                        go_simp
                        with_reducible rfl
                       rotate_left
                       ·simp only [Act.put, sA, sZ, sS, i64_w, i32_w]
                        rfl
                       refine take_ (i := 4) (N := some 180) (v := ?_) (a' := ?_) #[true, true, true, true, true, false, false, false, false, false, false, false, false] rfl rfl (take_ofW HT_.out HW_.out (by kernel_rfl)) (fun _ _ _ h => h) (Or.inl ⟨by rfl, ?_⟩) hHeld ?_ ?_
                       rotate_left
                       ·rintro w' ⟨s0, s1, s2⟩
                        go_simp
                        with_reducible rfl
                       rotate_left
                       ·simp only [Act.put, sA, sZ, sS, i64_w, i32_w]
                        rfl
                       refine one_ (i := 5) (N := some 181) #[true, true, true, true, true, true, false, false, false, false, false, false, false] rfl rfl (one_of HT_.out (by kernel_rfl)) (by decide) (fun K hK => ?_)
                       refine goes_ Try.func27 (by kernel_rfl) rfl #[.agg #[.slice Ao119 t471.length co119, .int .i64 t474], .int .i64 (rd x10_2 x97_3)] (by rfl) rfl rfl (by (try simp only [List.map_toArray, List.map_cons, List.map_nil]); first | done | rfl | (simp only [List.length_drop, List.length_take]; rfl)) ?_
                       with_reducible refine (bits_GetSigned.calls kj127 _ _ t471 t474 (rd x10_2 x97_3) t485 t486 t487 _ ?side1 ?side2 A161.out).mono ?_
                       (case side1 => repeat (first | exact (R_reads' HO_477000.out).2.2 | (with_reducible refine C_alloc ?_ _) | (with_reducible refine C_drewN ?_ _) | (with_reducible refine C_drew ?_)))
                       (case side2 => exact (R_reads' HO_477000.out).2.1)
                       rintro e w171 ⟨rfl, hb⟩
                       have HS2_ := (hb.cell (World.block_lt_of_cell? _ _ (hHeld.2.2))).trans (hHeld.2.2)
                       refine ⟨_, rfl, ?_⟩
                       have n0_ := aM (R_below (by (with_reducible repeat (first | apply rA | apply rN | apply rD)); exact HO_10.out) hb)
                       have n1_ := aM (R_below (by (with_reducible repeat (first | apply rA | apply rN | apply rD)); exact HO_95.out) hb)
                       have n2_ := aM (V_below (by (with_reducible repeat (first | apply vA | apply vN | apply vD)); exact HO_442000.out) hb)
                       have n3_ := aM (V_below (by (with_reducible repeat (first | apply vA | apply vN | apply vD)); exact HO_443000.out) hb)
                       have n4_ := aM (R_below (by (with_reducible repeat (first | apply rA | apply rN | apply rD)); exact HO_477000.out) hb)
                       have n5_ := aM (blk_below (g := gb441) (o := .cells #[.slice A0_0 l0_0.length c0_0, .int .i64 a0_1] 24 (0, 0)) (by (with_reducible repeat (first | refine kN ?_ _ | refine kD ?_ | refine kA ?_ _)); exact BK441.out) hb)
                       have n6_ := aM (blk_below (g := gb442) (o := .cells #[.slice A2_0 l2_0.length c2_0, .int .i64 a2_1] 24 (0, 0)) (by (with_reducible repeat (first | refine kN ?_ _ | refine kD ?_ | refine kA ?_ _)); exact BK442.out) hb)
                       have n7_ := aM (blk_below (g := gb453) (o := .cells #[.slice Ao113 x454000_2.length co113, .int .i64 x454001_2] 24 (0, 0)) (by (with_reducible repeat (first | refine kN ?_ _ | refine kD ?_ | refine kA ?_ _)); exact BK453.out) hb)
                       have n8_ := aM (blk_below (g := gb476) (o := .cells #[.slice Ao119 t471.length co119, .int .i64 t474] 24 (0, 0)) (by (with_reducible repeat (first | refine kN ?_ _ | refine kD ?_ | refine kA ?_ _)); exact BK476.out) hb)
                       have n9_ := aM (blk_below (g := gb478) (o := .cells #[.int .u64 ((rd_T52 x9_2 x97_3).f0), .int .i64 ((rd_T52 x9_2 x97_3).f1)] 52 (0, 0)) (by (with_reducible repeat (first | refine kN ?_ _ | refine kD ?_ | refine kA ?_ _)); exact BK478.out) hb)
                       have n10_ := aM (below_step (by repeat (first | (with_reducible first | exact HB.out | apply bA | apply bN | apply bD | refine bS ?_ GE441.out | refine bS ?_ GE442.out | refine bS ?_ GE453.out | refine bS ?_ GE476.out | refine bS ?_ GE478.out) | exact HB.out)) hb)
                       clear HO_10
                       clear HO_95
                       clear HO_442000
                       clear HO_443000
                       clear HO_477000
                       clear BK441
                       clear BK442
                       clear BK453
                       clear BK476
                       clear BK478
                       clear HB
                       have HO_10 := n0_
                       have HO_95 := n1_
                       have HO_442000 := n2_
                       have HO_443000 := n3_
                       have HO_477000 := n4_
                       have BK441 := n5_
                       have BK442 := n6_
                       have BK453 := n7_
                       have BK476 := n8_
                       have BK478 := n9_
                       have HB := n10_
                       clear n0_ n1_ n2_ n3_ n4_ n5_ n6_ n7_ n8_ n9_ n10_
                       (try clear hb)
                       (try clear hb2)
                       (try clear hk)
                       (try clear hi)
                       refine hK.out _ _ ⟨(blk_cell BK476.out 0).trans rfl, (blk_cell BK476.out 1).trans rfl, HS2_⟩ (fun hHeld => ?_)
                       clear hK K
                       refine norm_ (a' := ?_) ?_ ?_
                       rotate_left
                       ·show Act.put _ (some 181) _ = _
                        simp only [Act.put, sA, sZ, sS, i64_w, i32_w]
                        rfl
                       refine pure_ (i := 6) (N := some 175) (v := ?_) (a' := ?_) #[true, true, true, true, true, true, true, false, false, false, false, false, false] rfl rfl (any_of HT_.out (by kernel_rfl)) (fun _ _ _ h => h) (Or.inl ⟨by rfl, ?_⟩) ?_ ?_
                       rotate_left
                       ·intro w'
                        go_simp
                        with_reducible rfl
                       rotate_left
                       ·simp only [Act.put, sA, sZ, sS, i64_w, i32_w]
                        rfl
                       refine pure_ (i := 7) (N := some 182) (v := ?_) (a' := ?_) #[true, true, true, true, true, true, true, true, false, false, false, false, false] rfl rfl (any_of HT_.out (by kernel_rfl)) (fun _ _ _ h => h) (Or.inl ⟨by rfl, ?_⟩) ?_ ?_
                       rotate_left
                       ·intro w'
                        go_simp
                        with_reducible rfl
                       rotate_left
                       ·simp only [Act.put, sA, sZ, sS, i64_w, i32_w]
                        rfl
                       refine pure_ (i := 8) (N := some 183) (v := ?_) (a' := ?_) #[true, true, true, true, true, true, true, true, true, false, false, false, false] rfl rfl (any_of HT_.out (by kernel_rfl)) (fun _ _ _ h => h) (Or.inl ⟨by rfl, ?_⟩) ?_ ?_
                       rotate_left
                       ·intro w'
                        go_simp
                        with_reducible rfl
                       rotate_left
                       ·simp only [Act.put, sA, sZ, sS, i64_w, i32_w]
                        rfl
                       refine pure_ (i := 9) (N := some 184) (v := ?_) (a' := ?_) #[true, true, true, true, true, true, true, true, true, true, false, false, false] rfl rfl (any_of HT_.out (by kernel_rfl)) (fun _ _ _ h => h) (Or.inl ⟨by rfl, ?_⟩) ?_ ?_
                       rotate_left
                       ·intro w'
                        go_simp
                        with_reducible rfl
                       rotate_left
                       ·simp only [Act.put, sA, sZ, sS, i64_w, i32_w]
                        rfl
                       refine pure_ (i := 10) (N := some 22) (v := ?_) (a' := ?_) #[true, true, true, true, true, true, true, true, true, true, true, false, false] rfl rfl (any_of HT_.out (by kernel_rfl)) (fun _ _ _ h => h) (Or.inl ⟨by rfl, ?_⟩) ?_ ?_
                       rotate_left
                       ·intro w'
                        go_simp
                        with_reducible rfl
                       rotate_left
                       ·simp only [Act.put, sA, sZ, sS, i64_w, i32_w]
                        rfl
                       refine pure_ (i := 11) (N := some 23) (v := ?_) (a' := ?_) #[true, true, true, true, true, true, true, true, true, true, true, true, false] rfl rfl (any_of HT_.out (by kernel_rfl)) (fun _ _ _ h => h) (Or.inl ⟨by rfl, ?_⟩) ?_ ?_
                       rotate_left
                       ·intro w'
                        go_simp
                        with_reducible rfl
                       rotate_left
                       ·simp only [Act.put, sA, sZ, sS, i64_w, i32_w]
                        rfl
                       refine pure_ (i := 12) (N := some 24) (v := ?_) (a' := ?_) #[true, true, true, true, true, true, true, true, true, true, true, true, true] rfl rfl (any_of HT_.out (by kernel_rfl)) (fun _ _ _ h => h) (Or.inl ⟨by rfl, ?_⟩) ?_ ?_
                       rotate_left
                       ·intro w'
                        go_simp
                        with_reducible rfl
                       rotate_left
                       ·simp only [Act.put, sA, sZ, sS, i64_w, i32_w]
                        rfl
                       refine done_ (done_of HT_.out (by kernel_rfl)) ?_
                       have hcz172_0 : w171.cell? ⟨gb478, 0, none⟩ = some (.int .u64 ((rd_T52 x9_2 x97_3).f0)) := (blk_cell BK478.out 0).trans rfl
                       have hcz172_1 : w171.cell? ⟨gb478, 1, none⟩ = some (.int .i64 ((rd_T52 x9_2 x97_3).f1)) := (blk_cell BK478.out 1).trans rfl
                       have hfz172_0 := blk_frozen BK478.out 0
                       have hfz172_1 := blk_frozen BK478.out 1
                       try go_wp2
                       go_roundg kj127
                       case measure => have := HJ4.out; have := HK2.out; have := HK3.out; have := HJ127.out; omega
                       case rel => exact ⟨(wrap64 (x97_3 + 1)), (by first | rfl | (simp; done) | (simp [*]; done)), H', ⟨by have := HJ4.out; have := HK2.out; have := HK3.out; have := HJ127.out; omega⟩, ⟨by (with_reducible repeat (first | apply rA | apply rN | apply rD)); exact HO_10.out⟩, ⟨by (with_reducible repeat (first | apply rA | apply rN | apply rD)); exact R_mono HO_95.out (fun _ hk => hk.1)⟩, ⟨by (with_reducible repeat (first | apply vA | apply vN | apply vD)); exact V_mono HO_442000.out (fun _ hk => ⟨hk.1, ⟨hk.2.1, ⟨hk.2.2.1, ⟨hk.2.2.2.1, ⟨hk.2.2.2.2.1, ⟨hk.2.2.2.2.2.1, ⟨hk.2.2.2.2.2.2.1, hk.2.2.2.2.2.2.2.1⟩⟩⟩⟩⟩⟩⟩)⟩, ⟨by (with_reducible repeat (first | apply vA | apply vN | apply vD)); exact V_mono HO_443000.out (fun _ hk => ⟨hk.1, ⟨hk.2.1, ⟨hk.2.2.1, ⟨hk.2.2.2.1, ⟨hk.2.2.2.2.1, ⟨hk.2.2.2.2.2.1, ⟨hk.2.2.2.2.2.2.1, hk.2.2.2.2.2.2.2.1⟩⟩⟩⟩⟩⟩⟩)⟩, ⟨by (with_reducible repeat (first | apply rA | apply rN | apply rD)); exact HO_477000.out⟩, ⟨by (with_reducible repeat (first | refine kN ?_ _ | refine kD ?_ | refine kA ?_ _)); exact BK441.out⟩, ⟨by (with_reducible repeat (first | refine kN ?_ _ | refine kD ?_ | refine kA ?_ _)); exact BK442.out⟩, ⟨by (with_reducible repeat (first | refine kN ?_ _ | refine kD ?_ | refine kA ?_ _)); exact BK453.out⟩, ⟨by (with_reducible repeat (first | refine kN ?_ _ | refine kD ?_ | refine kA ?_ _)); exact BK476.out⟩, ⟨by repeat (first | (with_reducible first | exact HB.out | apply bA | apply bN | apply bD | refine bS ?_ GE441.out | refine bS ?_ GE442.out | refine bS ?_ GE453.out | refine bS ?_ GE476.out | refine bS ?_ GE478.out) | exact HB.out)⟩⟩
                      ·rw [if_neg c164] at H
                       have c164b0 : (t486 == x19_127) = false := beq_eq_false_iff_ne.mpr c164
                       have c164b1 : (t486 != x19_127) = true := bne_iff_ne.mpr c164
                       obtain rfl := Option.some.inj H
                       exact absurd HR_.out (by simp)
                     ·rw [if_neg c163] at H
                      have c163b0 : (t487 == 0) = false := beq_eq_false_iff_ne.mpr c163
                      have c163b1 : (t487 != 0) = true := bne_iff_ne.mpr c163
                      obtain rfl := Option.some.inj H
                      exact absurd HR_.out (by simp)
                    ·rw [if_neg c162] at H
                     have c162b0 : (t485 == (wrap64 ((wrap64 (Int.tmod ((rd_T52 x9_2 x97_3).f0) 2147483648)) - 1073741824))) = false := beq_eq_false_iff_ne.mpr c162
                     have c162b1 : (t485 != (wrap64 ((wrap64 (Int.tmod ((rd_T52 x9_2 x97_3).f0) 2147483648)) - 1073741824))) = true := bne_iff_ne.mpr c162
                     obtain rfl := Option.some.inj H
                     exact absurd HR_.out (by simp)
                   ·rw [if_neg c160] at H
                    exact absurd H (by simp)
                  ·rw [if_neg c159] at H
                   exact absurd H (by simp)
                 ·rw [if_neg c158] at H
                  have c158b0 : decide (((rd_T52 x9_2 x97_3).f1) < (-1)) = false := decide_eq_false c158
                  clear c158
                  by_cases c173 : 0 ≤ x97_3
                  ·rw [if_pos c173] at H
                   have c173b0 : decide (0 ≤ x97_3) = true := decide_eq_true c173
                   clear c173
                   by_cases c174 : x97_3 < (x10_2.length : Int)
                   ·rw [if_pos c174] at H
                    have c174b0 : decide (x97_3 < (x10_2.length : Int)) = true := decide_eq_true c174
                    clear c174
                    replace H := Option.bind_eq_some_iff.mp H
                    obtain ⟨⟨t489, t490, t491⟩, A1750, H⟩ := H
                    replace H : (if t489 = ((rd_T52 x9_2 x97_3).f0) then (if t491 = 0 then (if t490 = x19_127 then (sBB.l1 kj127 t443 x10_2 x9_2 (x9_2.length : Int) (wrap64 (x97_3 + 1)) x454000_2 x454001_2 t471 t474) else (some false)) else (some false)) else (some false)) = some r := H
                    have A175 := aM A1750
                    clear A1750
                    by_cases c176 : t489 = ((rd_T52 x9_2 x97_3).f0)
                    ·rw [if_pos c176] at H
                     have c176b0 : (t489 == ((rd_T52 x9_2 x97_3).f0)) = true := beq_iff_eq.mpr c176
                     have c176b1 : (t489 != ((rd_T52 x9_2 x97_3).f0)) = false := bne_eq_false_iff_eq.mpr c176
                     clear c176
                     by_cases c177 : t491 = 0
                     ·rw [if_pos c177] at H
                      have c177b0 : (t491 == 0) = true := beq_iff_eq.mpr c177
                      have c177b1 : (t491 != 0) = false := bne_eq_false_iff_eq.mpr c177
                      clear c177
                      by_cases c178 : t490 = x19_127
                      ·rw [if_pos c178] at H
                       have c178b0 : (t490 == x19_127) = true := beq_iff_eq.mpr c178
                       have c178b1 : (t490 != x19_127) = false := bne_eq_false_iff_eq.mpr c178
                       clear c178
                       have H' := aM H
                       clear H
                       have hnb179 := NB478_441.out
                       have hnc179 := NB441_478.out
                       have hnb180 := NB478_442.out
                       have hnc180 := NB442_478.out
                       have hnb181 := NB478_453.out
                       have hnc181 := NB453_478.out
                       have hnb182 := NB478_476.out
                       have hnc182 := NB476_478.out
                       have hcz183_0 : wc.cell? ⟨gb478, 0, none⟩ = some (.int .u64 ((rd_T52 x9_2 x97_3).f0)) := (blk_cell BK478.out 0).trans rfl
                       have hcz183_1 : wc.cell? ⟨gb478, 1, none⟩ = some (.int .i64 ((rd_T52 x9_2 x97_3).f1)) := (blk_cell BK478.out 1).trans rfl
                       have hfz183_0 := blk_frozen BK478.out 0
                       have hfz183_1 := blk_frozen BK478.out 1
                       try go_wp2
                       have n0_ := aM (R_drew HO_10.out)
                       have n1_ := aM (R_drew HO_95.out)
                       have n2_ := aM (V_drew HO_442000.out)
                       have n3_ := aM (V_drew HO_443000.out)
                       have n4_ := aM (R_drew HO_477000.out)
                       have n5_ := aM (kD BK441.out)
                       have n6_ := aM (kD BK442.out)
                       have n7_ := aM (kD BK453.out)
                       have n8_ := aM (kD BK476.out)
                       have n9_ := aM (kD BK478.out)
                       have n10_ := aM (bD HB.out)
                       clear HO_10
                       clear HO_95
                       clear HO_442000
                       clear HO_443000
                       clear HO_477000
                       clear BK441
                       clear BK442
                       clear BK453
                       clear BK476
                       clear BK478
                       clear HB
                       have HO_10 := n0_
                       have HO_95 := n1_
                       have HO_442000 := n2_
                       have HO_443000 := n3_
                       have HO_477000 := n4_
                       have BK441 := n5_
                       have BK442 := n6_
                       have BK453 := n7_
                       have BK476 := n8_
                       have BK478 := n9_
                       have HB := n10_
                       clear n0_ n1_ n2_ n3_ n4_ n5_ n6_ n7_ n8_ n9_ n10_
                       have p488 : 0 ≤ (x97_3 : Int) := of_decide_eq_true (by first | (with_reducible assumption) | assumption)
                       have q488 : x97_3 < (x10_2.length : Int) := of_decide_eq_true (by first | (with_reducible assumption) | assumption)
                       obtain ⟨ad488, e488, hx488_0⟩ := Kd.at_int (R_reads' HO_10.out).2.2 x97_3 p488 q488
                       cases e488
                       replace p488 := eq_true p488
                       replace q488 := eq_true q488
                       refine start_ (n := 13) (S := fun w' => w'.cell? ⟨gb476, 0, none⟩ = some (.slice Ao119 t471.length co119) ∧ w'.cell? ⟨gb476, 1, none⟩ = some (.int .i64 t474) ∧ w'.cell? (ad488.add (x97_3).toNat) = some (.int .i64 (rd x10_2 x97_3))) (ds := []) #[false, false, false, false, false, false, false, false, false, false, false, false, false] (by kernel_rfl) rfl rfl ⟨(blk_cell BK476.out 0).trans rfl, (blk_cell BK476.out 1).trans rfl, hx488_0⟩ (fun hHeld => ?_); refine with_tabW sBB.tab25 sBB.bits25 (fun HT_ HW_ => ?_)
                       generalize wc.drew = w184 at HO_10 HO_95 HO_442000 HO_443000 HO_477000 BK441 BK442 BK453 BK476 BK478 HB hx488_0 hHeld ⊢
                       refine pure_ (i := 1) (N := some 116) (v := ?_) (a' := ?_) #[false, true, false, false, false, false, false, false, false, false, false, false, false] rfl rfl (any_of HT_.out (by kernel_rfl)) (fun _ _ _ h => h) (Or.inl ⟨by rfl, ?_⟩) ?_ ?_
                       rotate_left
                       ·intro w'
                        go_simp
                        with_reducible rfl
                       rotate_left
                       ·simp only [Act.put, sA, sZ, sS, i64_w, i32_w]
                        rfl
                       refine pure_ (i := 2) (N := some 117) (v := ?_) (a' := ?_) #[false, true, true, false, false, false, false, false, false, false, false, false, false] rfl rfl (any_of HT_.out (by kernel_rfl)) (fun _ _ _ h => h) (Or.inl ⟨by rfl, ?_⟩) ?_ ?_
                       rotate_left
                       ·intro w'
                        go_simp
                        with_reducible rfl
                       rotate_left
                       ·simp only [Act.put, sA, sZ, sS, i64_w, i32_w]
                        rfl
                       refine pure_ (i := 3) (N := some 118) (v := ?_) (a' := ?_) #[false, true, true, true, false, false, false, false, false, false, false, false, false] rfl rfl (any_of HT_.out (by kernel_rfl)) (fun _ _ _ h => h) (Or.inl ⟨by rfl, ?_⟩) ?_ ?_
                       rotate_left
                       ·intro w'
                        go_simp
                        with_reducible rfl
                       rotate_left
                       ·simp only [Act.put, sA, sZ, sS, i64_w, i32_w]
                        rfl
                       refine take_ (i := 0) (N := some 115) (v := ?_) (a' := ?_) #[true, true, true, true, false, false, false, false, false, false, false, false, false] rfl rfl (take_ofW HT_.out HW_.out (by kernel_rfl)) (fun _ _ _ h => h) (Or.inl ⟨by rfl, ?_⟩) hHeld ?_ ?_
                       rotate_left
                       ·rintro w' ⟨s0, s1, s2⟩
                        go_simp
                        with_reducible rfl
                       rotate_left
                       ·simp only [Act.put, sA, sZ, sS, i64_w, i32_w]
                        rfl
                       refine take_ (i := 4) (N := some 119) (v := ?_) (a' := ?_) #[true, true, true, true, true, false, false, false, false, false, false, false, false] rfl rfl (take_ofW HT_.out HW_.out (by kernel_rfl)) (fun _ _ _ h => h) (Or.inl ⟨by rfl, ?_⟩) hHeld ?_ ?_
                       rotate_left
                       ·rintro w' ⟨s0, s1, s2⟩
                        go_simp
                        with_reducible rfl
                       rotate_left
                       ·simp only [Act.put, sA, sZ, sS, i64_w, i32_w]
                        rfl
                       refine one_ (i := 5) (N := some 120) #[true, true, true, true, true, true, false, false, false, false, false, false, false] rfl rfl (one_of HT_.out (by kernel_rfl)) (by decide) (fun K hK => ?_)
                       refine goes_ Try.func22 (by kernel_rfl) rfl #[.agg #[.slice Ao119 t471.length co119, .int .i64 t474], .int .i64 (rd x10_2 x97_3)] (by rfl) rfl rfl (by (try simp only [List.map_toArray, List.map_cons, List.map_nil]); first | done | rfl | (simp only [List.length_drop, List.length_take]; rfl)) ?_
                       with_reducible refine (bits_GetCode.calls kj127 _ _ t471 t474 (rd x10_2 x97_3) t489 t490 t491 _ ?side1 ?side2 A175.out).mono ?_
                       (case side1 => repeat (first | exact (R_reads' HO_477000.out).2.2 | (with_reducible refine C_alloc ?_ _) | (with_reducible refine C_drewN ?_ _) | (with_reducible refine C_drew ?_)))
                       (case side2 => exact (R_reads' HO_477000.out).2.1)
                       rintro e w185 ⟨rfl, hb⟩
                       have HS2_ := (hb.cell (World.block_lt_of_cell? _ _ (hHeld.2.2))).trans (hHeld.2.2)
                       refine ⟨_, rfl, ?_⟩
                       have n0_ := aM (R_below (by (with_reducible repeat (first | apply rA | apply rN | apply rD)); exact HO_10.out) hb)
                       have n1_ := aM (R_below (by (with_reducible repeat (first | apply rA | apply rN | apply rD)); exact HO_95.out) hb)
                       have n2_ := aM (V_below (by (with_reducible repeat (first | apply vA | apply vN | apply vD)); exact HO_442000.out) hb)
                       have n3_ := aM (V_below (by (with_reducible repeat (first | apply vA | apply vN | apply vD)); exact HO_443000.out) hb)
                       have n4_ := aM (R_below (by (with_reducible repeat (first | apply rA | apply rN | apply rD)); exact HO_477000.out) hb)
                       have n5_ := aM (blk_below (g := gb441) (o := .cells #[.slice A0_0 l0_0.length c0_0, .int .i64 a0_1] 24 (0, 0)) (by (with_reducible repeat (first | refine kN ?_ _ | refine kD ?_ | refine kA ?_ _)); exact BK441.out) hb)
                       have n6_ := aM (blk_below (g := gb442) (o := .cells #[.slice A2_0 l2_0.length c2_0, .int .i64 a2_1] 24 (0, 0)) (by (with_reducible repeat (first | refine kN ?_ _ | refine kD ?_ | refine kA ?_ _)); exact BK442.out) hb)
                       have n7_ := aM (blk_below (g := gb453) (o := .cells #[.slice Ao113 x454000_2.length co113, .int .i64 x454001_2] 24 (0, 0)) (by (with_reducible repeat (first | refine kN ?_ _ | refine kD ?_ | refine kA ?_ _)); exact BK453.out) hb)
                       have n8_ := aM (blk_below (g := gb476) (o := .cells #[.slice Ao119 t471.length co119, .int .i64 t474] 24 (0, 0)) (by (with_reducible repeat (first | refine kN ?_ _ | refine kD ?_ | refine kA ?_ _)); exact BK476.out) hb)
                       have n9_ := aM (blk_below (g := gb478) (o := .cells #[.int .u64 ((rd_T52 x9_2 x97_3).f0), .int .i64 ((rd_T52 x9_2 x97_3).f1)] 52 (0, 0)) (by (with_reducible repeat (first | refine kN ?_ _ | refine kD ?_ | refine kA ?_ _)); exact BK478.out) hb)
                       have n10_ := aM (below_step (by repeat (first | (with_reducible first | exact HB.out | apply bA | apply bN | apply bD | refine bS ?_ GE441.out | refine bS ?_ GE442.out | refine bS ?_ GE453.out | refine bS ?_ GE476.out | refine bS ?_ GE478.out) | exact HB.out)) hb)
                       clear HO_10
                       clear HO_95
                       clear HO_442000
                       clear HO_443000
                       clear HO_477000
                       clear BK441
                       clear BK442
                       clear BK453
                       clear BK476
                       clear BK478
                       clear HB
                       have HO_10 := n0_
                       have HO_95 := n1_
                       have HO_442000 := n2_
                       have HO_443000 := n3_
                       have HO_477000 := n4_
                       have BK441 := n5_
                       have BK442 := n6_
                       have BK453 := n7_
                       have BK476 := n8_
                       have BK478 := n9_
                       have HB := n10_
                       clear n0_ n1_ n2_ n3_ n4_ n5_ n6_ n7_ n8_ n9_ n10_
                       (try clear hb)
                       (try clear hb2)
                       (try clear hk)
                       (try clear hi)
                       refine hK.out _ _ ⟨(blk_cell BK476.out 0).trans rfl, (blk_cell BK476.out 1).trans rfl, HS2_⟩ (fun hHeld => ?_)
                       clear hK K
                       refine norm_ (a' := ?_) ?_ ?_
                       rotate_left
                       ·show Act.put _ (some 120) _ = _
                        simp only [Act.put, sA, sZ, sS, i64_w, i32_w]
                        rfl
                       refine pure_ (i := 6) (N := some 114) (v := ?_) (a' := ?_) #[true, true, true, true, true, true, true, false, false, false, false, false, false] rfl rfl (any_of HT_.out (by kernel_rfl)) (fun _ _ _ h => h) (Or.inl ⟨by rfl, ?_⟩) ?_ ?_
                       rotate_left
                       ·intro w'
                        go_simp
                        with_reducible rfl
                       rotate_left
                       ·simp only [Act.put, sA, sZ, sS, i64_w, i32_w]
                        rfl
                       refine pure_ (i := 7) (N := some 121) (v := ?_) (a' := ?_) #[true, true, true, true, true, true, true, true, false, false, false, false, false] rfl rfl (any_of HT_.out (by kernel_rfl)) (fun _ _ _ h => h) (Or.inl ⟨by rfl, ?_⟩) ?_ ?_
                       rotate_left
                       ·intro w'
                        go_simp
                        with_reducible rfl
                       rotate_left
                       ·simp only [Act.put, sA, sZ, sS, i64_w, i32_w]
                        rfl
                       refine pure_ (i := 8) (N := some 122) (v := ?_) (a' := ?_) #[true, true, true, true, true, true, true, true, true, false, false, false, false] rfl rfl (any_of HT_.out (by kernel_rfl)) (fun _ _ _ h => h) (Or.inl ⟨by rfl, ?_⟩) ?_ ?_
                       rotate_left
                       ·intro w'
                        go_simp
                        with_reducible rfl
                       rotate_left
                       ·simp only [Act.put, sA, sZ, sS, i64_w, i32_w]
                        rfl
                       refine pure_ (i := 9) (N := some 123) (v := ?_) (a' := ?_) #[true, true, true, true, true, true, true, true, true, true, false, false, false] rfl rfl (any_of HT_.out (by kernel_rfl)) (fun _ _ _ h => h) (Or.inl ⟨by rfl, ?_⟩) ?_ ?_
                       rotate_left
                       ·intro w'
                        go_simp
                        with_reducible rfl
                       rotate_left
                       ·simp only [Act.put, sA, sZ, sS, i64_w, i32_w]
                        rfl
                       refine pure_ (i := 10) (N := some 25) (v := ?_) (a' := ?_) #[true, true, true, true, true, true, true, true, true, true, true, false, false] rfl rfl (any_of HT_.out (by kernel_rfl)) (fun _ _ _ h => h) (Or.inl ⟨by rfl, ?_⟩) ?_ ?_
                       rotate_left
                       ·intro w'
                        go_simp
                        with_reducible rfl
                       rotate_left
                       ·simp only [Act.put, sA, sZ, sS, i64_w, i32_w]
                        rfl
                       refine pure_ (i := 11) (N := some 26) (v := ?_) (a' := ?_) #[true, true, true, true, true, true, true, true, true, true, true, true, false] rfl rfl (any_of HT_.out (by kernel_rfl)) (fun _ _ _ h => h) (Or.inl ⟨by rfl, ?_⟩) ?_ ?_
                       rotate_left
                       ·intro w'
                        go_simp
                        with_reducible rfl
                       rotate_left
                       ·simp only [Act.put, sA, sZ, sS, i64_w, i32_w]
                        rfl
                       refine pure_ (i := 12) (N := some 27) (v := ?_) (a' := ?_) #[true, true, true, true, true, true, true, true, true, true, true, true, true] rfl rfl (any_of HT_.out (by kernel_rfl)) (fun _ _ _ h => h) (Or.inl ⟨by rfl, ?_⟩) ?_ ?_
                       rotate_left
                       ·intro w'
                        go_simp
                        with_reducible rfl
                       rotate_left
                       ·simp only [Act.put, sA, sZ, sS, i64_w, i32_w]
                        rfl
                       refine done_ (done_of HT_.out (by kernel_rfl)) ?_
                       have hcz186_0 : w185.cell? ⟨gb478, 0, none⟩ = some (.int .u64 ((rd_T52 x9_2 x97_3).f0)) := (blk_cell BK478.out 0).trans rfl
                       have hcz186_1 : w185.cell? ⟨gb478, 1, none⟩ = some (.int .i64 ((rd_T52 x9_2 x97_3).f1)) := (blk_cell BK478.out 1).trans rfl
                       have hfz186_0 := blk_frozen BK478.out 0
                       have hfz186_1 := blk_frozen BK478.out 1
                       try go_wp2
                       go_roundg kj127
                       case measure => have := HJ4.out; have := HK2.out; have := HK3.out; have := HJ127.out; omega
                       case rel => exact ⟨(wrap64 (x97_3 + 1)), (by first | rfl | (simp; done) | (simp [*]; done)), H', ⟨by have := HJ4.out; have := HK2.out; have := HK3.out; have := HJ127.out; omega⟩, ⟨by (with_reducible repeat (first | apply rA | apply rN | apply rD)); exact HO_10.out⟩, ⟨by (with_reducible repeat (first | apply rA | apply rN | apply rD)); exact R_mono HO_95.out (fun _ hk => hk.1)⟩, ⟨by (with_reducible repeat (first | apply vA | apply vN | apply vD)); exact V_mono HO_442000.out (fun _ hk => ⟨hk.1, ⟨hk.2.1, ⟨hk.2.2.1, ⟨hk.2.2.2.1, ⟨hk.2.2.2.2.1, ⟨hk.2.2.2.2.2.1, ⟨hk.2.2.2.2.2.2.1, hk.2.2.2.2.2.2.2.1⟩⟩⟩⟩⟩⟩⟩)⟩, ⟨by (with_reducible repeat (first | apply vA | apply vN | apply vD)); exact V_mono HO_443000.out (fun _ hk => ⟨hk.1, ⟨hk.2.1, ⟨hk.2.2.1, ⟨hk.2.2.2.1, ⟨hk.2.2.2.2.1, ⟨hk.2.2.2.2.2.1, ⟨hk.2.2.2.2.2.2.1, hk.2.2.2.2.2.2.2.1⟩⟩⟩⟩⟩⟩⟩)⟩, ⟨by (with_reducible repeat (first | apply rA | apply rN | apply rD)); exact HO_477000.out⟩, ⟨by (with_reducible repeat (first | refine kN ?_ _ | refine kD ?_ | refine kA ?_ _)); exact BK441.out⟩, ⟨by (with_reducible repeat (first | refine kN ?_ _ | refine kD ?_ | refine kA ?_ _)); exact BK442.out⟩, ⟨by (with_reducible repeat (first | refine kN ?_ _ | refine kD ?_ | refine kA ?_ _)); exact BK453.out⟩, ⟨by (with_reducible repeat (first | refine kN ?_ _ | refine kD ?_ | refine kA ?_ _)); exact BK476.out⟩, ⟨by repeat (first | (with_reducible first | exact HB.out | apply bA | apply bN | apply bD | refine bS ?_ GE441.out | refine bS ?_ GE442.out | refine bS ?_ GE453.out | refine bS ?_ GE476.out | refine bS ?_ GE478.out) | exact HB.out)⟩⟩
                      ·rw [if_neg c178] at H
                       have c178b0 : (t490 == x19_127) = false := beq_eq_false_iff_ne.mpr c178
                       have c178b1 : (t490 != x19_127) = true := bne_iff_ne.mpr c178
                       obtain rfl := Option.some.inj H
                       exact absurd HR_.out (by simp)
                     ·rw [if_neg c177] at H
                      have c177b0 : (t491 == 0) = false := beq_eq_false_iff_ne.mpr c177
                      have c177b1 : (t491 != 0) = true := bne_iff_ne.mpr c177
                      obtain rfl := Option.some.inj H
                      exact absurd HR_.out (by simp)
                    ·rw [if_neg c176] at H
                     have c176b0 : (t489 == ((rd_T52 x9_2 x97_3).f0)) = false := beq_eq_false_iff_ne.mpr c176
                     have c176b1 : (t489 != ((rd_T52 x9_2 x97_3).f0)) = true := bne_iff_ne.mpr c176
                     obtain rfl := Option.some.inj H
                     exact absurd HR_.out (by simp)
                   ·rw [if_neg c174] at H
                    exact absurd H (by simp)
                  ·rw [if_neg c173] at H
                   exact absurd H (by simp)
             ·rw [if_neg c127] at H
              exact absurd H (by simp)
            ·rw [if_neg c126] at H
             exact absurd H (by simp)
           ·rw [if_neg c125] at H
            have c125b0 : decide (x97_3 < (x9_2.length : Int)) = false := decide_eq_false c125
            clear c125
            obtain rfl := Option.some.inj H
            go_wp2
            go_ret
            exact ⟨by first | rfl | (simp [errW_none, errW_some] <;> rfl) | (simp [*, errW_none, errW_some] <;> rfl) | (simp [wrap64]; done), by repeat (first | (with_reducible first | exact HB.out | apply bA | apply bN | apply bD | refine bS ?_ GE441.out | refine bS ?_ GE442.out | refine bS ?_ GE453.out | refine bS ?_ GE476.out) | exact HB.out)⟩
        ·rw [if_neg c107] at H
         have c107b0 : (t475 == 0) = false := beq_eq_false_iff_ne.mpr c107
         have c107b1 : (t475 != 0) = true := bne_iff_ne.mpr c107
         by_cases c187 : t443 = true
         ·subst c187
          have H1 : (some (t475 == 2)) = some r := by rw [if_pos rfl] at H; exact H
          clear H
          have H := H1
          clear H1
          obtain rfl := Option.some.inj H
          have hnb188 := NB453_441.out
          have hnc188 := NB441_453.out
          have hnb189 := NB453_442.out
          have hnc189 := NB442_453.out
          have hcz190_0 : wr.cell? ⟨gb453, 0, none⟩ = some (u454000) := (blk_cell BK453.out 0).trans rfl
          have hcz190_1 : wr.cell? ⟨gb453, 1, none⟩ = some (.int .i64 x454001_2) := (blk_cell BK453.out 1).trans rfl
          have hfz190_0 := blk_frozen BK453.out 0
          have hfz190_1 := blk_frozen BK453.out 1
          have hnb191 := NB442_441.out
          have hnc191 := NB441_442.out
          have hcz192_0 : wr.cell? ⟨gb442, 0, none⟩ = some (.slice A2_0 l2_0.length c2_0) := (blk_cell BK442.out 0).trans rfl
          have hcz192_1 : wr.cell? ⟨gb442, 1, none⟩ = some (.int .i64 a2_1) := (blk_cell BK442.out 1).trans rfl
          have hfz192_0 := blk_frozen BK442.out 0
          have hfz192_1 := blk_frozen BK442.out 1
          obtain ⟨Ao193, co193, eo193⟩ := R_slice HO_454000.out
          subst eo193
          go_wp2_with (first | ((with_reducible refine gate_dst (N := 84) rfl ?_); (try (refine gate_guard (by rfl) ?_; dsimp only)); refine N_lit k24 _ 24 ?hg (N' := 84) ?hd (xs := ([(⟨x454000_2, x454001_2⟩ : S24), (⟨l2_0, a2_1⟩ : S24)] : List (S24))) (inner := [.slice Ao193 x454000_2.length co193, .int .i64 x454001_2, .slice A2_0 l2_0.length c2_0, .int .i64 a2_1]) (ok := (fun k_ => ((P0_0_ k_ ∨ P2_0_ k_) ∨ w.heap.size ≤ k_) ∧ some k_ ≠ (u9 : Value).ownBlock ∧ some k_ ≠ (u10 : Value).ownBlock ∧ k_ ≠ gb441 ∧ k_ ≠ gb442 ∧ k_ ≠ gb453)) (okp := (fun k_ => ((P0_0_ k_ ∨ P2_0_ k_) ∨ w.heap.size ≤ k_) ∧ some k_ ≠ (u9 : Value).ownBlock ∧ some k_ ≠ (u10 : Value).ownBlock ∧ k_ ≠ gb441 ∧ k_ ≠ gb442 ∧ k_ ≠ gb453)) ?hr ?hp (fun _ hk => hk) ((show ∀ k_, wr.heap.size ≤ k_ → (fun k_ => ((P0_0_ k_ ∨ P2_0_ k_) ∨ w.heap.size ≤ k_) ∧ some k_ ≠ (u9 : Value).ownBlock ∧ some k_ ≠ (u10 : Value).ownBlock ∧ k_ ≠ gb441 ∧ k_ ≠ gb442 ∧ k_ ≠ gb453) k_ from fun k_ hk => ⟨(.inr (Nat.le_trans (below_size (by repeat (first | (with_reducible first | exact HB.out | apply bA | apply bN | apply bD | refine bS ?_ GE441.out | refine bS ?_ GE442.out | refine bS ?_ GE453.out) | exact HB.out))) hk)), Kd.fresh' (R_lt (by (with_reducible repeat (first | apply rA | apply rN | apply rD)); exact HO_9.out)) k_ hk, Kd.fresh' (R_lt (by (with_reducible repeat (first | apply rA | apply rN | apply rD)); exact HO_10.out)) k_ hk, Kd.freshB (g := gb441) (o := .cells #[.slice A0_0 l0_0.length c0_0, .int .i64 a0_1] 24 (0, 0)) (by (with_reducible repeat (first | refine kN ?_ _ | refine kD ?_ | refine kA ?_ _)); exact BK441.out) k_ hk, Kd.freshB (g := gb442) (o := .cells #[.slice A2_0 l2_0.length c2_0, .int .i64 a2_1] 24 (0, 0)) (by (with_reducible repeat (first | refine kN ?_ _ | refine kD ?_ | refine kA ?_ _)); exact BK442.out) k_ hk, Kd.freshB (g := gb453) (o := .cells #[.slice Ao193 x454000_2.length co193, .int .i64 x454001_2] 24 (0, 0)) (by (with_reducible repeat (first | refine kN ?_ _ | refine kD ?_ | refine kA ?_ _)); exact BK453.out) k_ hk⟩) _ (Nat.le_refl _)) (Below.refl _ _) (Nat.le_refl _) (by simp) ?_; (case hd => rfl); (case hg => rfl); (case hr => first | (go_simp; done) | (go_simp; rfl)); (case hp => exact (Reps.c2 (show Kd.FK k24 _ _ (⟨x454000_2, x454001_2⟩ : S24) [.slice Ao193 x454000_2.length co193, .int .i64 x454001_2] from (k24_mkF _ _ (⟨x454000_2, x454001_2⟩ : S24) (R_reads' (R_mono (ok' := (fun k_ => ((P0_0_ k_ ∨ P2_0_ k_) ∨ w.heap.size ≤ k_) ∧ some k_ ≠ (u9 : Value).ownBlock ∧ some k_ ≠ (u10 : Value).ownBlock ∧ k_ ≠ gb441 ∧ k_ ≠ gb442 ∧ k_ ≠ gb453)) (R_types (R_types (R_types (R_apart' (R_apart' (HO_454000.out) (R_typed HO_9.out) (by decide)) (R_typed HO_10.out) (by decide)) BK441.out (by decide)) BK442.out (by decide)) BK453.out (by decide)) (fun k_ hk => ⟨(.inr (hk.1.1.1.1.1)), ⟨hk.1.1.1.1.2, ⟨hk.1.1.1.2, ⟨hk.1.1.2, ⟨hk.1.2, hk.2⟩⟩⟩⟩⟩))).2.1 (R_F (R_mono (ok' := (fun k_ => ((P0_0_ k_ ∨ P2_0_ k_) ∨ w.heap.size ≤ k_) ∧ some k_ ≠ (u9 : Value).ownBlock ∧ some k_ ≠ (u10 : Value).ownBlock ∧ k_ ≠ gb441 ∧ k_ ≠ gb442 ∧ k_ ≠ gb453)) (R_types (R_types (R_types (R_apart' (R_apart' (HO_454000.out) (R_typed HO_9.out) (by decide)) (R_typed HO_10.out) (by decide)) BK441.out (by decide)) BK442.out (by decide)) BK453.out (by decide)) (fun k_ hk => ⟨(.inr (hk.1.1.1.1.1)), ⟨hk.1.1.1.1.2, ⟨hk.1.1.1.2, ⟨hk.1.1.2, ⟨hk.1.2, hk.2⟩⟩⟩⟩⟩))))) (Reps.c2 (show Kd.FK k24 _ _ (⟨l2_0, a2_1⟩ : S24) [.slice A2_0 l2_0.length c2_0, .int .i64 a2_1] from (k24_mkF _ _ (⟨l2_0, a2_1⟩ : S24) (V_reads' (V_mono (ok' := (fun k_ => ((P0_0_ k_ ∨ P2_0_ k_) ∨ w.heap.size ≤ k_) ∧ some k_ ≠ (u9 : Value).ownBlock ∧ some k_ ≠ (u10 : Value).ownBlock ∧ k_ ≠ gb441 ∧ k_ ≠ gb442 ∧ k_ ≠ gb453)) (HO_443000.out) (fun k_ hk => ⟨hk.1, ⟨hk.2.1, ⟨hk.2.2.1, ⟨hk.2.2.2.2.1, ⟨hk.2.2.2.2.2.1, hk.2.2.2.2.2.2⟩⟩⟩⟩⟩))).2.1 (V_F (V_mono (ok' := (fun k_ => ((P0_0_ k_ ∨ P2_0_ k_) ∨ w.heap.size ≤ k_) ∧ some k_ ≠ (u9 : Value).ownBlock ∧ some k_ ≠ (u10 : Value).ownBlock ∧ k_ ≠ gb441 ∧ k_ ≠ gb442 ∧ k_ ≠ gb453)) (HO_443000.out) (fun k_ hk => ⟨hk.1, ⟨hk.2.1, ⟨hk.2.2.1, ⟨hk.2.2.2.2.1, ⟨hk.2.2.2.2.2.1, hk.2.2.2.2.2.2⟩⟩⟩⟩⟩))))) (Reps.none _ _)))); intro v469 w194 ho195 hb hg_ hnew_; clear hg_ hnew_; (first | rw [← Ny468.out] at ho195 | (simp only [Int.reduceToNat] at ho195; rw [← Ny468.out] at ho195)); have n0_ := aM (R_below (by (with_reducible repeat (first | apply rA | apply rN | apply rD)); exact HO_9.out) hb); have n1_ := aM (R_below (by (with_reducible repeat (first | apply rA | apply rN | apply rD)); exact HO_10.out) hb); have n2_ := aM (V_elder' (by (with_reducible repeat (first | apply vA | apply vN | apply vD)); exact HO_442000.out) (by first | exact N_base ho195 | exact S_base ho195) hb); have n3_ := aM (V_elder' (by (with_reducible repeat (first | apply vA | apply vN | apply vD)); exact HO_443000.out) (by first | exact N_base ho195 | exact S_base ho195) hb); have n4_ := aM (N_lower ho195 (below_size (by repeat (first | (with_reducible first | exact HB.out | apply bA | apply bN | apply bD | refine bS ?_ GE441.out | refine bS ?_ GE442.out | refine bS ?_ GE453.out) | exact HB.out)))); have n5_ := aM (blk_below (g := gb441) (o := .cells #[.slice A0_0 l0_0.length c0_0, .int .i64 a0_1] 24 (0, 0)) (by (with_reducible repeat (first | refine kN ?_ _ | refine kD ?_ | refine kA ?_ _)); exact BK441.out) hb); have n6_ := aM (blk_below (g := gb442) (o := .cells #[.slice A2_0 l2_0.length c2_0, .int .i64 a2_1] 24 (0, 0)) (by (with_reducible repeat (first | refine kN ?_ _ | refine kD ?_ | refine kA ?_ _)); exact BK442.out) hb); have n7_ := aM (blk_below (g := gb453) (o := .cells #[.slice Ao193 x454000_2.length co193, .int .i64 x454001_2] 24 (0, 0)) (by (with_reducible repeat (first | refine kN ?_ _ | refine kD ?_ | refine kA ?_ _)); exact BK453.out) hb); have n8_ := aM (below_step (by repeat (first | (with_reducible first | exact HB.out | apply bA | apply bN | apply bD | refine bS ?_ GE441.out | refine bS ?_ GE442.out | refine bS ?_ GE453.out) | exact HB.out)) hb); clear HO_9; clear HO_10; clear HO_442000; clear HO_443000; clear BK441; clear BK442; clear BK453; clear HB; clear HO_454000; have HO_9 := n0_; have HO_10 := n1_; have HO_442000 := n2_; have HO_443000 := n3_; have HO470 := n4_; have BK441 := n5_; have BK442 := n6_; have BK453 := n7_; have HB := n8_; clear n0_ n1_ n2_ n3_ n4_ n5_ n6_ n7_ n8_; clear hb ho195; obtain ⟨Ao196, co196, eo196⟩ := N_slice HO470.out; subst eo196) | ((with_reducible refine gate_callee (f := 23) rfl ?_); refine goesL_ (some 85) rfl rfl Try.func23 (by kernel_rfl) rfl #[.slice Ao196 y468.length co196] rfl (by (try simp only [List.map_toArray, List.map_cons, List.map_nil]); first | done | rfl | (simp only [List.length_drop, List.length_take]; rfl)) ?_; (with_reducible refine (bits_Join.calls k2 _ _ y468 t471 t474 t475 _ ?side1 ?side2 A106.out).mono ?_); (case side1 => repeat (first | exact (N_reads' HO470.out).2.2 | (with_reducible refine C_alloc ?_ _) | (with_reducible refine C_drewN ?_ _) | (with_reducible refine C_drew ?_))); (case side2 => exact (N_reads' HO470.out).2.1); rintro e w197 ⟨v472, rfl, ho0, hb⟩; refine ⟨_, rfl, ?_⟩; have n0_ := aM (R_below (by (with_reducible repeat (first | apply rA | apply rN | apply rD)); exact HO_9.out) hb); have n1_ := aM (R_below (by (with_reducible repeat (first | apply rA | apply rN | apply rD)); exact HO_10.out) hb); have n2_ := aM (V_elder' (by (with_reducible repeat (first | apply vA | apply vN | apply vD)); exact HO_442000.out) (R_base ho0) hb); have n3_ := aM (V_elder' (by (with_reducible repeat (first | apply vA | apply vN | apply vD)); exact HO_443000.out) (R_base ho0) hb); have n4_ := aM (N_elder' (by (with_reducible repeat (first | apply N_alloc | apply N_drewN | apply N_drew)); exact HO470.out) (R_base ho0) hb); have n5_ := aM (R_lower (R_newM (M := fun k_ => (w.heap.size ≤ k_)) ho0 (below_size (by repeat (first | (with_reducible first | exact HB.out | apply bA | apply bN | apply bD | refine bS ?_ GE441.out | refine bS ?_ GE442.out | refine bS ?_ GE453.out) | exact HB.out))) (fun k_ h_ => h_)) (below_size (by repeat (first | (with_reducible first | exact HB.out | apply bA | apply bN | apply bD | refine bS ?_ GE441.out | refine bS ?_ GE442.out | refine bS ?_ GE453.out) | exact HB.out)))); have n6_ := aM (blk_below (g := gb441) (o := .cells #[.slice A0_0 l0_0.length c0_0, .int .i64 a0_1] 24 (0, 0)) (by (with_reducible repeat (first | refine kN ?_ _ | refine kD ?_ | refine kA ?_ _)); exact BK441.out) hb); have n7_ := aM (blk_below (g := gb442) (o := .cells #[.slice A2_0 l2_0.length c2_0, .int .i64 a2_1] 24 (0, 0)) (by (with_reducible repeat (first | refine kN ?_ _ | refine kD ?_ | refine kA ?_ _)); exact BK442.out) hb); have n8_ := aM (blk_below (g := gb453) (o := .cells #[.slice Ao193 x454000_2.length co193, .int .i64 x454001_2] 24 (0, 0)) (by (with_reducible repeat (first | refine kN ?_ _ | refine kD ?_ | refine kA ?_ _)); exact BK453.out) hb); have n9_ := aM (below_step (by repeat (first | (with_reducible first | exact HB.out | apply bA | apply bN | apply bD | refine bS ?_ GE441.out | refine bS ?_ GE442.out | refine bS ?_ GE453.out) | exact HB.out)) hb); clear HO_9; clear HO_10; clear HO_442000; clear HO_443000; clear HO470; clear BK441; clear BK442; clear BK453; clear HB; have HO_9 := n0_; have HO_10 := n1_; have HO_442000 := n2_; have HO_443000 := n3_; have HO470 := n4_; have HO473 := n5_; have BK441 := n6_; have BK442 := n7_; have BK453 := n8_; have HB := n9_; clear n0_ n1_ n2_ n3_ n4_ n5_ n6_ n7_ n8_ n9_; (try clear hb); (try clear hb2); (try clear hk); (try clear hi); (try clear ho0)) | ((with_reducible refine gate_dst (N := 15) rfl ?_); (try (refine gate_guard (by rfl) ?_; dsimp only)); refine box_event ?hg (N := 15) ?hd (cs := #[.slice none 0 0, .int .i64 0]) (t := 24) ?hr ?_; (case hd => rfl); (case hg => rfl); (case hr => first | (go_simp; done) | (go_simp; rfl)); intro gb476 hg w198 hbox hb; have n0_ := aM (R_below (by (with_reducible repeat (first | apply rA | apply rN | apply rD)); exact HO_9.out) hb); have n1_ := aM (R_below (by (with_reducible repeat (first | apply rA | apply rN | apply rD)); exact HO_10.out) hb); have n2_ := aM (V_below (V_elderB (by (with_reducible repeat (first | apply vA | apply vN | apply vD)); exact HO_442000.out) gb476 (Nat.le_of_eq hg.symm)) hb); have n3_ := aM (V_below (V_elderB (by (with_reducible repeat (first | apply vA | apply vN | apply vD)); exact HO_443000.out) gb476 (Nat.le_of_eq hg.symm)) hb); have n4_ := aM (N_below (N_elderB (by (with_reducible repeat (first | apply N_alloc | apply N_drewN | apply N_drew)); exact HO470.out) gb476 (Nat.le_of_eq hg.symm)) hb); have n5_ := aM (R_below (by (with_reducible repeat (first | apply rA | apply rN | apply rD)); exact HO473.out) hb); have n6_ := aM (blk_below (g := gb441) (o := .cells #[.slice A0_0 l0_0.length c0_0, .int .i64 a0_1] 24 (0, 0)) (by (with_reducible repeat (first | refine kN ?_ _ | refine kD ?_ | refine kA ?_ _)); exact BK441.out) hb); have n7_ := aM (blk_below (g := gb442) (o := .cells #[.slice A2_0 l2_0.length c2_0, .int .i64 a2_1] 24 (0, 0)) (by (with_reducible repeat (first | refine kN ?_ _ | refine kD ?_ | refine kA ?_ _)); exact BK442.out) hb); have n8_ := aM (blk_below (g := gb453) (o := .cells #[.slice Ao193 x454000_2.length co193, .int .i64 x454001_2] 24 (0, 0)) (by (with_reducible repeat (first | refine kN ?_ _ | refine kD ?_ | refine kA ?_ _)); exact BK453.out) hb); have n9_ := aM (below_step (by repeat (first | (with_reducible first | exact HB.out | apply bA | apply bN | apply bD | refine bS ?_ GE441.out | refine bS ?_ GE442.out | refine bS ?_ GE453.out) | exact HB.out)) hb); have n10_ := aM (hbox); have n11_ := aM ((by rw [hg]; exact (below_size (by repeat (first | (with_reducible first | exact HB.out | apply bA | apply bN | apply bD | refine bS ?_ GE441.out | refine bS ?_ GE442.out | refine bS ?_ GE453.out) | exact HB.out))) : w.heap.size ≤ gb476)); have n12_ := aM ((by rw [hg]; exact (below_size (by repeat (first | (with_reducible first | exact HB.out | apply bA | apply bN | apply bD | refine bS ?_ GE441.out | refine bS ?_ GE442.out | refine bS ?_ GE453.out) | exact HB.out))) : w.heap.size ≤ gb476)); have n13_ := aM ((by rw [hg]; exact Nat.ne_of_lt (blk_lt (g := gb441) (o := .cells #[.slice A0_0 l0_0.length c0_0, .int .i64 a0_1] 24 (0, 0)) (by (with_reducible repeat (first | refine kN ?_ _ | refine kD ?_ | refine kA ?_ _)); exact BK441.out)) : gb441 ≠ gb476)); have n14_ := aM ((by rw [hg]; exact Nat.ne_of_gt (blk_lt (g := gb441) (o := .cells #[.slice A0_0 l0_0.length c0_0, .int .i64 a0_1] 24 (0, 0)) (by (with_reducible repeat (first | refine kN ?_ _ | refine kD ?_ | refine kA ?_ _)); exact BK441.out)) : gb476 ≠ gb441)); have n15_ := aM ((by rw [hg]; exact Nat.ne_of_lt (blk_lt (g := gb442) (o := .cells #[.slice A2_0 l2_0.length c2_0, .int .i64 a2_1] 24 (0, 0)) (by (with_reducible repeat (first | refine kN ?_ _ | refine kD ?_ | refine kA ?_ _)); exact BK442.out)) : gb442 ≠ gb476)); have n16_ := aM ((by rw [hg]; exact Nat.ne_of_gt (blk_lt (g := gb442) (o := .cells #[.slice A2_0 l2_0.length c2_0, .int .i64 a2_1] 24 (0, 0)) (by (with_reducible repeat (first | refine kN ?_ _ | refine kD ?_ | refine kA ?_ _)); exact BK442.out)) : gb476 ≠ gb442)); have n17_ := aM ((by rw [hg]; exact Nat.ne_of_lt (blk_lt (g := gb453) (o := .cells #[.slice Ao193 x454000_2.length co193, .int .i64 x454001_2] 24 (0, 0)) (by (with_reducible repeat (first | refine kN ?_ _ | refine kD ?_ | refine kA ?_ _)); exact BK453.out)) : gb453 ≠ gb476)); have n18_ := aM ((by rw [hg]; exact Nat.ne_of_gt (blk_lt (g := gb453) (o := .cells #[.slice Ao193 x454000_2.length co193, .int .i64 x454001_2] 24 (0, 0)) (by (with_reducible repeat (first | refine kN ?_ _ | refine kD ?_ | refine kA ?_ _)); exact BK453.out)) : gb476 ≠ gb453)); clear HO_9; clear HO_10; clear HO_442000; clear HO_443000; clear HO470; clear HO473; clear BK441; clear BK442; clear BK453; clear HB; have HO_9 := n0_; have HO_10 := n1_; have HO_442000 := n2_; have HO_443000 := n3_; have HO470 := n4_; have HO473 := n5_; have BK441 := n6_; have BK442 := n7_; have BK453 := n8_; have HB := n9_; have BK476 := n10_; have GW476 := n11_; have GE476 := n12_; have NB441_476 := n13_; have NB476_441 := n14_; have NB442_476 := n15_; have NB476_442 := n16_; have NB453_476 := n17_; have NB476_453 := n18_; clear n0_ n1_ n2_ n3_ n4_ n5_ n6_ n7_ n8_ n9_ n10_ n11_ n12_ n13_ n14_ n15_ n16_ n17_ n18_; clear hb hbox hg; obtain ⟨Ao199, co199, eo199⟩ := R_slice HO473.out; subst eo199; have hnb200 := NB476_441.out; have hnc200 := NB441_476.out; have hnb201 := NB476_442.out; have hnc201 := NB442_476.out; have hnb202 := NB476_453.out; have hnc202 := NB453_476.out; have hcz203_0 : w198.cell? ⟨gb476, 0, none⟩ = some (.slice none 0 0) := (blk_cell BK476.out 0).trans rfl; have hcz203_1 : w198.cell? ⟨gb476, 1, none⟩ = some (.int .i64 0) := (blk_cell BK476.out 1).trans rfl; have hfz203_0 := blk_frozen BK476.out 0; have hfz203_1 := blk_frozen BK476.out 1))
          go_ret
          exact ⟨by first | rfl | (simp [errW_none, errW_some] <;> rfl) | (simp [*, errW_none, errW_some] <;> rfl) | (simp [wrap64]; done), by repeat (first | (with_reducible first | exact HB.out | apply bA | apply bN | apply bD | refine bS ?_ GE441.out | refine bS ?_ GE442.out | refine bS ?_ GE453.out | refine bS ?_ GE476.out) | exact HB.out)⟩
         ·replace c187 := Bool.eq_false_iff.mpr c187
          subst c187
          have H1 : (some false) = some r := by rw [if_neg (show ¬ (false = true) by decide)] at H; exact H
          clear H
          have H := H1
          clear H1
          obtain rfl := Option.some.inj H
          exact absurd HR_.out (by simp)
    ·rw [if_neg c50] at H
     exact absurd H (by simp)

end Go.Proofs.Ytkgcjiaadgnlkaa.PA
-- slim
