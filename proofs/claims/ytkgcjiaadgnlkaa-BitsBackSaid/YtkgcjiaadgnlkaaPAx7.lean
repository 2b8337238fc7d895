-- Written for this claim by this session's own printer (wip/patch_print.py over the kit's print).
import Derived.Test.YtkgcjiaadgnlkaaPAx0
import Derived.Test.YtkgcjiaadgnlkaaPAx4
import Derived.Test.YtkgcjiaadgnlkaaPAx6
namespace Go.Proofs.Ytkgcjiaadgnlkaa.PA
open Go.RowKit Go.Proofs.YtkgcjiaadgnlkaaW.PrintWords Go.Proofs.YtkgcjiaadgnlkaaW.PrintLast Go.Proofs.YtkgcjiaadgnlkaaW.PrintMore
attribute [local go_sem] max2_int min2_int max_two min_two max_three min_three max_four min_four   -- for this text's walks alone
set_option linter.unusedVariables false
set_option linter.unusedSimpArgs false

/-! ### squelchlaw01_live: function 9 -/
def squelchlaw01_live.f (k : Nat)  : Option (Bool) := (bits_PutCode.f k ([] : List Int) 0 0).bind fun bt151 => ((bits_PutCode.f k bt151.1 bt151.2.1 4).bind fun bt157 => ((bits_Put.f k bt157.1 bt157.2.1 5 4).bind fun bt163 => ((bits_GetCode.f k bt163.1 bt163.2.1 1).bind fun bt169 => (if bt151.2.2 = 0 then (if bt157.2.2 = 0 then (if bt163.2.2 = 0 then (if bt151.2.1 = 1 then (if bt157.2.1 = 6 then (if bt163.2.1 = 10 then (if (bt163.1.length : Int) = 2 then (if 0 < (bt163.1.length : Int) then (if (rd bt163.1 0) = 149 then (if 1 < (bt163.1.length : Int) then (if (rd bt163.1 1) = 64 then (if bt169.1 = 4 then (if bt169.2.1 = 6 then (some (bt169.2.2 == 0)) else (some false)) else (some false)) else (some false)) else (none)) else (some false)) else (none)) else (some false)) else (some false)) else (some false)) else (some false)) else (some false)) else (some false)) else (some false)))))
theorem squelchlaw01_live.mono : ∀ k, LeO (squelchlaw01_live.f k ) (squelchlaw01_live.f (k + 1) ) := by
 intro  k
 unfold squelchlaw01_live.f
 repeat' first
   | (with_reducible exact bits_GetCode.mono _ _ _ _)
   | (with_reducible exact bits_Put.mono _ _ _ _ _)
   | (with_reducible exact bits_PutCode.mono _ _ _ _)
   | (with_reducible exact LeO.refl _)
   | (with_reducible exact LeO.none _)
   | (with_reducible refine LeO.ite ?_ ?_)
   | (with_reducible refine LeO.bind ?_ (fun _ => ?_))
   | exact bits_GetCode.mono _ _ _ _
   | exact bits_Put.mono _ _ _ _ _
   | exact bits_PutCode.mono _ _ _ _
   | exact LeO.none _
   | refine LeO.ite ?_ ?_
   | refine LeO.bind ?_ (fun _ => ?_)
set_option maxHeartbeats 8000000 in
set_option maxRecDepth 100000 in
theorem squelchlaw01_live.calls0 (k : Nat)  (r : Bool) (w : World) (h : squelchlaw01_live.f k  = some r) (hr_ : r = true) :
  Calls Try.prog 9 #[] w fun e w' => e = .returned (.bool r) ∧ Below w.heap.size w w' := by
 have HR_ := Aside0.mk hr_
 clear hr_
 have hu24 := Try.underlying24
 have HB := Aside0.mk (Below.refl w.heap.size w)
 have H : ((bits_PutCode.f k ([] : List Int) 0 0).bind fun bt151 => ((bits_PutCode.f k bt151.1 bt151.2.1 4).bind fun bt157 => ((bits_Put.f k bt157.1 bt157.2.1 5 4).bind fun bt163 => ((bits_GetCode.f k bt163.1 bt163.2.1 1).bind fun bt169 => (if bt151.2.2 = 0 then (if bt157.2.2 = 0 then (if bt163.2.2 = 0 then (if bt151.2.1 = 1 then (if bt157.2.1 = 6 then (if bt163.2.1 = 10 then (if (bt163.1.length : Int) = 2 then (if 0 < (bt163.1.length : Int) then (if (rd bt163.1 0) = 149 then (if 1 < (bt163.1.length : Int) then (if (rd bt163.1 1) = 64 then (if bt169.1 = 4 then (if bt169.2.1 = 6 then (some (bt169.2.2 == 0)) else (some false)) else (some false)) else (some false)) else (none)) else (some false)) else (none)) else (some false)) else (some false)) else (some false)) else (some false)) else (some false)) else (some false)) else (some false)))))) = some r := h
 clear h
 replace H := Option.bind_eq_some_iff.mp H
 obtain ⟨⟨t151, t154, t155⟩, A10, H⟩ := H
 replace H : ((bits_PutCode.f k t151 t154 4).bind fun bt157 => ((bits_Put.f k bt157.1 bt157.2.1 5 4).bind fun bt163 => ((bits_GetCode.f k bt163.1 bt163.2.1 1).bind fun bt169 => (if t155 = 0 then (if bt157.2.2 = 0 then (if bt163.2.2 = 0 then (if t154 = 1 then (if bt157.2.1 = 6 then (if bt163.2.1 = 10 then (if (bt163.1.length : Int) = 2 then (if 0 < (bt163.1.length : Int) then (if (rd bt163.1 0) = 149 then (if 1 < (bt163.1.length : Int) then (if (rd bt163.1 1) = 64 then (if bt169.1 = 4 then (if bt169.2.1 = 6 then (some (bt169.2.2 == 0)) else (some false)) else (some false)) else (some false)) else (none)) else (some false)) else (none)) else (some false)) else (some false)) else (some false)) else (some false)) else (some false)) else (some false)) else (some false))))) = some r := H
 have A1 := Aside0.mk A10
 clear A10
 replace H := Option.bind_eq_some_iff.mp H
 obtain ⟨⟨t157, t160, t161⟩, A20, H⟩ := H
 replace H : ((bits_Put.f k t157 t160 5 4).bind fun bt163 => ((bits_GetCode.f k bt163.1 bt163.2.1 1).bind fun bt169 => (if t155 = 0 then (if t161 = 0 then (if bt163.2.2 = 0 then (if t154 = 1 then (if t160 = 6 then (if bt163.2.1 = 10 then (if (bt163.1.length : Int) = 2 then (if 0 < (bt163.1.length : Int) then (if (rd bt163.1 0) = 149 then (if 1 < (bt163.1.length : Int) then (if (rd bt163.1 1) = 64 then (if bt169.1 = 4 then (if bt169.2.1 = 6 then (some (bt169.2.2 == 0)) else (some false)) else (some false)) else (some false)) else (none)) else (some false)) else (none)) else (some false)) else (some false)) else (some false)) else (some false)) else (some false)) else (some false)) else (some false)))) = some r := H
 have A2 := Aside0.mk A20
 clear A20
 replace H := Option.bind_eq_some_iff.mp H
 obtain ⟨⟨t163, t166, t167⟩, A30, H⟩ := H
 replace H : ((bits_GetCode.f k t163 t166 1).bind fun bt169 => (if t155 = 0 then (if t161 = 0 then (if t167 = 0 then (if t154 = 1 then (if t160 = 6 then (if t166 = 10 then (if (t163.length : Int) = 2 then (if 0 < (t163.length : Int) then (if (rd t163 0) = 149 then (if 1 < (t163.length : Int) then (if (rd t163 1) = 64 then (if bt169.1 = 4 then (if bt169.2.1 = 6 then (some (bt169.2.2 == 0)) else (some false)) else (some false)) else (some false)) else (none)) else (some false)) else (none)) else (some false)) else (some false)) else (some false)) else (some false)) else (some false)) else (some false)) else (some false))) = some r := H
 have A3 := Aside0.mk A30
 clear A30
 replace H := Option.bind_eq_some_iff.mp H
 obtain ⟨⟨t169, t170, t171⟩, A40, H⟩ := H
 replace H : (if t155 = 0 then (if t161 = 0 then (if t167 = 0 then (if t154 = 1 then (if t160 = 6 then (if t166 = 10 then (if (t163.length : Int) = 2 then (if 0 < (t163.length : Int) then (if (rd t163 0) = 149 then (if 1 < (t163.length : Int) then (if (rd t163 1) = 64 then (if t169 = 4 then (if t170 = 6 then (some (t171 == 0)) else (some false)) else (some false)) else (some false)) else (none)) else (some false)) else (none)) else (some false)) else (some false)) else (some false)) else (some false)) else (some false)) else (some false)) else (some false)) = some r := H
 have A4 := Aside0.mk A40
 clear A40
 by_cases c5 : t155 = 0
 ·rw [if_pos c5] at H
  have c5b0 : (t155 == 0) = true := beq_iff_eq.mpr c5
  have c5b1 : (t155 != 0) = false := bne_eq_false_iff_eq.mpr c5
  clear c5
  by_cases c6 : t161 = 0
  ·rw [if_pos c6] at H
   have c6b0 : (t161 == 0) = true := beq_iff_eq.mpr c6
   have c6b1 : (t161 != 0) = false := bne_eq_false_iff_eq.mpr c6
   clear c6
   by_cases c7 : t167 = 0
   ·rw [if_pos c7] at H
    have c7b0 : (t167 == 0) = true := beq_iff_eq.mpr c7
    have c7b1 : (t167 != 0) = false := bne_eq_false_iff_eq.mpr c7
    clear c7
    by_cases c8 : t154 = 1
    ·rw [if_pos c8] at H
     have c8b0 : (t154 == 1) = true := beq_iff_eq.mpr c8
     have c8b1 : (t154 != 1) = false := bne_eq_false_iff_eq.mpr c8
     clear c8
     by_cases c9 : t160 = 6
     ·rw [if_pos c9] at H
      have c9b0 : (t160 == 6) = true := beq_iff_eq.mpr c9
      have c9b1 : (t160 != 6) = false := bne_eq_false_iff_eq.mpr c9
      clear c9
      by_cases c10 : t166 = 10
      ·rw [if_pos c10] at H
       have c10b0 : (t166 == 10) = true := beq_iff_eq.mpr c10
       have c10b1 : (t166 != 10) = false := bne_eq_false_iff_eq.mpr c10
       clear c10
       by_cases c11 : (t163.length : Int) = 2
       ·rw [if_pos c11] at H
        have c11b0 : ((t163.length : Int) == 2) = true := beq_iff_eq.mpr c11
        have c11b1 : ((t163.length : Int) != 2) = false := bne_eq_false_iff_eq.mpr c11
        clear c11
        by_cases c12 : 0 < (t163.length : Int)
        ·rw [if_pos c12] at H
         have c12b0 : decide (0 < (t163.length : Int)) = true := decide_eq_true c12
         have c12b1 : decide (0 < t163.length) = true := decide_eq_true (by omega)
         clear c12
         by_cases c13 : (rd t163 0) = 149
         ·rw [if_pos c13] at H
          have c13b0 : ((rd t163 0) == 149) = true := beq_iff_eq.mpr c13
          have c13b1 : ((rd t163 0) != 149) = false := bne_eq_false_iff_eq.mpr c13
          clear c13
          by_cases c14 : 1 < (t163.length : Int)
          ·rw [if_pos c14] at H
           have c14b0 : decide (1 < (t163.length : Int)) = true := decide_eq_true c14
           have c14b1 : decide (1 < t163.length) = true := decide_eq_true (by omega)
           clear c14
           by_cases c15 : (rd t163 1) = 64
           ·rw [if_pos c15] at H
            have c15b0 : ((rd t163 1) == 64) = true := beq_iff_eq.mpr c15
            have c15b1 : ((rd t163 1) != 64) = false := bne_eq_false_iff_eq.mpr c15
            clear c15
            by_cases c16 : t169 = 4
            ·rw [if_pos c16] at H
             have c16b0 : (t169 == 4) = true := beq_iff_eq.mpr c16
             have c16b1 : (t169 != 4) = false := bne_eq_false_iff_eq.mpr c16
             clear c16
             by_cases c17 : t170 = 6
             ·rw [if_pos c17] at H
              have c17b0 : (t170 == 6) = true := beq_iff_eq.mpr c17
              have c17b1 : (t170 != 6) = false := bne_eq_false_iff_eq.mpr c17
              clear c17
              obtain rfl := Option.some.inj H
              go_enter Try.func9, Try.ntmps9
              go_wp2_with (first | ((with_reducible refine gate_callee (f := 15) rfl ?_); refine goesL_ (some 12) rfl rfl Try.func15 (by kernel_rfl) rfl #[.agg #[.slice none 0 0, .int .i64 0], .int .u64 0] rfl (by (try simp only [List.map_toArray, List.map_cons, List.map_nil]); first | done | rfl | (simp only [List.length_drop, List.length_take]; rfl)) ?_; (refine (bits_PutCode.calls k _ _ ([] : List Int) 0 0 t151 t154 t155 _ ?side1 ?side2 A1.out).mono ?_); (case side1 => exact Kd.C_nil _ _); (case side2 => exact Nat.le_refl _); rintro e w18 ⟨v152, rfl, ho0, hb⟩; refine ⟨_, rfl, ?_⟩; have n0_ := Aside0.mk (Kd.R_lower ho0 (below_size (by repeat (first | (with_reducible first | exact HB.out | apply below_alloc | apply pw_below_drewN | apply below_drew1) | exact HB.out)))); have n1_ := Aside0.mk (below_step (by repeat (first | (with_reducible first | exact HB.out | apply below_alloc | apply pw_below_drewN | apply below_drew1) | exact HB.out)) hb); clear HB; have HO153 := n0_; have HB := n1_; clear n0_ n1_; (try clear hb); (try clear hb2); (try clear hk); (try clear hi); (try clear ho0)) | ((with_reducible refine gate_dst (N := 1) rfl ?_); (try (refine gate_guard (by rfl) ?_; dsimp only)); refine box_event ?hg (N := 1) ?hd (cs := #[.slice none 0 0, .int .i64 0]) (t := 24) ?hr ?_; (case hd => rfl); (case hg => rfl); (case hr => first | (go_simp; done) | (go_simp; rfl)); intro gb156 hg w19 hbox hb; have n0_ := Aside0.mk (Kd.R_below (by (with_reducible repeat (first | apply Kd.R_alloc | apply Kd.R_drewN | apply Kd.R_drew)); exact HO153.out) hb); have n1_ := Aside0.mk (below_step (by repeat (first | (with_reducible first | exact HB.out | apply below_alloc | apply pw_below_drewN | apply below_drew1) | exact HB.out)) hb); have n2_ := Aside0.mk (hbox); have n3_ := Aside0.mk ((by rw [hg]; exact (below_size (by repeat (first | (with_reducible first | exact HB.out | apply below_alloc | apply pw_below_drewN | apply below_drew1) | exact HB.out))) : w.heap.size ≤ gb156)); have n4_ := Aside0.mk ((by rw [hg]; exact (below_size (by repeat (first | (with_reducible first | exact HB.out | apply below_alloc | apply pw_below_drewN | apply below_drew1) | exact HB.out))) : w.heap.size ≤ gb156)); clear HO153; clear HB; have HO153 := n0_; have HB := n1_; have BK156 := n2_; have GW156 := n3_; have GE156 := n4_; clear n0_ n1_ n2_ n3_ n4_; clear hb hbox hg; obtain ⟨Ao20, co20, eo20⟩ := Kd.R_slice HO153.out; subst eo20; have hcz21_0 : w19.cell? ⟨gb156, 0, none⟩ = some (.slice none 0 0) := (blk_cell BK156.out 0).trans rfl; have hcz21_1 : w19.cell? ⟨gb156, 1, none⟩ = some (.int .i64 0) := (blk_cell BK156.out 1).trans rfl; have hfz21_0 := blk_frozen BK156.out 0; have hfz21_1 := blk_frozen BK156.out 1) | ((with_reducible refine gate_callee (f := 15) rfl ?_); refine goesL_ (some 17) rfl rfl Try.func15 (by kernel_rfl) rfl #[.agg #[.slice Ao20 t151.length co20, .int .i64 t154], .int .u64 4] rfl (by (try simp only [List.map_toArray, List.map_cons, List.map_nil]); first | done | rfl | (simp only [List.length_drop, List.length_take]; rfl)) ?_; (with_reducible refine (bits_PutCode.calls k _ _ t151 t154 4 t157 t160 t161 _ ?side1 ?side2 A2.out).mono ?_); (case side1 => refine (Kd.R_reads' (e := 5) (base := w.heap.size) (ok := fun k_ => True) (n := t151.length) (c := co20) ?_).2.2; exact (by (with_reducible repeat (first | apply Kd.R_alloc | apply Kd.R_drewN | apply Kd.R_drew)); exact (Kd.R_mono (Kd.R_far (p := ⟨gb156, 1, none⟩) (Kd.R_far (p := ⟨gb156, 0, none⟩) (Kd.R_types HO153.out BK156.out (by decide)) (fun _ hk => hk.2) (.slice Ao20 t151.length co20)) (fun _ hk => hk.2) (.int .i64 t154)) (fun _ h_ => h_.1)))); (case side2 => exact (Kd.R_reads' HO153.out).2.1); rintro e w22 ⟨v158, rfl, ho0, hb⟩; refine ⟨_, rfl, ?_⟩; have n0_ := Aside0.mk (Kd.R_elder' (by (with_reducible repeat (first | apply Kd.R_alloc | apply Kd.R_drewN | apply Kd.R_drew)); exact (Kd.R_mono (Kd.R_far (p := ⟨gb156, 1, none⟩) (Kd.R_far (p := ⟨gb156, 0, none⟩) (Kd.R_types HO153.out BK156.out (by decide)) (fun _ hk => hk.2) (.slice Ao20 t151.length co20)) (fun _ hk => hk.2) (.int .i64 t154)) (fun _ h_ => h_.1))) (Kd.R_base ho0) hb); have n1_ := Aside0.mk (Kd.R_lower (Kd.R_new' ho0 (Kd.R_lt (by (with_reducible repeat (first | apply Kd.R_alloc | apply Kd.R_drewN | apply Kd.R_drew)); exact (Kd.R_mono (Kd.R_far (p := ⟨gb156, 1, none⟩) (Kd.R_far (p := ⟨gb156, 0, none⟩) (Kd.R_types HO153.out BK156.out (by decide)) (fun _ hk => hk.2) (.slice Ao20 t151.length co20)) (fun _ hk => hk.2) (.int .i64 t154)) (fun _ h_ => h_.1))))) (below_size (by repeat (first | (with_reducible first | exact HB.out | apply below_alloc | apply pw_below_drewN | apply below_drew1 | refine below_set ?_ GE156.out) | exact HB.out)))); have n2_ := Aside0.mk (blk_below (g := gb156) (o := .cells #[.slice Ao20 t151.length co20, .int .i64 t154] 24 (0, 0)) (by (with_reducible repeat (first | refine blk_drewN ?_ _ | refine blk_drew ?_ | refine blk_alloc ?_ _)); refine blk_put (cs := #[.slice Ao20 t151.length co20, .int .i64 0]) ?_ 1 _ rfl; (with_reducible repeat (first | refine blk_drewN ?_ _ | refine blk_drew ?_ | refine blk_alloc ?_ _)); refine blk_put (cs := #[.slice none 0 0, .int .i64 0]) ?_ 0 _ rfl; (with_reducible repeat (first | refine blk_drewN ?_ _ | refine blk_drew ?_ | refine blk_alloc ?_ _)); exact BK156.out) hb); have n3_ := Aside0.mk (below_step (by repeat (first | (with_reducible first | exact HB.out | apply below_alloc | apply pw_below_drewN | apply below_drew1 | refine below_set ?_ GE156.out) | exact HB.out)) hb); clear HO153; clear BK156; clear HB; have HO153 := n0_; have HO159 := n1_; have BK156 := n2_; have HB := n3_; clear n0_ n1_ n2_ n3_; (try clear hb); (try clear hb2); (try clear hk); (try clear hi); (try clear ho0)) | ((with_reducible refine gate_dst (N := 3) rfl ?_); (try (refine gate_guard (by rfl) ?_; dsimp only)); refine box_event ?hg (N := 3) ?hd (cs := #[.slice none 0 0, .int .i64 0]) (t := 24) ?hr ?_; (case hd => rfl); (case hg => rfl); (case hr => first | (go_simp; done) | (go_simp; rfl)); intro gb162 hg w23 hbox hb; have n0_ := Aside0.mk (Kd.R_below (by (with_reducible repeat (first | apply Kd.R_alloc | apply Kd.R_drewN | apply Kd.R_drew)); exact HO153.out) hb); have n1_ := Aside0.mk (Kd.R_below (by (with_reducible repeat (first | apply Kd.R_alloc | apply Kd.R_drewN | apply Kd.R_drew)); exact HO159.out) hb); have n2_ := Aside0.mk (blk_below (g := gb156) (o := .cells #[.slice Ao20 t151.length co20, .int .i64 t154] 24 (0, 0)) (by (with_reducible repeat (first | refine blk_drewN ?_ _ | refine blk_drew ?_ | refine blk_alloc ?_ _)); exact BK156.out) hb); have n3_ := Aside0.mk (below_step (by repeat (first | (with_reducible first | exact HB.out | apply below_alloc | apply pw_below_drewN | apply below_drew1 | refine below_set ?_ GE156.out) | exact HB.out)) hb); have n4_ := Aside0.mk (hbox); have n5_ := Aside0.mk ((by rw [hg]; exact (below_size (by repeat (first | (with_reducible first | exact HB.out | apply below_alloc | apply pw_below_drewN | apply below_drew1 | refine below_set ?_ GE156.out) | exact HB.out))) : w.heap.size ≤ gb162)); have n6_ := Aside0.mk ((by rw [hg]; exact (below_size (by repeat (first | (with_reducible first | exact HB.out | apply below_alloc | apply pw_below_drewN | apply below_drew1 | refine below_set ?_ GE156.out) | exact HB.out))) : w.heap.size ≤ gb162)); have n7_ := Aside0.mk ((by rw [hg]; exact Nat.ne_of_lt (blk_lt (g := gb156) (o := .cells #[.slice Ao20 t151.length co20, .int .i64 t154] 24 (0, 0)) (by (with_reducible repeat (first | refine blk_drewN ?_ _ | refine blk_drew ?_ | refine blk_alloc ?_ _)); exact BK156.out)) : gb156 ≠ gb162)); have n8_ := Aside0.mk ((by rw [hg]; exact Nat.ne_of_gt (blk_lt (g := gb156) (o := .cells #[.slice Ao20 t151.length co20, .int .i64 t154] 24 (0, 0)) (by (with_reducible repeat (first | refine blk_drewN ?_ _ | refine blk_drew ?_ | refine blk_alloc ?_ _)); exact BK156.out)) : gb162 ≠ gb156)); clear HO153; clear HO159; clear BK156; clear HB; have HO153 := n0_; have HO159 := n1_; have BK156 := n2_; have HB := n3_; have BK162 := n4_; have GW162 := n5_; have GE162 := n6_; have NB156_162 := n7_; have NB162_156 := n8_; clear n0_ n1_ n2_ n3_ n4_ n5_ n6_ n7_ n8_; clear hb hbox hg; obtain ⟨Ao24, co24, eo24⟩ := Kd.R_slice HO159.out; subst eo24; have hnb25 := NB162_156.out; have hnc25 := NB156_162.out; have hcz26_0 : w23.cell? ⟨gb162, 0, none⟩ = some (.slice none 0 0) := (blk_cell BK162.out 0).trans rfl; have hcz26_1 : w23.cell? ⟨gb162, 1, none⟩ = some (.int .i64 0) := (blk_cell BK162.out 1).trans rfl; have hfz26_0 := blk_frozen BK162.out 0; have hfz26_1 := blk_frozen BK162.out 1) | ((with_reducible refine gate_callee (f := 12) rfl ?_); refine goesL_ (some 22) rfl rfl Try.func12 (by kernel_rfl) rfl #[.agg #[.slice Ao24 t157.length co24, .int .i64 t160], .int .u64 5, .int .i64 4] rfl (by (try simp only [List.map_toArray, List.map_cons, List.map_nil]); first | done | rfl | (simp only [List.length_drop, List.length_take]; rfl)) ?_; (with_reducible refine (bits_Put.calls k _ _ t157 t160 5 4 t163 t166 t167 _ ?side1 ?side2 A3.out).mono ?_); (case side1 => refine (Kd.R_reads' (e := 5) (base := w.heap.size) (ok := fun k_ => (True ∧ some k_ ≠ (.slice Ao20 t151.length co20 : Value).ownBlock)) (n := t157.length) (c := co24) ?_).2.2; exact (by (with_reducible repeat (first | apply Kd.R_alloc | apply Kd.R_drewN | apply Kd.R_drew)); exact (Kd.R_mono (Kd.R_far (p := ⟨gb162, 1, none⟩) (Kd.R_far (p := ⟨gb162, 0, none⟩) (Kd.R_types HO159.out BK162.out (by decide)) (fun _ hk => hk.2) (.slice Ao24 t157.length co24)) (fun _ hk => hk.2) (.int .i64 t160)) (fun _ h_ => h_.1)))); (case side2 => exact (Kd.R_reads' HO159.out).2.1); rintro e w27 ⟨v164, rfl, ho0, hb⟩; refine ⟨_, rfl, ?_⟩; have n0_ := Aside0.mk (Kd.R_elder' (by (with_reducible repeat (first | apply Kd.R_alloc | apply Kd.R_drewN | apply Kd.R_drew)); exact (Kd.R_mono (Kd.R_far (p := ⟨gb162, 1, none⟩) (Kd.R_far (p := ⟨gb162, 0, none⟩) (Kd.R_types HO153.out BK162.out (by decide)) (fun _ hk => hk.2) (.slice Ao24 t157.length co24)) (fun _ hk => hk.2) (.int .i64 t160)) (fun _ h_ => h_.1))) (Kd.R_base ho0) hb); have n1_ := Aside0.mk (Kd.R_elder' (by (with_reducible repeat (first | apply Kd.R_alloc | apply Kd.R_drewN | apply Kd.R_drew)); exact (Kd.R_mono (Kd.R_far (p := ⟨gb162, 1, none⟩) (Kd.R_far (p := ⟨gb162, 0, none⟩) (Kd.R_types HO159.out BK162.out (by decide)) (fun _ hk => hk.2) (.slice Ao24 t157.length co24)) (fun _ hk => hk.2) (.int .i64 t160)) (fun _ h_ => h_.1))) (Kd.R_base ho0) hb); have n2_ := Aside0.mk (Kd.R_lower (Kd.R_new' (Kd.R_new' ho0 (Kd.R_lt (by (with_reducible repeat (first | apply Kd.R_alloc | apply Kd.R_drewN | apply Kd.R_drew)); exact (Kd.R_mono (Kd.R_far (p := ⟨gb162, 1, none⟩) (Kd.R_far (p := ⟨gb162, 0, none⟩) (Kd.R_types HO153.out BK162.out (by decide)) (fun _ hk => hk.2) (.slice Ao24 t157.length co24)) (fun _ hk => hk.2) (.int .i64 t160)) (fun _ h_ => h_.1))))) (Kd.R_lt (by (with_reducible repeat (first | apply Kd.R_alloc | apply Kd.R_drewN | apply Kd.R_drew)); exact (Kd.R_mono (Kd.R_far (p := ⟨gb162, 1, none⟩) (Kd.R_far (p := ⟨gb162, 0, none⟩) (Kd.R_types HO159.out BK162.out (by decide)) (fun _ hk => hk.2) (.slice Ao24 t157.length co24)) (fun _ hk => hk.2) (.int .i64 t160)) (fun _ h_ => h_.1))))) (below_size (by repeat (first | (with_reducible first | exact HB.out | apply below_alloc | apply pw_below_drewN | apply below_drew1 | refine below_set ?_ GE156.out | refine below_set ?_ GE162.out) | exact HB.out)))); have n3_ := Aside0.mk (blk_below (g := gb156) (o := .cells #[.slice Ao20 t151.length co20, .int .i64 t154] 24 (0, 0)) (by (with_reducible repeat (first | refine blk_drewN ?_ _ | refine blk_drew ?_ | refine blk_alloc ?_ _)); refine blk_far ?_ NB156_162.out _; (with_reducible repeat (first | refine blk_drewN ?_ _ | refine blk_drew ?_ | refine blk_alloc ?_ _)); refine blk_far ?_ NB156_162.out _; (with_reducible repeat (first | refine blk_drewN ?_ _ | refine blk_drew ?_ | refine blk_alloc ?_ _)); exact BK156.out) hb); have n4_ := Aside0.mk (blk_below (g := gb162) (o := .cells #[.slice Ao24 t157.length co24, .int .i64 t160] 24 (0, 0)) (by (with_reducible repeat (first | refine blk_drewN ?_ _ | refine blk_drew ?_ | refine blk_alloc ?_ _)); refine blk_put (cs := #[.slice Ao24 t157.length co24, .int .i64 0]) ?_ 1 _ rfl; (with_reducible repeat (first | refine blk_drewN ?_ _ | refine blk_drew ?_ | refine blk_alloc ?_ _)); refine blk_put (cs := #[.slice none 0 0, .int .i64 0]) ?_ 0 _ rfl; (with_reducible repeat (first | refine blk_drewN ?_ _ | refine blk_drew ?_ | refine blk_alloc ?_ _)); exact BK162.out) hb); have n5_ := Aside0.mk (below_step (by repeat (first | (with_reducible first | exact HB.out | apply below_alloc | apply pw_below_drewN | apply below_drew1 | refine below_set ?_ GE156.out | refine below_set ?_ GE162.out) | exact HB.out)) hb); clear HO153; clear HO159; clear BK156; clear BK162; clear HB; have HO153 := n0_; have HO159 := n1_; have HO165 := n2_; have BK156 := n3_; have BK162 := n4_; have HB := n5_; clear n0_ n1_ n2_ n3_ n4_ n5_; (try clear hb); (try clear hb2); (try clear hk); (try clear hi); (try clear ho0)) | ((with_reducible refine gate_dst (N := 5) rfl ?_); (try (refine gate_guard (by rfl) ?_; dsimp only)); refine box_event ?hg (N := 5) ?hd (cs := #[.slice none 0 0, .int .i64 0]) (t := 24) ?hr ?_; (case hd => rfl); (case hg => rfl); (case hr => first | (go_simp; done) | (go_simp; rfl)); intro gb168 hg w28 hbox hb; have n0_ := Aside0.mk (Kd.R_below (by (with_reducible repeat (first | apply Kd.R_alloc | apply Kd.R_drewN | apply Kd.R_drew)); exact HO153.out) hb); have n1_ := Aside0.mk (Kd.R_below (by (with_reducible repeat (first | apply Kd.R_alloc | apply Kd.R_drewN | apply Kd.R_drew)); exact HO159.out) hb); have n2_ := Aside0.mk (Kd.R_below (by (with_reducible repeat (first | apply Kd.R_alloc | apply Kd.R_drewN | apply Kd.R_drew)); exact HO165.out) hb); have n3_ := Aside0.mk (blk_below (g := gb156) (o := .cells #[.slice Ao20 t151.length co20, .int .i64 t154] 24 (0, 0)) (by (with_reducible repeat (first | refine blk_drewN ?_ _ | refine blk_drew ?_ | refine blk_alloc ?_ _)); exact BK156.out) hb); have n4_ := Aside0.mk (blk_below (g := gb162) (o := .cells #[.slice Ao24 t157.length co24, .int .i64 t160] 24 (0, 0)) (by (with_reducible repeat (first | refine blk_drewN ?_ _ | refine blk_drew ?_ | refine blk_alloc ?_ _)); exact BK162.out) hb); have n5_ := Aside0.mk (below_step (by repeat (first | (with_reducible first | exact HB.out | apply below_alloc | apply pw_below_drewN | apply below_drew1 | refine below_set ?_ GE156.out | refine below_set ?_ GE162.out) | exact HB.out)) hb); have n6_ := Aside0.mk (hbox); have n7_ := Aside0.mk ((by rw [hg]; exact (below_size (by repeat (first | (with_reducible first | exact HB.out | apply below_alloc | apply pw_below_drewN | apply below_drew1 | refine below_set ?_ GE156.out | refine below_set ?_ GE162.out) | exact HB.out))) : w.heap.size ≤ gb168)); have n8_ := Aside0.mk ((by rw [hg]; exact (below_size (by repeat (first | (with_reducible first | exact HB.out | apply below_alloc | apply pw_below_drewN | apply below_drew1 | refine below_set ?_ GE156.out | refine below_set ?_ GE162.out) | exact HB.out))) : w.heap.size ≤ gb168)); have n9_ := Aside0.mk ((by rw [hg]; exact Nat.ne_of_lt (blk_lt (g := gb156) (o := .cells #[.slice Ao20 t151.length co20, .int .i64 t154] 24 (0, 0)) (by (with_reducible repeat (first | refine blk_drewN ?_ _ | refine blk_drew ?_ | refine blk_alloc ?_ _)); exact BK156.out)) : gb156 ≠ gb168)); have n10_ := Aside0.mk ((by rw [hg]; exact Nat.ne_of_gt (blk_lt (g := gb156) (o := .cells #[.slice Ao20 t151.length co20, .int .i64 t154] 24 (0, 0)) (by (with_reducible repeat (first | refine blk_drewN ?_ _ | refine blk_drew ?_ | refine blk_alloc ?_ _)); exact BK156.out)) : gb168 ≠ gb156)); have n11_ := Aside0.mk ((by rw [hg]; exact Nat.ne_of_lt (blk_lt (g := gb162) (o := .cells #[.slice Ao24 t157.length co24, .int .i64 t160] 24 (0, 0)) (by (with_reducible repeat (first | refine blk_drewN ?_ _ | refine blk_drew ?_ | refine blk_alloc ?_ _)); exact BK162.out)) : gb162 ≠ gb168)); have n12_ := Aside0.mk ((by rw [hg]; exact Nat.ne_of_gt (blk_lt (g := gb162) (o := .cells #[.slice Ao24 t157.length co24, .int .i64 t160] 24 (0, 0)) (by (with_reducible repeat (first | refine blk_drewN ?_ _ | refine blk_drew ?_ | refine blk_alloc ?_ _)); exact BK162.out)) : gb168 ≠ gb162)); clear HO153; clear HO159; clear HO165; clear BK156; clear BK162; clear HB; have HO153 := n0_; have HO159 := n1_; have HO165 := n2_; have BK156 := n3_; have BK162 := n4_; have HB := n5_; have BK168 := n6_; have GW168 := n7_; have GE168 := n8_; have NB156_168 := n9_; have NB168_156 := n10_; have NB162_168 := n11_; have NB168_162 := n12_; clear n0_ n1_ n2_ n3_ n4_ n5_ n6_ n7_ n8_ n9_ n10_ n11_ n12_; clear hb hbox hg; obtain ⟨Ao29, co29, eo29⟩ := Kd.R_slice HO165.out; subst eo29; have hnb30 := NB168_156.out; have hnc30 := NB156_168.out; have hnb31 := NB168_162.out; have hnc31 := NB162_168.out; have hcz32_0 : w28.cell? ⟨gb168, 0, none⟩ = some (.slice none 0 0) := (blk_cell BK168.out 0).trans rfl; have hcz32_1 : w28.cell? ⟨gb168, 1, none⟩ = some (.int .i64 0) := (blk_cell BK168.out 1).trans rfl; have hfz32_0 := blk_frozen BK168.out 0; have hfz32_1 := blk_frozen BK168.out 1) | ((with_reducible refine gate_callee (f := 22) rfl ?_); refine goesL_ (some 27) rfl rfl Try.func22 (by kernel_rfl) rfl #[.agg #[.slice Ao29 t163.length co29, .int .i64 t166], .int .i64 1] rfl (by (try simp only [List.map_toArray, List.map_cons, List.map_nil]); first | done | rfl | (simp only [List.length_drop, List.length_take]; rfl)) ?_; (with_reducible refine (bits_GetCode.calls k _ _ t163 t166 1 t169 t170 t171 _ ?side1 ?side2 A4.out).mono ?_); (case side1 => refine (Kd.R_reads' (e := 5) (base := w.heap.size) (ok := fun k_ => ((True ∧ some k_ ≠ (.slice Ao20 t151.length co20 : Value).ownBlock) ∧ some k_ ≠ (.slice Ao24 t157.length co24 : Value).ownBlock)) (n := t163.length) (c := co29) ?_).2.2; exact (by (with_reducible repeat (first | apply Kd.R_alloc | apply Kd.R_drewN | apply Kd.R_drew)); exact (Kd.R_mono (Kd.R_far (p := ⟨gb168, 1, none⟩) (Kd.R_far (p := ⟨gb168, 0, none⟩) (Kd.R_types HO165.out BK168.out (by decide)) (fun _ hk => hk.2) (.slice Ao29 t163.length co29)) (fun _ hk => hk.2) (.int .i64 t166)) (fun _ h_ => h_.1)))); (case side2 => exact (Kd.R_reads' HO165.out).2.1); rintro e w33 ⟨rfl, hb⟩; refine ⟨_, rfl, ?_⟩; have n0_ := Aside0.mk (Kd.R_below (by (with_reducible repeat (first | apply Kd.R_alloc | apply Kd.R_drewN | apply Kd.R_drew)); exact (Kd.R_mono (Kd.R_far (p := ⟨gb168, 1, none⟩) (Kd.R_far (p := ⟨gb168, 0, none⟩) (Kd.R_types HO153.out BK168.out (by decide)) (fun _ hk => hk.2) (.slice Ao29 t163.length co29)) (fun _ hk => hk.2) (.int .i64 t166)) (fun _ h_ => h_.1))) hb); have n1_ := Aside0.mk (Kd.R_below (by (with_reducible repeat (first | apply Kd.R_alloc | apply Kd.R_drewN | apply Kd.R_drew)); exact (Kd.R_mono (Kd.R_far (p := ⟨gb168, 1, none⟩) (Kd.R_far (p := ⟨gb168, 0, none⟩) (Kd.R_types HO159.out BK168.out (by decide)) (fun _ hk => hk.2) (.slice Ao29 t163.length co29)) (fun _ hk => hk.2) (.int .i64 t166)) (fun _ h_ => h_.1))) hb); have n2_ := Aside0.mk (Kd.R_below (by (with_reducible repeat (first | apply Kd.R_alloc | apply Kd.R_drewN | apply Kd.R_drew)); exact (Kd.R_mono (Kd.R_far (p := ⟨gb168, 1, none⟩) (Kd.R_far (p := ⟨gb168, 0, none⟩) (Kd.R_types HO165.out BK168.out (by decide)) (fun _ hk => hk.2) (.slice Ao29 t163.length co29)) (fun _ hk => hk.2) (.int .i64 t166)) (fun _ h_ => h_.1))) hb); have n3_ := Aside0.mk (blk_below (g := gb156) (o := .cells #[.slice Ao20 t151.length co20, .int .i64 t154] 24 (0, 0)) (by (with_reducible repeat (first | refine blk_drewN ?_ _ | refine blk_drew ?_ | refine blk_alloc ?_ _)); refine blk_far ?_ NB156_168.out _; (with_reducible repeat (first | refine blk_drewN ?_ _ | refine blk_drew ?_ | refine blk_alloc ?_ _)); refine blk_far ?_ NB156_168.out _; (with_reducible repeat (first | refine blk_drewN ?_ _ | refine blk_drew ?_ | refine blk_alloc ?_ _)); exact BK156.out) hb); have n4_ := Aside0.mk (blk_below (g := gb162) (o := .cells #[.slice Ao24 t157.length co24, .int .i64 t160] 24 (0, 0)) (by (with_reducible repeat (first | refine blk_drewN ?_ _ | refine blk_drew ?_ | refine blk_alloc ?_ _)); refine blk_far ?_ NB162_168.out _; (with_reducible repeat (first | refine blk_drewN ?_ _ | refine blk_drew ?_ | refine blk_alloc ?_ _)); refine blk_far ?_ NB162_168.out _; (with_reducible repeat (first | refine blk_drewN ?_ _ | refine blk_drew ?_ | refine blk_alloc ?_ _)); exact BK162.out) hb); have n5_ := Aside0.mk (blk_below (g := gb168) (o := .cells #[.slice Ao29 t163.length co29, .int .i64 t166] 24 (0, 0)) (by (with_reducible repeat (first | refine blk_drewN ?_ _ | refine blk_drew ?_ | refine blk_alloc ?_ _)); refine blk_put (cs := #[.slice Ao29 t163.length co29, .int .i64 0]) ?_ 1 _ rfl; (with_reducible repeat (first | refine blk_drewN ?_ _ | refine blk_drew ?_ | refine blk_alloc ?_ _)); refine blk_put (cs := #[.slice none 0 0, .int .i64 0]) ?_ 0 _ rfl; (with_reducible repeat (first | refine blk_drewN ?_ _ | refine blk_drew ?_ | refine blk_alloc ?_ _)); exact BK168.out) hb); have n6_ := Aside0.mk (below_step (by repeat (first | (with_reducible first | exact HB.out | apply below_alloc | apply pw_below_drewN | apply below_drew1 | refine below_set ?_ GE156.out | refine below_set ?_ GE162.out | refine below_set ?_ GE168.out) | exact HB.out)) hb); clear HO153; clear HO159; clear HO165; clear BK156; clear BK162; clear BK168; clear HB; have HO153 := n0_; have HO159 := n1_; have HO165 := n2_; have BK156 := n3_; have BK162 := n4_; have BK168 := n5_; have HB := n6_; clear n0_ n1_ n2_ n3_ n4_ n5_ n6_; (try clear hb); (try clear hb2); (try clear hk); (try clear hi); have hcz34_0 : w33.cell? ⟨gb156, 0, none⟩ = some (.slice Ao20 t151.length co20) := (blk_cell BK156.out 0).trans rfl; have hcz34_1 : w33.cell? ⟨gb156, 1, none⟩ = some (.int .i64 t154) := (blk_cell BK156.out 1).trans rfl; have hfz34_0 := blk_frozen BK156.out 0; have hfz34_1 := blk_frozen BK156.out 1; have hcz35_0 : w33.cell? ⟨gb162, 0, none⟩ = some (.slice Ao24 t157.length co24) := (blk_cell BK162.out 0).trans rfl; have hcz35_1 : w33.cell? ⟨gb162, 1, none⟩ = some (.int .i64 t160) := (blk_cell BK162.out 1).trans rfl; have hfz35_0 := blk_frozen BK162.out 0; have hfz35_1 := blk_frozen BK162.out 1; have hcz36_0 : w33.cell? ⟨gb168, 0, none⟩ = some (.slice Ao29 t163.length co29) := (blk_cell BK168.out 0).trans rfl; have hcz36_1 : w33.cell? ⟨gb168, 1, none⟩ = some (.int .i64 t166) := (blk_cell BK168.out 1).trans rfl; have hfz36_0 := blk_frozen BK168.out 0; have hfz36_1 := blk_frozen BK168.out 1; have p172 : 0 ≤ (0 : Int) := (by omega); have q172 : 0 < (t163.length : Int) := of_decide_eq_true (by first | (with_reducible assumption) | assumption); obtain ⟨ad172, e172, hx172_0⟩ := Kd.at_int (Kd.R_reads' HO165.out).2.2 0 p172 q172; cases e172; have qi172 : (0 < t163.length) = True := eq_true (by omega); (try rw [show ((0 : Int)).toNat = 0 from rfl] at hx172_0); (try rw [Addr.add_zero'] at hx172_0); replace p172 := eq_true p172; replace q172 := eq_true q172; have p173 : 0 ≤ (1 : Int) := (by omega); have q173 : 1 < (t163.length : Int) := of_decide_eq_true (by first | (with_reducible assumption) | assumption); obtain ⟨ad173, e173, hx173_0⟩ := Kd.at_int (Kd.R_reads' HO165.out).2.2 1 p173 q173; obtain rfl : ad172 = ad173 := (by injection e173); (try simp only [show (1 : Int).toNat = 1 from rfl, Nat.reduceMul, Nat.reduceEqDiff, Go.Addr.add, ↓reduceIte] at hx173_0); have qi173 : (1 < t163.length) = True := eq_true (by omega); (try rw [show ((1 : Int)).toNat = 1 from rfl] at hx173_0); replace p173 := eq_true p173; replace q173 := eq_true q173))
              go_ret
              exact ⟨by first | rfl | (simp [errW_none, errW_some] <;> rfl) | (simp [*, errW_none, errW_some] <;> rfl) | (simp [wrap64]; done), by repeat (first | (with_reducible first | exact HB.out | apply below_alloc | apply pw_below_drewN | apply below_drew1 | refine below_set ?_ GE156.out | refine below_set ?_ GE162.out | refine below_set ?_ GE168.out) | exact HB.out)⟩
             ·rw [if_neg c17] at H
              have c17b0 : (t170 == 6) = false := beq_eq_false_iff_ne.mpr c17
              have c17b1 : (t170 != 6) = true := bne_iff_ne.mpr c17
              obtain rfl := Option.some.inj H
              exact absurd HR_.out (by simp)
            ·rw [if_neg c16] at H
             have c16b0 : (t169 == 4) = false := beq_eq_false_iff_ne.mpr c16
             have c16b1 : (t169 != 4) = true := bne_iff_ne.mpr c16
             obtain rfl := Option.some.inj H
             exact absurd HR_.out (by simp)
           ·rw [if_neg c15] at H
            have c15b0 : ((rd t163 1) == 64) = false := beq_eq_false_iff_ne.mpr c15
            have c15b1 : ((rd t163 1) != 64) = true := bne_iff_ne.mpr c15
            obtain rfl := Option.some.inj H
            exact absurd HR_.out (by simp)
          ·rw [if_neg c14] at H
           exact absurd H (by simp)
         ·rw [if_neg c13] at H
          have c13b0 : ((rd t163 0) == 149) = false := beq_eq_false_iff_ne.mpr c13
          have c13b1 : ((rd t163 0) != 149) = true := bne_iff_ne.mpr c13
          obtain rfl := Option.some.inj H
          exact absurd HR_.out (by simp)
        ·rw [if_neg c12] at H
         exact absurd H (by simp)
       ·rw [if_neg c11] at H
        have c11b0 : ((t163.length : Int) == 2) = false := beq_eq_false_iff_ne.mpr c11
        have c11b1 : ((t163.length : Int) != 2) = true := bne_iff_ne.mpr c11
        obtain rfl := Option.some.inj H
        exact absurd HR_.out (by simp)
      ·rw [if_neg c10] at H
       have c10b0 : (t166 == 10) = false := beq_eq_false_iff_ne.mpr c10
       have c10b1 : (t166 != 10) = true := bne_iff_ne.mpr c10
       obtain rfl := Option.some.inj H
       exact absurd HR_.out (by simp)
     ·rw [if_neg c9] at H
      have c9b0 : (t160 == 6) = false := beq_eq_false_iff_ne.mpr c9
      have c9b1 : (t160 != 6) = true := bne_iff_ne.mpr c9
      obtain rfl := Option.some.inj H
      exact absurd HR_.out (by simp)
    ·rw [if_neg c8] at H
     have c8b0 : (t154 == 1) = false := beq_eq_false_iff_ne.mpr c8
     have c8b1 : (t154 != 1) = true := bne_iff_ne.mpr c8
     obtain rfl := Option.some.inj H
     exact absurd HR_.out (by simp)
   ·rw [if_neg c7] at H
    have c7b0 : (t167 == 0) = false := beq_eq_false_iff_ne.mpr c7
    have c7b1 : (t167 != 0) = true := bne_iff_ne.mpr c7
    obtain rfl := Option.some.inj H
    exact absurd HR_.out (by simp)
  ·rw [if_neg c6] at H
   have c6b0 : (t161 == 0) = false := beq_eq_false_iff_ne.mpr c6
   have c6b1 : (t161 != 0) = true := bne_iff_ne.mpr c6
   obtain rfl := Option.some.inj H
   exact absurd HR_.out (by simp)
 ·rw [if_neg c5] at H
  have c5b0 : (t155 == 0) = false := beq_eq_false_iff_ne.mpr c5
  have c5b1 : (t155 != 0) = true := bne_iff_ne.mpr c5
  obtain rfl := Option.some.inj H
  exact absurd HR_.out (by simp)


theorem squelchlaw01_live.is_true {k : Nat} {r : Bool} (h : squelchlaw01_live.f k = some r) : r = true := by
 have h1 : squelchlaw01_live.f 100 = some true := by decide +kernel
 have a := at_rounds squelchlaw01_live.mono (Nat.le_max_left k 100) h
 have b := at_rounds squelchlaw01_live.mono (Nat.le_max_right k 100) h1
 rw [a] at b
 exact Option.some.inj b
theorem squelchlaw01_live.calls (k : Nat)  (r : Bool) (w : World) (h : squelchlaw01_live.f k  = some r) :
  Calls Try.prog 9 #[] w fun e w' => e = .returned (.bool r) ∧ Below w.heap.size w w' := squelchlaw01_live.calls0 k r w h (squelchlaw01_live.is_true h)

end Go.Proofs.Ytkgcjiaadgnlkaa.PA
-- slim
