-- Written for this claim by this session's own printer (wip/patch_print.py over the kit's print).
import Derived.Test.YtkgcjiaadgnlkaaPAx0
namespace Go.Proofs.Ytkgcjiaadgnlkaa.PA
open Go.RowKit Go.Proofs.YtkgcjiaadgnlkaaW.PrintWords Go.Proofs.YtkgcjiaadgnlkaaW.PrintLast Go.Proofs.YtkgcjiaadgnlkaaW.PrintMore
attribute [local go_sem] max2_int min2_int max_two min_two max_three min_three max_four min_four   -- for this text's walks alone
set_option linter.unusedVariables false
set_option linter.unusedSimpArgs false

/-! ### bits_take: function 35 -/
def bits_take.l0 : Nat → Int → Int → Int → List Int → Int → Option (Int)
 | 0, _, _, _, _, _ => none
 | k + 1, x1, x2, x7, x146000, x146001 => if x2 > 0 then (if 0 ≤ (wrap64 (Int.tdiv x1 8)) then (if (wrap64 (Int.tdiv x1 8)) < (x146000.length : Int) then (if 0 ≤ (wrap64 ((wrap64 (8 - (Int.tmod x1 8))) - (mn (wrap64 (8 - (Int.tmod x1 8))) x2))) then (if 0 ≤ (mn (wrap64 (8 - (Int.tmod x1 8))) x2) then (bits_take.l0 k (wrap64 (x1 + (mn (wrap64 (8 - (Int.tmod x1 8))) x2))) (wrap64 (x2 - (mn (wrap64 (8 - (Int.tmod x1 8))) x2))) (Go.bits .or .u64 (shl .u64 x7 (mn (wrap64 (8 - (Int.tmod x1 8))) x2)) (IntKind.u64.wrap (Go.bits .and .u8 (shr .u8 (rd x146000 (wrap64 (Int.tdiv x1 8))) (wrap64 ((wrap64 (8 - (Int.tmod x1 8))) - (mn (wrap64 (8 - (Int.tmod x1 8))) x2)))) (((shl .u8 1 (mn (wrap64 (8 - (Int.tmod x1 8))) x2)) - 1) % 256)))) x146000 x146001) else (none)) else (none)) else (none)) else (none)) else (some x7)
def bits_take.f (k : Nat) (l0_0 : List Int) (a0_1 : Int) (a1 : Int) (a2 : Int) : Option (Int) := bits_take.l0 k a1 a2 0 l0_0 a0_1
theorem bits_take.mono_l : ∀ k, (∀ y0 y1 y2 y3 y4, LeO (bits_take.l0 k y0 y1 y2 y3 y4) (bits_take.l0 (k + 1) y0 y1 y2 y3 y4))
 | 0 => fun _ _ _ _ _ r h => by simp [bits_take.l0] at h
 | k + 1 => by
  have ih0 := bits_take.mono_l k
  ·intro y0 y1 y2 y3 y4
   unfold bits_take.l0
   repeat' first
   | (with_reducible exact ih0 _ _ _ _ _)
   | (with_reducible exact LeO.refl _)
   | (with_reducible exact LeO.none _)
   | (with_reducible refine LeO.ite ?_ ?_)
   | (with_reducible refine LeO.bind ?_ (fun _ => ?_))
   | exact ih0 _ _ _ _ _
   | exact LeO.none _
   | refine LeO.ite ?_ ?_
   | refine LeO.bind ?_ (fun _ => ?_)
theorem bits_take.mono : ∀ a0 a1 a2 a3 k, LeO (bits_take.f k a0 a1 a2 a3) (bits_take.f (k + 1) a0 a1 a2 a3) := by
 intro a0 a1 a2 a3 k
 have ih0 := bits_take.mono_l k
 unfold bits_take.f
 repeat' first
   | (with_reducible exact ih0 _ _ _ _ _)
   | (with_reducible exact LeO.refl _)
   | (with_reducible exact LeO.none _)
   | (with_reducible refine LeO.ite ?_ ?_)
   | (with_reducible refine LeO.bind ?_ (fun _ => ?_))
   | exact ih0 _ _ _ _ _
   | exact LeO.none _
   | refine LeO.ite ?_ ?_
   | refine LeO.bind ?_ (fun _ => ?_)
set_option maxHeartbeats 8000000 in
set_option maxRecDepth 100000 in
theorem bits_take.calls (k : Nat) (A0_0 : Option Addr) (c0_0 : Nat) (l0_0 : List Int) (a0_1 : Int) (a1 : Int) (a2 : Int) (r : Int) (w : World) (hr0_0 : Kd.C (Kd.int .u8) w A0_0 l0_0.length l0_0) (hc0_0 : l0_0.length ≤ c0_0) (h : bits_take.f k l0_0 a0_1 a1 a2 = some r) :
  Calls Try.prog 35 #[.agg #[.slice A0_0 l0_0.length c0_0, .int .i64 a0_1], .int .i64 a1, .int .i64 a2] w fun e w' => e = .returned (.int .u64 r) ∧ Below w.heap.size w w' := by
 have hu24 := Try.underlying24
 have HR0_0 := Aside0.mk hr0_0
 have HC0_0 := Aside0.mk hc0_0
 clear hr0_0 hc0_0
 have HB := Aside0.mk (Below.refl w.heap.size w)
 have H : (bits_take.l0 k a1 a2 0 l0_0 a0_1) = some r := h
 clear h
 have H' := Aside0.mk H
 clear H
 go_enter Try.func35, Try.ntmps35
 go_wp2_with (first | ((with_reducible refine gate_dst (N := 3) rfl ?_); refine box_event ?hg (N := 3) ?hd (cs := #[.slice A0_0 l0_0.length c0_0, .int .i64 a0_1]) (t := 24) ?hr ?_; (case hd => rfl); (case hg => rfl); (case hr => first | (go_simp; done) | (go_simp; rfl)); intro gb145 hg w4 hbox hb; have n0_ := Aside0.mk (below_step (by repeat (first | (with_reducible first | exact HB.out | apply below_alloc | apply pw_below_drewN | apply below_drew1) | exact HB.out)) hb); have n1_ := Aside0.mk (hbox); have n2_ := Aside0.mk ((by rw [hg]; exact (below_size (by repeat (first | (with_reducible first | exact HB.out | apply below_alloc | apply pw_below_drewN | apply below_drew1) | exact HB.out))) : w.heap.size ≤ gb145)); have n3_ := Aside0.mk ((by rw [hg]; exact (below_size (by repeat (first | (with_reducible first | exact HB.out | apply below_alloc | apply pw_below_drewN | apply below_drew1) | exact HB.out))) : w.heap.size ≤ gb145)); clear HB; have HB := n0_; have BK145 := n1_; have GW145 := n2_; have GE145 := n3_; clear n0_ n1_ n2_ n3_; clear hb hbox hg))
 repeat (go_quiet (first | ((with_reducible refine gate_dst (N := 3) rfl ?_); refine box_event ?hg (N := 3) ?hd (cs := #[.slice A0_0 l0_0.length c0_0, .int .i64 a0_1]) (t := 24) ?hr ?_; (case hd => rfl); (case hg => rfl); (case hr => first | (go_simp; done) | (go_simp; rfl)); intro gb145 hg w4 hbox hb; have n0_ := Aside0.mk (below_step (by repeat (first | (with_reducible first | exact HB.out | apply below_alloc | apply pw_below_drewN | apply below_drew1) | exact HB.out)) hb); have n1_ := Aside0.mk (hbox); have n2_ := Aside0.mk ((by rw [hg]; exact (below_size (by repeat (first | (with_reducible first | exact HB.out | apply below_alloc | apply pw_below_drewN | apply below_drew1) | exact HB.out))) : w.heap.size ≤ gb145)); have n3_ := Aside0.mk ((by rw [hg]; exact (below_size (by repeat (first | (with_reducible first | exact HB.out | apply below_alloc | apply pw_below_drewN | apply below_drew1) | exact HB.out))) : w.heap.size ≤ gb145)); clear HB; have HB := n0_; have BK145 := n1_; have GW145 := n2_; have GE145 := n3_; clear n0_ n1_ n2_ n3_; clear hb hbox hg)); try go_wp2_with (first | ((with_reducible refine gate_dst (N := 3) rfl ?_); refine box_event ?hg (N := 3) ?hd (cs := #[.slice A0_0 l0_0.length c0_0, .int .i64 a0_1]) (t := 24) ?hr ?_; (case hd => rfl); (case hg => rfl); (case hr => first | (go_simp; done) | (go_simp; rfl)); intro gb145 hg w4 hbox hb; have n0_ := Aside0.mk (below_step (by repeat (first | (with_reducible first | exact HB.out | apply below_alloc | apply pw_below_drewN | apply below_drew1) | exact HB.out)) hb); have n1_ := Aside0.mk (hbox); have n2_ := Aside0.mk ((by rw [hg]; exact (below_size (by repeat (first | (with_reducible first | exact HB.out | apply below_alloc | apply pw_below_drewN | apply below_drew1) | exact HB.out))) : w.heap.size ≤ gb145)); have n3_ := Aside0.mk ((by rw [hg]; exact (below_size (by repeat (first | (with_reducible first | exact HB.out | apply below_alloc | apply pw_below_drewN | apply below_drew1) | exact HB.out))) : w.heap.size ≤ gb145)); clear HB; have HB := n0_; have BK145 := n1_; have GW145 := n2_; have GE145 := n3_; clear n0_ n1_ n2_ n3_; clear hb hbox hg)))
 (try simp only [Act.put, List.setIfInBounds_toArray, List.set_cons_zero, List.set_cons_succ])
 go_loopg [1, 2, 7] k (fun kq v1 v2 v7 w' => ∃ (x1_1 : Int) (x2_1 : Int) (x7_1 : Int), v1 = .int .i64 x1_1 ∧ v2 = .int .i64 x2_1 ∧ v7 = .int .u64 x7_1 ∧ Aside0 (bits_take.l0 kq x1_1 x2_1 x7_1 l0_0 a0_1 = some r) ∧ Aside0 (kq ≤ k) ∧ Aside0 (w'.heap[gb145]? = some (.cells #[(.slice A0_0 l0_0.length c0_0), .int .i64 a0_1] 24 (0, 0))) ∧ Aside0 (Below w.heap.size w w'))
 case atStart => exact ⟨(a1), (a2), (0), (by first | rfl | (simp; done) | (simp [*]; done)), (by first | rfl | (simp; done) | (simp [*]; done)), (by first | rfl | (simp; done) | (simp [*]; done)), H', ⟨Nat.le_refl _⟩, ⟨by (with_reducible repeat (first | refine blk_drewN ?_ _ | refine blk_drew ?_ | refine blk_alloc ?_ _)); exact BK145.out⟩, ⟨by repeat (first | (with_reducible first | exact HB.out | apply below_alloc | apply pw_below_drewN | apply below_drew1 | refine below_set ?_ GE145.out) | exact HB.out)⟩⟩
 case round =>
  clear H'
  try clear p2
  try clear c3
  obtain ⟨x1_1, x2_1, x7_1, rfl, rfl, rfl, HA, HK1, BK145, HB⟩ := hrel
  cases gk with
  | zero => exact absurd HA.out (by simp [bits_take.l0])
  | succ k1 =>
   have H := HA.out
   clear HA
   simp only [bits_take.l0] at H
   by_cases c5 : x2_1 > 0
   ·rw [if_pos c5] at H
    have c5b0 : decide (0 < x2_1) = true := decide_eq_true c5
    clear c5
    obtain ⟨ji6, hji6⟩ : ∃ j_ : Int, (mn (wrap64 (8 - (Int.tmod x1_1 8))) x2_1) = j_ := ⟨_, rfl⟩
    replace H : (if 0 ≤ (wrap64 (Int.tdiv x1_1 8)) then (if (wrap64 (Int.tdiv x1_1 8)) < (l0_0.length : Int) then (if 0 ≤ (wrap64 ((wrap64 (8 - (Int.tmod x1_1 8))) - (ji6))) then (if 0 ≤ (ji6) then (bits_take.l0 k1 (wrap64 (x1_1 + (ji6))) (wrap64 (x2_1 - (ji6))) (Go.bits .or .u64 (shl .u64 x7_1 (ji6)) (IntKind.u64.wrap (Go.bits .and .u8 (shr .u8 (rd l0_0 (wrap64 (Int.tdiv x1_1 8))) (wrap64 ((wrap64 (8 - (Int.tmod x1_1 8))) - (ji6)))) (((shl .u8 1 (ji6)) - 1) % 256)))) l0_0 a0_1) else (none)) else (none)) else (none)) else (none)) = some r := by first | (rw [hji6] at H; exact H) | (simp only [hji6] at H ⊢; exact H)
    have hji6_ : (if x2_1 < (wrap64 (8 - (Int.tmod x1_1 8))) then x2_1 else (wrap64 (8 - (Int.tmod x1_1 8)))) = ji6 := hji6
    obtain ⟨ji7, hji7⟩ : ∃ j_ : Int, (wrap64 (Int.tdiv x1_1 8)) = j_ := ⟨_, rfl⟩
    replace H : (if 0 ≤ (ji7) then (if (ji7) < (l0_0.length : Int) then (if 0 ≤ (wrap64 ((wrap64 (8 - (Int.tmod x1_1 8))) - (ji6))) then (if 0 ≤ (ji6) then (bits_take.l0 k1 (wrap64 (x1_1 + (ji6))) (wrap64 (x2_1 - (ji6))) (Go.bits .or .u64 (shl .u64 x7_1 (ji6)) (IntKind.u64.wrap (Go.bits .and .u8 (shr .u8 (rd l0_0 (ji7)) (wrap64 ((wrap64 (8 - (Int.tmod x1_1 8))) - (ji6)))) (((shl .u8 1 (ji6)) - 1) % 256)))) l0_0 a0_1) else (none)) else (none)) else (none)) else (none)) = some r := by first | (rw [hji7] at H; exact H) | (simp only [hji7] at H ⊢; exact H)
    have hji7w : (IntKind.i64.wrap (Int.tdiv x1_1 8)) = ji7 := (i64_w _).trans hji7
    by_cases c8 : 0 ≤ (ji7)
    ·rw [if_pos c8] at H
     have c8b0 : decide (0 ≤ (ji7)) = true := decide_eq_true c8
     clear c8
     by_cases c9 : (ji7) < (l0_0.length : Int)
     ·rw [if_pos c9] at H
      have c9b0 : decide ((ji7) < (l0_0.length : Int)) = true := decide_eq_true c9
      clear c9
      obtain ⟨ji10, hji10⟩ : ∃ j_ : Int, (wrap64 ((wrap64 (8 - (Int.tmod x1_1 8))) - (ji6))) = j_ := ⟨_, rfl⟩
      replace H : (if 0 ≤ (ji10) then (if 0 ≤ (ji6) then (bits_take.l0 k1 (wrap64 (x1_1 + (ji6))) (wrap64 (x2_1 - (ji6))) (Go.bits .or .u64 (shl .u64 x7_1 (ji6)) (IntKind.u64.wrap (Go.bits .and .u8 (shr .u8 (rd l0_0 (ji7)) (ji10)) (((shl .u8 1 (ji6)) - 1) % 256)))) l0_0 a0_1) else (none)) else (none)) = some r := by first | (rw [hji10] at H; exact H) | (simp only [hji10] at H ⊢; exact H)
      have hji10w : (IntKind.i64.wrap ((wrap64 (8 - (Int.tmod x1_1 8))) - (ji6))) = ji10 := (i64_w _).trans hji10
      by_cases c11 : 0 ≤ (ji10)
      ·rw [if_pos c11] at H
       have c11b0 := eq_true c11
       have c11b1 : decide (0 ≤ (ji10)) = true := decide_eq_true c11
       clear c11
       obtain ⟨ji12, hji12⟩ : ∃ j_ : Int, (shr .u8 (rd l0_0 (ji7)) (ji10)) = j_ := ⟨_, rfl⟩
       replace H : (if 0 ≤ (ji6) then (bits_take.l0 k1 (wrap64 (x1_1 + (ji6))) (wrap64 (x2_1 - (ji6))) (Go.bits .or .u64 (shl .u64 x7_1 (ji6)) (IntKind.u64.wrap (Go.bits .and .u8 (ji12) (((shl .u8 1 (ji6)) - 1) % 256)))) l0_0 a0_1) else (none)) = some r := by first | (rw [hji12] at H; exact H) | (simp only [hji12] at H ⊢; exact H)
       have hji12_ : ((rd l0_0 (ji7)) / 2 ^ min (ji10).toNat 8) = ji12 := hji12
       have hji12z : (ji10) ≤ 8 → ((rd l0_0 (ji7)) / 2 ^ (ji10).toNat) = ji12 := shr_small hji12
       by_cases c13 : 0 ≤ (ji6)
       ·rw [if_pos c13] at H
        have c13b0 := eq_true c13
        have c13b1 : decide (0 ≤ (ji6)) = true := decide_eq_true c13
        clear c13
        obtain ⟨ji14, hji14⟩ : ∃ j_ : Int, (shl .u8 1 (ji6)) = j_ := ⟨_, rfl⟩
        replace H : (bits_take.l0 k1 (wrap64 (x1_1 + (ji6))) (wrap64 (x2_1 - (ji6))) (Go.bits .or .u64 (shl .u64 x7_1 (ji6)) (IntKind.u64.wrap (Go.bits .and .u8 (ji12) (((ji14) - 1) % 256)))) l0_0 a0_1) = some r := by first | (rw [hji14] at H; exact H) | (simp only [hji14] at H ⊢; exact H)
        have hji14_ : (IntKind.u8.wrap (1 * 2 ^ min (ji6).toNat 8)) = ji14 := hji14
        have hji14z : (ji6) ≤ 8 → (IntKind.u8.wrap (1 * 2 ^ (ji6).toNat)) = ji14 := shl_small hji14
        have hji14k_ : (1 * 2 ^ min (ji6).toNat 8) % 256 = ji14 := (IntKind.wrap_u8 _).symm.trans hji14_
        have hji14u : (IntKind.u8.wrap (2 ^ min (ji6).toNat 8)) = ji14 := by have h_ := hji14_; rw [Int.one_mul] at h_; exact h_
        have hji14v : (ji6) ≤ 8 → (IntKind.u8.wrap (2 ^ (ji6).toNat)) = ji14 := fun hle_ => by have h_ := hji14z hle_; rw [Int.one_mul] at h_; exact h_
        have c15b0 := eq_true (of_decide_eq_true (by first | (with_reducible assumption) | assumption) : 0 ≤ (ji6))
        obtain ⟨ji16, hji16⟩ : ∃ j_ : Int, (shl .u64 x7_1 (ji6)) = j_ := ⟨_, rfl⟩
        replace H : (bits_take.l0 k1 (wrap64 (x1_1 + (ji6))) (wrap64 (x2_1 - (ji6))) (Go.bits .or .u64 (ji16) (IntKind.u64.wrap (Go.bits .and .u8 (ji12) (((ji14) - 1) % 256)))) l0_0 a0_1) = some r := by first | (rw [hji16] at H; exact H) | (simp only [hji16] at H ⊢; exact H)
        have hji16_ : (IntKind.u64.wrap (x7_1 * 2 ^ min (ji6).toNat 64)) = ji16 := hji16
        have hji16z : (ji6) ≤ 64 → (IntKind.u64.wrap (x7_1 * 2 ^ (ji6).toNat)) = ji16 := shl_small hji16
        have H' := Aside0.mk H
        clear H
        have hcz17_0 : wr.cell? ⟨gb145, 0, none⟩ = some (.slice A0_0 l0_0.length c0_0) := (blk_cell BK145.out 0).trans rfl
        have hcz17_1 : wr.cell? ⟨gb145, 1, none⟩ = some (.int .i64 a0_1) := (blk_cell BK145.out 1).trans rfl
        have hfz17_0 := blk_frozen BK145.out 0
        have hfz17_1 := blk_frozen BK145.out 1
        have p146 : 0 ≤ ((ji7) : Int) := of_decide_eq_true (by first | (with_reducible assumption) | assumption)
        have q146 : (ji7) < (l0_0.length : Int) := of_decide_eq_true (by first | (with_reducible assumption) | assumption)
        obtain ⟨ad146, e146, hx146_0⟩ := Kd.at_int HR0_0.out (ji7) p146 q146
        cases e146
        replace hx146_0 := (HB.out.cell (World.block_lt_of_cell? w _ hx146_0)).trans hx146_0
        replace p146 := eq_true p146
        replace q146 := eq_true q146
        go_wp2
        repeat (go_quiet (fail); try go_wp2)
        go_roundg k1
        case measure => have := HK1.out; omega
        case rel => exact ⟨(wrap64 (x1_1 + (ji6))), (wrap64 (x2_1 - (ji6))), (Go.bits .or .u64 (ji16) (IntKind.u64.wrap (Go.bits .and .u8 (ji12) (((ji14) - 1) % 256)))), (by first | rfl | (simp; done) | (simp only [← hji6] <;> (first | rfl | simp)) | (simp [*]; done)), (by first | rfl | (simp; done) | (simp only [← hji6] <;> (first | rfl | simp)) | (simp [*]; done)), (by first | rfl | (simp; done) | (simp only [← hji12, ← hji14, ← hji16] <;> (first | rfl | simp)) | (simp [*]; done)), H', ⟨by have := HK1.out; omega⟩, ⟨by (with_reducible repeat (first | refine blk_drewN ?_ _ | refine blk_drew ?_ | refine blk_alloc ?_ _)); exact BK145.out⟩, ⟨by repeat (first | (with_reducible first | exact HB.out | apply below_alloc | apply pw_below_drewN | apply below_drew1 | refine below_set ?_ GE145.out) | exact HB.out)⟩⟩
       ·rw [if_neg c13] at H
        exact absurd H (by simp)
      ·rw [if_neg c11] at H
       exact absurd H (by simp)
     ·rw [if_neg c9] at H
      exact absurd H (by simp)
    ·rw [if_neg c8] at H
     exact absurd H (by simp)
   ·rw [if_neg c5] at H
    have c5b0 : decide (0 < x2_1) = false := decide_eq_false c5
    clear c5
    obtain rfl := Option.some.inj H
    go_wp2
    repeat (go_quiet (fail); try go_wp2)
    go_ret
    exact ⟨by first | rfl | (simp [errW_none, errW_some] <;> rfl) | (simp [*, errW_none, errW_some] <;> rfl) | (simp [wrap64]; done), by repeat (first | (with_reducible first | exact HB.out | apply below_alloc | apply pw_below_drewN | apply below_drew1 | refine below_set ?_ GE145.out) | exact HB.out)⟩

end Go.Proofs.Ytkgcjiaadgnlkaa.PA
-- slim
