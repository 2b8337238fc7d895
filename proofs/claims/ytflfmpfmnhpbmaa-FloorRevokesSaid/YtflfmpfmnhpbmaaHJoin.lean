/- The floor's desk: joined; walked by hand. -/
import Derived.Test.YtflfmpfmnhpbmaaHOn
import Derived.Test.YtflfmpfmnhpbmaaHInsB
import Derived.Test.YtflfmpfmnhpbmaaPAx3
namespace Go.Proofs.Ytflfmpfmnhpbmaa.PA
open Go.RowKit Go.Proofs.YtflfmpfmnhpbmaaW.PrintWords Go.Proofs.YtflfmpfmnhpbmaaW.PrintLast Go.Proofs.YtflfmpfmnhpbmaaW.PrintMore
set_option linter.unusedVariables false
set_option linter.unusedSimpArgs false
def joinD (D : Dk) (who : Int) (i : Int) (is : Bool) : Dk :=
  if is = true then tellD D 15 who D.e 0
  else if D.mem.length ≥ 8 then tellD D 6 who 0 0
  else tellD { D with mem := D.mem.take i.toNat ++ who :: D.mem.drop i.toNat } 15 who D.e 0
theorem mem_put {w4 w5 : World} {base gb : Nat} {D : Dk} {a : S32} {A : Option Addr} {c : Nat} {vm vo v1 : Value} {ys : List Int} (h : Desk w4 base gb D a [] A c vm vo)
    (hR : Kd.R (Kd.int .i64) 3 w5 base (fun _ => True) v1 ys) (hB : Below base w4 w5) (hg : w4.grownBy w5 vm.ownBlock) :
    Desk (w5.setCell ⟨gb, 8, none⟩ v1) base gb { D with mem := ys } a [] A c v1 vo := by
  have bk := blk_grown h.blk hg (Kd.R_ne h.mem h.blk (by decide))
  exact ⟨blk_put bk 8 _ rfl, Kd.R_set (Kd.R_over h.wait h.mem (by decide) hg) bk (by decide) 8 _, Kd.R_set hR bk (by decide) 8 _, Kd.R_set (Kd.R_over h.out h.mem (by decide) hg) bk (by decide) 8 _, h.ge, by simpa using Nat.le_trans h.size hB.size⟩
set_option maxHeartbeats 8000000 in
set_option maxRecDepth 100000 in
theorem join_calls {W : World} {base gb : Nat} {D : Dk} {a : S32} {A : Option Addr} {c : Nat} {vm vo : Value} (h : Desk W base gb D a [] A c vm vo) (k : Nat) (i : Nat) (is : Bool) (hs : slices_BinarySearch_int_int.f k D.mem a.f1 = some ((i : Int), is)) (hi1 : i ≤ D.mem.length) (hout : D.out.length ≤ 1000) :
    Calls Try.prog 34 #[.pointer (some ⟨gb, 0, none⟩)] W fun e' w' => e' = .returned (.tuple #[]) ∧ (∃ vm' vo', Desk w' base gb (joinD D a.f1 i is) a [] A c vm' vo') ∧ Below base W w' := by
  obtain ⟨Am, cm, rfl⟩ := Kd.R_slice h.mem
  have HD := Aside0.mk h
  have hx8 : W.cell? ⟨gb, 8, none⟩ = some (.slice Am D.mem.length cm) := (blk_cell h.blk 8).trans rfl
  have hx10 : W.cell? ⟨gb, 10, none⟩ = some (.int .i64 a.f1) := (blk_cell h.blk 10).trans rfl
  have hx1 : W.cell? ⟨gb, 1, none⟩ = some (.int .i64 D.e) := (blk_cell h.blk 1).trans rfl
  have hmr := (Kd.R_reads' h.mem)
  have HMR := Aside0.mk hmr
  have HS := Aside0.mk hs
  have hL : D.mem.length ≤ 9223372036854775807 := hmr.2.2.2.1
  clear h hmr hs
  cases is with
  | true =>
    have hj : joinD D a.f1 i true = tellD D 15 a.f1 D.e 0 := rfl
    rw [hj]
    clear hj
    go_enter Try.func34, Try.ntmps34
    go_wp2
    go_quiet ((go_at_call 53; exact Calls.quiet_of ((slices_BinarySearch_int_int.calls k Am cm D.mem a.f1 i true _ (Kd.C_drewN HMR.out.2.2 _) HMR.out.2.1 HS.out).mono (fun e w' h => ⟨h.1, h.2.out⟩))))
    go_wp2
    have h1 := Desk.below HD.out (pw_below_drewN (Below.refl _ _) nq)
    have hB1 := (pw_below_drewN (Below.refl W.heap.size W) nq).mono HD.out.size
    generalize W.drewN nq = w1 at h1 hB1 ⊢
    have HD1 := Aside0.mk h1
    have HB1 := Aside0.mk hB1
    clear hx8 hx10 hx1
    have hx8 : w1.cell? ⟨gb, 8, none⟩ = some (.slice Am D.mem.length cm) := (blk_cell h1.blk 8).trans rfl
    have hx10 : w1.cell? ⟨gb, 10, none⟩ = some (.int .i64 a.f1) := (blk_cell h1.blk 10).trans rfl
    have hx1 : w1.cell? ⟨gb, 1, none⟩ = some (.int .i64 D.e) := (blk_cell h1.blk 1).trans rfl
    clear h1 hB1
    clear hx8
    go_still_tail 11, (by kernel_rfl)
    change wpList _ _ _ _ _ w1.drew
    have h7 := Desk.below HD1.out (below_drew1 (Below.refl _ _))
    have hB7 := below_drew1 HB1.out
    generalize w1.drew = w7 at h7 hB7 ⊢
    have HD7 := Aside0.mk h7
    have HB7 := Aside0.mk hB7
    clear h7 hB7 hx10 hx1
    go_wp2_with (go_at_call 54; refine (tell_calls HD7.out 15 a.f1 D.e 0 (by show D.out.length ≤ 1000000; omega)).mono ?_; rintro e' w' ⟨rfl, ⟨vo', hD⟩, hB⟩)
    first | go_end0 | (refine bodyPost_ret (results_none rfl _ _ _) rfl ?_)
    exact ⟨rfl, ⟨_, _, hD⟩, HB7.out.trans hB⟩
  | false =>
    by_cases hb : D.mem.length ≥ 8
    · have hj : joinD D a.f1 i false = tellD D 6 a.f1 0 0 := if_pos hb
      rw [hj]
      have hz : (8 : Int) ≤ (D.mem.length : Int) := by omega
      have hz2 : decide ((8 : Int) ≤ (D.mem.length : Int)) = true := decide_eq_true hz
      clear hj
      go_enter Try.func34, Try.ntmps34
      go_wp2
      go_quiet ((go_at_call 53; exact Calls.quiet_of ((slices_BinarySearch_int_int.calls k Am cm D.mem a.f1 i false _ (Kd.C_drewN HMR.out.2.2 _) HMR.out.2.1 HS.out).mono (fun e w' h => ⟨h.1, h.2.out⟩))))
      go_wp2_with (go_at_call 54; refine (tell_calls (Desk.below HD.out (pw_below_drewN (Below.refl _ _) _)) 6 a.f1 0 0 (by omega)).mono ?_; rintro e' w' ⟨rfl, ⟨vo', hD⟩, hB⟩)
      first | go_end0 | (refine bodyPost_ret (results_none rfl _ _ _) rfl ?_)
      exact ⟨rfl, ⟨_, _, hD⟩, ((pw_below_drewN (Below.refl _ _) _).mono HD.out.size).trans hB⟩
    · have hj : joinD D a.f1 i false = tellD { D with mem := D.mem.take i ++ a.f1 :: D.mem.drop i } 15 a.f1 D.e 0 := by
        have : joinD D a.f1 i false = tellD { D with mem := D.mem.take ((i : Int)).toNat ++ a.f1 :: D.mem.drop ((i : Int)).toNat } 15 a.f1 D.e 0 := if_neg hb
        rw [this, Int.toNat_natCast]
      obtain ⟨ys, hys⟩ : ∃ ys, ys = D.mem.take i ++ a.f1 :: D.mem.drop i := ⟨_, rfl⟩
      rw [hj, ← hys]
      have HYS := Aside0.mk hys
      have hz : ¬ ((8 : Int) ≤ (D.mem.length : Int)) := by omega
      have hz2 : decide ((8 : Int) ≤ (D.mem.length : Int)) = false := decide_eq_false hz
      have hlen : D.mem.length < 8 := by omega
      clear hj hys
      go_enter Try.func34, Try.ntmps34
      go_wp2
      go_quiet ((go_at_call 53; exact Calls.quiet_of ((slices_BinarySearch_int_int.calls k Am cm D.mem a.f1 i false _ (Kd.C_drewN HMR.out.2.2 _) HMR.out.2.1 HS.out).mono (fun e w' h => ⟨h.1, h.2.out⟩))))
      go_wp2
      have h1 := Desk.below HD.out (pw_below_drewN (Below.refl _ _) nq)
      have hB1 := (pw_below_drewN (Below.refl W.heap.size W) nq).mono HD.out.size
      generalize W.drewN nq = w1 at h1 hB1 ⊢
      have HD1 := Aside0.mk h1
      have HB1 := Aside0.mk hB1
      clear hx8 hx10 hx1
      have hx8 : w1.cell? ⟨gb, 8, none⟩ = some (.slice Am D.mem.length cm) := (blk_cell h1.blk 8).trans rfl
      have hx10 : w1.cell? ⟨gb, 10, none⟩ = some (.int .i64 a.f1) := (blk_cell h1.blk 10).trans rfl
      have hx1 : w1.cell? ⟨gb, 1, none⟩ = some (.int .i64 D.e) := (blk_cell h1.blk 1).trans rfl
      clear h1 hB1
      have hw2 := Desk.below (Desk.below HD1.out (below_alloc (Below.refl _ w1) (.cells #[.int .i64 a.f1] 3))) (below_drew1 (Below.refl _ _))
      have hB2 := HB1.out.trans ((below_drew1 (below_alloc (Below.refl _ w1) (.cells #[.int .i64 a.f1] 3))).mono HD1.out.size)
      have hv2 : (w1.alloc (.cells #[.int .i64 a.f1] 3)).drew.heap[w1.heap.size]? = some (.cells [Value.int .i64 a.f1].toArray 3 (0, 0)) := blk_drew (heap_alloc_new w1 _)
      have hn2 : some w1.heap.size ≠ (Value.slice Am D.mem.length cm).ownBlock := fun he => Nat.lt_irrefl _ (Kd.R_lt HD1.out.mem _ he.symm)
      have HW2 := Aside0.mk hw2
      have HB2 := Aside0.mk hB2
      have HV2 := Aside0.mk hv2
      have HN2 := Aside0.mk hn2
      have hgl : ¬ (gb = w1.heap.size) := Nat.ne_of_lt (blk_lt HD1.out.blk)
      have hx8A : ∀ o, (w1.alloc o).cell? ⟨gb, 8, none⟩ = some (.slice Am D.mem.length cm) := fun o => ((below_alloc (Below.refl _ w1) o).cell (blk_lt HD1.out.blk)).trans hx8
      have hx10A : ∀ o, (w1.alloc o).cell? ⟨gb, 10, none⟩ = some (.int .i64 a.f1) := fun o => ((below_alloc (Below.refl _ w1) o).cell (blk_lt HD1.out.blk)).trans hx10
      clear hw2 hB2 hv2 hn2
      go_region_with (go_at_call 55; refine (insert_inA (Kd.int .i64) rfl (okp := fun _ => False) (p := a.f1) HW2.out.mem i hi1 HV2.out (by rfl) (fun _ hk => hk.elim) (fun _ _ => trivial) HN2.out (by omega) HW2.out.size).mono ?_; rintro e' w5 ⟨v5, rfl, hR5, hB5, hg5, hat5⟩; rw [← HYS.out] at hR5; obtain ⟨A5, c5, e5⟩ := Kd.R_slice hR5; subst e5; have HD5 := Aside0.mk (mem_put HW2.out hR5 hB5 hg5); have HB5 := Aside0.mk (HB2.out.trans hB5); have BK5 := Aside0.mk (blk_grown HW2.out.blk hg5 (Kd.R_ne HW2.out.mem HW2.out.blk (by decide))); clear hR5 hB5 hg5 hat5; have hd8 : w5.cell? ⟨gb, 8, none⟩ = some (.slice Am D.mem.length cm) := (blk_cell BK5.out 8).trans rfl; have hf8 := blk_frozen BK5.out 8)
      all_goals
        have h6 := HD5.out
        have hB6 := HB5.out.trans (put_below (W := w5) HD.out.ge 8 (.slice A5 ys.length c5))
        generalize w5.setCell ⟨gb, 8, none⟩ (.slice A5 ys.length c5) = w6 at h6 hB6 ⊢
        have HD6 := Aside0.mk h6
        have HB6 := Aside0.mk hB6
        clear hd8 hf8 hx8A hx10A hgl hx8 hx10 hx1 HD5 HB5 BK5
        have hx10 : w6.cell? ⟨gb, 10, none⟩ = some (.int .i64 a.f1) := (blk_cell h6.blk 10).trans rfl
        have hx1 : w6.cell? ⟨gb, 1, none⟩ = some (.int .i64 D.e) := (blk_cell h6.blk 1).trans rfl
        clear h6 hB6
        go_wp2
        go_still_tail 11, (by kernel_rfl)
        change wpList _ _ _ _ _ w6.drew
        have h7 := Desk.below HD6.out (below_drew1 (Below.refl _ _))
        have hB7 := below_drew1 HB6.out
        generalize w6.drew = w7 at h7 hB7 ⊢
        have HD7 := Aside0.mk h7
        have HB7 := Aside0.mk hB7
        clear h7 hB7 hx10 hx1
        go_wp2_with (go_at_call 54; refine (tell_calls HD7.out 15 a.f1 D.e 0 (by show D.out.length ≤ 1000000; omega)).mono ?_; rintro e' w' ⟨rfl, ⟨vo', hD⟩, hB⟩)
        first | go_end0 | (refine bodyPost_ret (results_none rfl _ _ _) rfl ?_)
        exact ⟨rfl, ⟨_, _, hD⟩, HB7.out.trans hB⟩
end Go.Proofs.Ytflfmpfmnhpbmaa.PA
