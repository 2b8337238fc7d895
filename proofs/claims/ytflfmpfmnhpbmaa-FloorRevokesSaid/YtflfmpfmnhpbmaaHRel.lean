/- The floor's desk: released, and left; walked by hand. -/
import Derived.Test.YtflfmpfmnhpbmaaHMeth
import Derived.Test.YtflfmpfmnhpbmaaHDelete
import Derived.Test.YtflfmpfmnhpbmaaPAx3
import Derived.Outline
namespace Go.Proofs.Ytflfmpfmnhpbmaa.PA
open Go.RowKit Go.Proofs.YtflfmpfmnhpbmaaW.PrintWords Go.Proofs.YtflfmpfmnhpbmaaW.PrintLast Go.Proofs.YtflfmpfmnhpbmaaW.PrintMore
set_option linter.unusedVariables false
set_option linter.unusedSimpArgs false
def releaseD (D : Dk) (who : Int) : Dk := if D.h = who then onD (unwaitD D who) else unwaitD D who
set_option maxHeartbeats 8000000 in
set_option maxRecDepth 100000 in
theorem release_calls {W : World} {base gb : Nat} {D : Dk} {a : S32} {A : Option Addr} {c : Nat} {vm vo : Value} (h : Desk W base gb D a [] A c vm vo) (hout : D.out.length ≤ 1000) (he0 : 0 ≤ D.e) (he1 : D.e ≤ 4398046511104) (hn0 : 0 ≤ D.n) (hn1 : D.n ≤ 4398046511104) :
    Calls Try.prog 37 #[.pointer (some ⟨gb, 0, none⟩)] W fun e' w' => e' = .returned (.tuple #[]) ∧ (∃ pre vo', Desk w' base gb (releaseD D a.f1) a pre A c vm vo') ∧ Below base W w' := by
  have HD := Aside0.mk h
  have hout2 : (unwaitD D a.f1).out.length ≤ 1000000 := by show D.out.length ≤ 1000000; omega
  clear h
  by_cases hh : D.h = a.f1
  · have hr : releaseD D a.f1 = onD (unwaitD D a.f1) := if_pos hh
    have hb : (D.h == a.f1) = true := by simpa using hh
    rw [hr]
    clear hr hh
    go_enter Try.func37, Try.ntmps37
    go_wp2_with (go_at_call 59; refine (unwait_calls HD.out).mono ?_; rintro e' w1 ⟨rfl, hD1, hB1⟩; have HD1 := Aside0.mk hD1; have HB1 := Aside0.mk hB1; have hx2 : w1.cell? ⟨gb, 2, none⟩ = some (.int .i64 D.h) := (blk_cell hD1.blk 2).trans rfl; have hx10 : w1.cell? ⟨gb, 10, none⟩ = some (.int .i64 a.f1) := (blk_cell hD1.blk 10).trans rfl; clear hD1 hB1)
    go_quiet (fail)
    go_wp2_with (go_at_call 60; refine (on_calls (Desk.below HD1.out (pw_below_drewN (Below.refl _ _) _)) hout2 he0 he1 hn0 hn1).mono ?_; rintro e' w3 ⟨rfl, hD3, hB3⟩)
    go_end0
    exact ⟨rfl, hD3, HB1.out.trans (((pw_below_drewN (Below.refl _ _) _).mono HD1.out.size).trans hB3)⟩
  · have hr : releaseD D a.f1 = unwaitD D a.f1 := if_neg hh
    have hb : (D.h == a.f1) = false := by simpa using hh
    rw [hr]
    clear hr hh
    go_enter Try.func37, Try.ntmps37
    go_wp2_with (go_at_call 59; refine (unwait_calls HD.out).mono ?_; rintro e' w1 ⟨rfl, hD1, hB1⟩; have HD1 := Aside0.mk hD1; have HB1 := Aside0.mk hB1; have hx2 : w1.cell? ⟨gb, 2, none⟩ = some (.int .i64 D.h) := (blk_cell hD1.blk 2).trans rfl; have hx10 : w1.cell? ⟨gb, 10, none⟩ = some (.int .i64 a.f1) := (blk_cell hD1.blk 10).trans rfl; clear hD1 hB1)
    go_quiet (fail)
    go_wp2
    go_end0
    exact ⟨rfl, ⟨_, _, Desk.below HD1.out (pw_below_drewN (Below.refl _ _) _)⟩, HB1.out.trans ((pw_below_drewN (Below.refl _ _) _).mono HD1.out.size)⟩
/-- Leaving: i, is: what the search in the members says. -/
def leaveD (D : Dk) (who : Int) (i : Int) (is : Bool) : Dk := if is = true then releaseD { D with mem := D.mem.eraseIdx i.toNat } who else D
theorem mem_del {w4 w5 : World} {base gb g n cm : Nat} {D : Dk} {a : S32} {A : Option Addr} {c : Nat} {vo v1 : Value} {ys : List Int} (h : Desk w4 base gb D a [] A c (.slice (some ⟨g, 0, none⟩) n cm) vo)
    (hk : ∀ k, k ≠ g → k < w4.heap.size → w5.heap[k]? = w4.heap[k]?) (hR : Kd.R (Kd.int .i64) 3 w5 base (fun _ => True) v1 ys) (hB : Below base w4 w5) :
    Desk (w5.setCell ⟨gb, 8, none⟩ v1) base gb { D with mem := ys } a [] A c v1 vo := by
  have hne : ∀ k, some k ≠ (Value.slice (some ⟨g, 0, none⟩) n cm).ownBlock → k ≠ g := fun k hk e => hk (by rw [e]; simp [Value.ownBlock])
  have bk := (hk gb (hne gb (Kd.R_ne h.mem h.blk (by decide))) (blk_lt h.blk)).trans h.blk
  refine ⟨blk_put bk 8 _ rfl, ?_, Kd.R_set hR bk (by decide) 8 _, ?_, h.ge, by simpa using Nat.le_trans h.size hB.size⟩
  · exact Kd.R_set (Kd.R_mono (Kd.R_step (Kd.R_apartR h.wait h.mem (by decide)) (fun k hk1 hk2 => hk k (hne k hk1.2) hk2)) (fun _ _ => trivial)) bk (by decide) 8 _
  · exact Kd.R_set (Kd.R_mono (Kd.R_step (Kd.R_apartR h.out h.mem (by decide)) (fun k hk1 hk2 => hk k (hne k hk1.2) hk2)) (fun _ _ => trivial)) bk (by decide) 8 _
set_option maxHeartbeats 8000000 in
set_option maxRecDepth 100000 in
theorem leave_calls {W : World} {base gb : Nat} {D : Dk} {a : S32} {A : Option Addr} {c : Nat} {vm vo : Value} (h : Desk W base gb D a [] A c vm vo) (k : Nat) (i : Int) (is : Bool) (hs : slices_BinarySearch_int_int.f k D.mem a.f1 = some (i, is)) (hi0 : 0 ≤ i) (hi1 : is = true → i < (D.mem.length : Int)) (hout : D.out.length ≤ 1000) (he0 : 0 ≤ D.e) (he1 : D.e ≤ 4398046511104) (hn0 : 0 ≤ D.n) (hn1 : D.n ≤ 4398046511104) :
    Calls Try.prog 35 #[.pointer (some ⟨gb, 0, none⟩)] W fun e' w' => e' = .returned (.tuple #[]) ∧ (∃ pre vm' vo', Desk w' base gb (leaveD D a.f1 i is) a pre A c vm' vo') ∧ Below base W w' := by
  obtain ⟨Am, cm, rfl⟩ := Kd.R_slice h.mem
  have HD := Aside0.mk h
  have hx8 : W.cell? ⟨gb, 8, none⟩ = some (.slice Am D.mem.length cm) := (blk_cell h.blk 8).trans rfl
  have hx10 : W.cell? ⟨gb, 10, none⟩ = some (.int .i64 a.f1) := (blk_cell h.blk 10).trans rfl
  have hmr := (Kd.R_reads' h.mem)
  have HMR := Aside0.mk hmr
  have HS := Aside0.mk hs
  clear h hmr hs
  cases is with
  | false =>
    clear hi1
    go_enter Try.func35, Try.ntmps35
    go_wp2
    go_quiet ((go_at_call 53; exact Calls.quiet_of ((slices_BinarySearch_int_int.calls k Am cm D.mem a.f1 i false _ (Kd.C_drewN HMR.out.2.2 _) HMR.out.2.1 HS.out).mono (fun e w' h => ⟨h.1, h.2.out⟩))))
    go_wp2
    first | go_end0 | (refine bodyPost_ret (results_none rfl _ _ _) rfl ?_)
    exact ⟨rfl, ⟨_, _, _, Desk.below HD.out (pw_below_drewN (Below.refl _ _) _)⟩, (pw_below_drewN (Below.refl _ _) _).mono HD.out.size⟩
  | true =>
    have hlt := hi1 rfl
    clear hi1
    have wi : wrap64 (i + 1) = i + 1 := by unfold wrap64; have := HMR.out.2.2.2.1; omega
    obtain ⟨ad, rfl⟩ : ∃ ad, Am = some ad := by
      obtain ⟨ad, e, _⟩ := HMR.out.2.2.2.2 (by omega)
      exact ⟨ad, e⟩
    obtain ⟨g, rfl⟩ := Kd.R_head HD.out.mem
    have hl : leaveD D a.f1 i true = releaseD { D with mem := D.mem.eraseIdx i.toNat } a.f1 := rfl
    rw [hl]
    clear hl
    go_enter Try.func35, Try.ntmps35
    go_wp2
    go_quiet ((go_at_call 53; exact Calls.quiet_of ((slices_BinarySearch_int_int.calls k (some ⟨g, 0, none⟩) cm D.mem a.f1 i true _ (Kd.C_drewN HMR.out.2.2 _) HMR.out.2.1 HS.out).mono (fun e w' h => ⟨h.1, h.2.out⟩))))
    have h1 := Desk.below HD.out (pw_below_drewN (Below.refl _ _) nq)
    have hB1 := (pw_below_drewN (Below.refl W.heap.size W) nq).mono HD.out.size
    generalize W.drewN nq = w1 at h1 hB1 ⊢
    have HD1 := Aside0.mk h1
    have HB1 := Aside0.mk hB1
    clear hx8 hx10
    have hx8 : w1.cell? ⟨gb, 8, none⟩ = some (.slice (some ⟨g, 0, none⟩) D.mem.length cm) := (blk_cell h1.blk 8).trans rfl
    clear h1 hB1
    go_wp2_with (first | (go_at_call 56; refine (delete_ints (Kd.int .i64) rfl HD1.out.mem i hi0 hlt HMR.out.2.1 HD1.out.size).mono ?_; rintro e' w5 ⟨rfl, hR5, hB5, hk5⟩; have HD5 := Aside0.mk (mem_del HD1.out hk5 hR5 hB5); have HB5 := Aside0.mk (HB1.out.trans hB5); have BK5 := Aside0.mk ((hk5 gb (fun e => Kd.R_ne HD1.out.mem HD1.out.blk (by decide) (by rw [e]; simp [Value.ownBlock])) (blk_lt HD1.out.blk)).trans HD1.out.blk); clear hR5 hB5 hk5; have hd8 : w5.cell? ⟨gb, 8, none⟩ = some (.slice (some ⟨g, 0, none⟩) D.mem.length cm) := (blk_cell BK5.out 8).trans rfl; have hf8 := blk_frozen BK5.out 8) | (go_at_call 37; refine (release_calls HD5.out (by show D.out.length ≤ 1000; exact hout) he0 he1 hn0 hn1).mono ?_; rintro e' w6 ⟨rfl, ⟨pre, vo', hD6⟩, hB6⟩))
    go_end0
    exact ⟨rfl, ⟨_, _, _, hD6⟩, (HB5.out.trans (put_below HD.out.ge 8 _)).trans hB6⟩
end Go.Proofs.Ytflfmpfmnhpbmaa.PA
