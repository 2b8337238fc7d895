/- The floor's desk: asked for; walked by hand (printed by mkreq.py). -/
import Derived.Test.YtflfmpfmnhpbmaaHQueue
import Derived.Test.YtflfmpfmnhpbmaaHFind
import Derived.Test.YtflfmpfmnhpbmaaPAx3
namespace Go.Proofs.Ytflfmpfmnhpbmaa.PA
open Go.RowKit Go.Proofs.YtflfmpfmnhpbmaaW.PrintWords Go.Proofs.YtflfmpfmnhpbmaaW.PrintLast Go.Proofs.YtflfmpfmnhpbmaaW.PrintMore
set_option linter.unusedVariables false
set_option linter.unusedSimpArgs false
def requestD (D : Dk) (a : S32) (is : Bool) : Dk :=
  if is = false then tellD D 6 a.f1 0 0
  else if D.s = 0 then grantD D a.f1 a.f2
  else if D.h = a.f1 then (if D.s = 1 then tellD D 5 a.f1 D.e 0 else tellD D 8 a.f1 D.e 0)
  else if 0 ≤ idxP (isWho a.f1) D.wait 0 then tellD D 7 a.f1 0 (idxP (isWho a.f1) D.wait 0 + 1)
  else if 4 ≤ D.wait.length then tellD D 6 a.f1 0 0
  else queueD D a.f1 a.f2
set_option maxHeartbeats 16000000 in
set_option maxRecDepth 100000 in
theorem request_calls {W : World} {base gb : Nat} {D : Dk} {a : S32} {A : Option Addr} {c : Nat} {vm vo : Value} (h : Desk W base gb D a [] A c vm vo) (k : Nat) (is : Bool) (hm : floor_member.f k D.s D.e D.h D.p D.u D.l D.n D.wait D.mem a.f1 = some is) (hwl : D.wait.length ≤ 4) (hout : D.out.length ≤ 1000) (he0 : 0 ≤ D.e) (he1 : D.e ≤ 4398046511104) (hn0 : 0 ≤ D.n) (hn1 : D.n ≤ 4398046511104) :
    Calls Try.prog 36 #[.pointer (some ⟨gb, 0, none⟩)] W fun e' w' => e' = .returned (.tuple #[]) ∧ (∃ A' c' vo', Desk w' base gb (requestD D a is) a [] A' c' vm vo') ∧ Below base W w' := by
  obtain ⟨Am, cm, rfl⟩ := Kd.R_slice h.mem
  have HD := Aside0.mk h
  have HM := Aside0.mk hm
  have hx10 : W.cell? ⟨gb, 10, none⟩ = some (.int .i64 a.f1) := (blk_cell h.blk 10).trans rfl
  have hx11 : W.cell? ⟨gb, 11, none⟩ = some (.int .i64 a.f2) := (blk_cell h.blk 11).trans rfl
  have hgl : ¬ (gb = W.heap.size) := Nat.ne_of_lt (blk_lt h.blk)
  have hx10A : ∀ o, (W.alloc o).cell? ⟨gb, 10, none⟩ = some (.int .i64 a.f1) := fun o => ((below_alloc (Below.refl _ W) o).cell (blk_lt h.blk)).trans hx10
  have hx11A : ∀ o, (W.alloc o).cell? ⟨gb, 11, none⟩ = some (.int .i64 a.f2) := fun o => ((below_alloc (Below.refl _ W) o).cell (blk_lt h.blk)).trans hx11
  obtain ⟨at_, hat⟩ : ∃ at_, at_ = idxP (isWho a.f1) D.wait 0 := ⟨_, rfl⟩
  have hfind : floor_find.f D.s D.e D.h D.p D.u D.l D.n D.wait D.mem a.f1 = some at_ := by rw [hat]; rfl
  have hatb : at_ < 5 ∧ -1 ≤ at_ := by
    rcases idxP_spec (isWho a.f1) D.wait 0 with ⟨h1, _, _⟩ | h1 | ⟨i, hi, h1, _, _⟩
    · rw [hat, h1]; exact ⟨by decide, by decide⟩
    · exact absurd h1 (by decide)
    · rw [hat, h1]; constructor <;> omega
  have HF := Aside0.mk hfind
  have HAT := Aside0.mk hat
  have wat : IntKind.i64.wrap (at_ + 1) = at_ + 1 := by rw [IntKind.wrap_i64]; omega
  have wat2 : wrap64 (at_ + 1) = at_ + 1 := by unfold wrap64; omega
  clear h hm hat hfind
  go_enter Try.func36, Try.ntmps36
  go_wp2
  go_region
  have h2 := Desk.below HD.out (below_drew1 (below_alloc (Below.refl _ W) (.cells #[.int .i64 a.f1, .int .i64 a.f2] 43)))
  have hB2 := (below_drew1 (below_alloc (Below.refl W.heap.size W) (.cells #[.int .i64 a.f1, .int .i64 a.f2] 43))).mono HD.out.size
  have hk2 : (W.alloc (.cells #[.int .i64 a.f1, .int .i64 a.f2] 43)).drew.heap[W.heap.size]? = some (.cells #[.int .i64 a.f1, .int .i64 a.f2] 43 (0, 0)) := blk_drew (heap_alloc_new W _)
  generalize (W.alloc (.cells #[.int .i64 a.f1, .int .i64 a.f2] 43)).drew = w2 at h2 hB2 hk2 ⊢
  generalize W.heap.size = g2 at hk2 ⊢
  have HDa := Aside0.mk h2
  have HBa := Aside0.mk hB2
  have BKa := Aside0.mk hk2
  clear hx10 hx11 hgl hx10A hx11A
  have hx0 : w2.cell? ⟨gb, 0, none⟩ = some (.int .i64 D.s) := (blk_cell h2.blk 0).trans rfl
  have hx1 : w2.cell? ⟨gb, 1, none⟩ = some (.int .i64 D.e) := (blk_cell h2.blk 1).trans rfl
  have hx2 : w2.cell? ⟨gb, 2, none⟩ = some (.int .i64 D.h) := (blk_cell h2.blk 2).trans rfl
  have hx3 : w2.cell? ⟨gb, 3, none⟩ = some (.int .i64 D.p) := (blk_cell h2.blk 3).trans rfl
  have hx4 : w2.cell? ⟨gb, 4, none⟩ = some (.int .i64 D.u) := (blk_cell h2.blk 4).trans rfl
  have hx5 : w2.cell? ⟨gb, 5, none⟩ = some (.int .i64 D.l) := (blk_cell h2.blk 5).trans rfl
  have hx6 : w2.cell? ⟨gb, 6, none⟩ = some (.int .i64 D.n) := (blk_cell h2.blk 6).trans rfl
  have hx7 : w2.cell? ⟨gb, 7, none⟩ = some (.slice A D.wait.length c) := (blk_cell h2.blk 7).trans rfl
  have hx8 : w2.cell? ⟨gb, 8, none⟩ = some (.slice Am D.mem.length cm) := (blk_cell h2.blk 8).trans rfl
  have hd0 : w2.cell? ⟨g2, 0, none⟩ = some (.int .i64 a.f1) := (blk_cell hk2 0).trans rfl
  have hd1 : w2.cell? ⟨g2, 1, none⟩ = some (.int .i64 a.f2) := (blk_cell hk2 1).trans rfl
  clear h2 hB2 hk2
  go_wp2
  go_still_tail 6, (by kernel_rfl)
  change wpList _ _ _ _ _ w2.drew
  have h7 := Desk.below HDa.out (below_drew1 (Below.refl _ _))
  have hB7 := below_drew1 HBa.out
  have hk7 := blk_drew BKa.out
  generalize w2.drew = w3 at h7 hB7 hk7 ⊢
  have HDb := Aside0.mk h7
  have HBb := Aside0.mk hB7
  have BKb := Aside0.mk hk7
  clear h7 hB7 hk7 HDa HBa BKa
  clear hx0 hx1 hx2 hx3 hx4 hx5 hx6 hx7 hx8 hd0 hd1
  go_wp2_with (go_at_call 44; refine (floor_find.calls D.s D.e D.h D.p D.u D.l D.n A c D.wait Am cm D.mem a.f1 at_ w3 (Kd.R_reads' HDb.out.wait).2.2 (Kd.R_reads' HDb.out.wait).2.1 (Kd.R_reads' HDb.out.mem).2.2 (Kd.R_reads' HDb.out.mem).2.1 HF.out).mono ?_; rintro e w4 ⟨rfl, hb⟩; have HDc := Aside0.mk (Desk.below HDb.out hb); have HBc := Aside0.mk (HBb.out.trans (hb.mono HDb.out.size)); have BKc := Aside0.mk (blk_below BKb.out hb); clear hb HDb HBb BKb)
  have hx0 : w4.cell? ⟨gb, 0, none⟩ = some (.int .i64 D.s) := (blk_cell HDc.out.blk 0).trans rfl
  have hx1 : w4.cell? ⟨gb, 1, none⟩ = some (.int .i64 D.e) := (blk_cell HDc.out.blk 1).trans rfl
  have hx2 : w4.cell? ⟨gb, 2, none⟩ = some (.int .i64 D.h) := (blk_cell HDc.out.blk 2).trans rfl
  have hx3 : w4.cell? ⟨gb, 3, none⟩ = some (.int .i64 D.p) := (blk_cell HDc.out.blk 3).trans rfl
  have hx4 : w4.cell? ⟨gb, 4, none⟩ = some (.int .i64 D.u) := (blk_cell HDc.out.blk 4).trans rfl
  have hx5 : w4.cell? ⟨gb, 5, none⟩ = some (.int .i64 D.l) := (blk_cell HDc.out.blk 5).trans rfl
  have hx6 : w4.cell? ⟨gb, 6, none⟩ = some (.int .i64 D.n) := (blk_cell HDc.out.blk 6).trans rfl
  have hx7 : w4.cell? ⟨gb, 7, none⟩ = some (.slice A D.wait.length c) := (blk_cell HDc.out.blk 7).trans rfl
  have hx8 : w4.cell? ⟨gb, 8, none⟩ = some (.slice Am D.mem.length cm) := (blk_cell HDc.out.blk 8).trans rfl
  obtain ⟨hd0, hd1⟩ := cells2 BKc.out
  go_wp2
  go_still_tail 6, (by kernel_rfl)
  change wpList _ _ _ _ _ w4.drew
  have h7 := Desk.below HDc.out (below_drew1 (Below.refl _ _))
  have hB7 := below_drew1 HBc.out
  have hk7 := blk_drew BKc.out
  generalize w4.drew = w5 at h7 hB7 hk7 ⊢
  have HDd := Aside0.mk h7
  have HBd := Aside0.mk hB7
  have BKd := Aside0.mk hk7
  clear h7 hB7 hk7 HDc HBc BKc
  clear hx0 hx1 hx2 hx3 hx4 hx5 hx6 hx7 hx8 hd0 hd1
  have HX : Aside0 (at_ = idxP (isWho a.f1) D.wait 0) := HAT
  cases is with
  | false =>
    go_wp2_with (first | (go_at_call 45; refine (floor_member.calls k D.s D.e D.h D.p D.u D.l D.n A c D.wait Am cm D.mem a.f1 _ w5 (Kd.R_reads' HDd.out.wait).2.2 (Kd.R_reads' HDd.out.wait).2.1 (Kd.R_reads' HDd.out.mem).2.2 (Kd.R_reads' HDd.out.mem).2.1 HM.out).mono ?_; rintro e w6 ⟨rfl, hb⟩; have HDf := Aside0.mk (Desk.below HDd.out hb); have HBf := Aside0.mk (HBd.out.trans (hb.mono HDd.out.size)); have BKf := Aside0.mk (blk_below BKd.out hb); clear hb HDd HBd BKd; have hx0 : w6.cell? ⟨gb, 0, none⟩ = some (.int .i64 D.s) := (blk_cell HDf.out.blk 0).trans rfl; have hx1 : w6.cell? ⟨gb, 1, none⟩ = some (.int .i64 D.e) := (blk_cell HDf.out.blk 1).trans rfl; have hx2 : w6.cell? ⟨gb, 2, none⟩ = some (.int .i64 D.h) := (blk_cell HDf.out.blk 2).trans rfl; have hx3 : w6.cell? ⟨gb, 3, none⟩ = some (.int .i64 D.p) := (blk_cell HDf.out.blk 3).trans rfl; have hx4 : w6.cell? ⟨gb, 4, none⟩ = some (.int .i64 D.u) := (blk_cell HDf.out.blk 4).trans rfl; have hx5 : w6.cell? ⟨gb, 5, none⟩ = some (.int .i64 D.l) := (blk_cell HDf.out.blk 5).trans rfl; have hx6 : w6.cell? ⟨gb, 6, none⟩ = some (.int .i64 D.n) := (blk_cell HDf.out.blk 6).trans rfl; have hx7 : w6.cell? ⟨gb, 7, none⟩ = some (.slice A D.wait.length c) := (blk_cell HDf.out.blk 7).trans rfl; have hx8 : w6.cell? ⟨gb, 8, none⟩ = some (.slice Am D.mem.length cm) := (blk_cell HDf.out.blk 8).trans rfl; obtain ⟨hd0, hd1⟩ := cells2 BKf.out) | (go_at_call 54; refine (tell_calls HDf.out 6 a.f1 0 0 (by omega)).mono ?_; rintro e' w' ⟨rfl, ⟨vo', hD⟩, hB⟩))
    first | go_end0 | (refine bodyPost_ret (results_none rfl _ _ _) rfl ?_)
    refine ⟨rfl, ⟨A, c, vo', ?_⟩, HBf.out.trans hB⟩
    have hq : requestD D a false = tellD D 6 a.f1 0 0 := if_pos rfl
    rw [hq]
    exact hD
  | true =>
    by_cases h0 : D.s = 0
    · have hb0 : (D.s == 0) = true := by simpa using h0
      have HC0 := Aside0.mk h0
      clear h0
      go_wp2_with (first | (go_at_call 45; refine (floor_member.calls k D.s D.e D.h D.p D.u D.l D.n A c D.wait Am cm D.mem a.f1 _ w5 (Kd.R_reads' HDd.out.wait).2.2 (Kd.R_reads' HDd.out.wait).2.1 (Kd.R_reads' HDd.out.mem).2.2 (Kd.R_reads' HDd.out.mem).2.1 HM.out).mono ?_; rintro e w6 ⟨rfl, hb⟩; have HDf := Aside0.mk (Desk.below HDd.out hb); have HBf := Aside0.mk (HBd.out.trans (hb.mono HDd.out.size)); have BKf := Aside0.mk (blk_below BKd.out hb); clear hb HDd HBd BKd; have hx0 : w6.cell? ⟨gb, 0, none⟩ = some (.int .i64 D.s) := (blk_cell HDf.out.blk 0).trans rfl; have hx1 : w6.cell? ⟨gb, 1, none⟩ = some (.int .i64 D.e) := (blk_cell HDf.out.blk 1).trans rfl; have hx2 : w6.cell? ⟨gb, 2, none⟩ = some (.int .i64 D.h) := (blk_cell HDf.out.blk 2).trans rfl; have hx3 : w6.cell? ⟨gb, 3, none⟩ = some (.int .i64 D.p) := (blk_cell HDf.out.blk 3).trans rfl; have hx4 : w6.cell? ⟨gb, 4, none⟩ = some (.int .i64 D.u) := (blk_cell HDf.out.blk 4).trans rfl; have hx5 : w6.cell? ⟨gb, 5, none⟩ = some (.int .i64 D.l) := (blk_cell HDf.out.blk 5).trans rfl; have hx6 : w6.cell? ⟨gb, 6, none⟩ = some (.int .i64 D.n) := (blk_cell HDf.out.blk 6).trans rfl; have hx7 : w6.cell? ⟨gb, 7, none⟩ = some (.slice A D.wait.length c) := (blk_cell HDf.out.blk 7).trans rfl; have hx8 : w6.cell? ⟨gb, 8, none⟩ = some (.slice Am D.mem.length cm) := (blk_cell HDf.out.blk 8).trans rfl; obtain ⟨hd0, hd1⟩ := cells2 BKf.out) | (go_at_call 57; refine (grant_calls HDf.out a.f1 a.f2 (by omega) he0 he1 hn0 hn1).mono ?_; rintro e' w' ⟨rfl, ⟨vo', hD⟩, hB⟩))
      first | go_end0 | (refine bodyPost_ret (results_none rfl _ _ _) rfl ?_)
      refine ⟨rfl, ⟨A, c, vo', ?_⟩, HBf.out.trans hB⟩
      have hq : requestD D a true = grantD D a.f1 a.f2 := by unfold requestD; rw [if_neg (by decide), if_pos HC0.out]
      rw [hq]
      exact hD
    have hb0 : (D.s == 0) = false := by simpa using h0
    have HC0 := Aside0.mk h0
    clear h0
    by_cases h1 : D.h = a.f1
    · have hb1 : (D.h == a.f1) = true := by simpa using h1
      have HC1 := Aside0.mk h1
      clear h1
      by_cases h2 : D.s = 1
      · have hb2 : (D.s == 1) = true := by simpa using h2
        have HC2 := Aside0.mk h2
        clear h2
        go_wp2_with (go_at_call 45; refine (floor_member.calls k D.s D.e D.h D.p D.u D.l D.n A c D.wait Am cm D.mem a.f1 _ w5 (Kd.R_reads' HDd.out.wait).2.2 (Kd.R_reads' HDd.out.wait).2.1 (Kd.R_reads' HDd.out.mem).2.2 (Kd.R_reads' HDd.out.mem).2.1 HM.out).mono ?_; rintro e w6 ⟨rfl, hb⟩; have HDf := Aside0.mk (Desk.below HDd.out hb); have HBf := Aside0.mk (HBd.out.trans (hb.mono HDd.out.size)); have BKf := Aside0.mk (blk_below BKd.out hb); clear hb HDd HBd BKd; have hx0 : w6.cell? ⟨gb, 0, none⟩ = some (.int .i64 D.s) := (blk_cell HDf.out.blk 0).trans rfl; have hx1 : w6.cell? ⟨gb, 1, none⟩ = some (.int .i64 D.e) := (blk_cell HDf.out.blk 1).trans rfl; have hx2 : w6.cell? ⟨gb, 2, none⟩ = some (.int .i64 D.h) := (blk_cell HDf.out.blk 2).trans rfl; have hx3 : w6.cell? ⟨gb, 3, none⟩ = some (.int .i64 D.p) := (blk_cell HDf.out.blk 3).trans rfl; have hx4 : w6.cell? ⟨gb, 4, none⟩ = some (.int .i64 D.u) := (blk_cell HDf.out.blk 4).trans rfl; have hx5 : w6.cell? ⟨gb, 5, none⟩ = some (.int .i64 D.l) := (blk_cell HDf.out.blk 5).trans rfl; have hx6 : w6.cell? ⟨gb, 6, none⟩ = some (.int .i64 D.n) := (blk_cell HDf.out.blk 6).trans rfl; have hx7 : w6.cell? ⟨gb, 7, none⟩ = some (.slice A D.wait.length c) := (blk_cell HDf.out.blk 7).trans rfl; have hx8 : w6.cell? ⟨gb, 8, none⟩ = some (.slice Am D.mem.length cm) := (blk_cell HDf.out.blk 8).trans rfl; obtain ⟨hd0, hd1⟩ := cells2 BKf.out)
        go_quiet (fail)
        go_wp2
        have hN := Desk.below HDf.out (pw_below_drewN (Below.refl _ _) nq)
        have hM := HBf.out.trans ((pw_below_drewN (Below.refl _ _) nq).mono HDf.out.size)
        have hK := blk_below BKf.out (pw_below_drewN (Below.refl _ _) nq)
        generalize w6.drewN nq = w8 at hN hM hK ⊢
        have HDg := Aside0.mk hN
        have HBg := Aside0.mk hM
        have BKg := Aside0.mk hK
        clear hN hM hK
        clear hx0 hx1 hx2 hx3 hx4 hx5 hx6 hx7 hx8 hd0 hd1
        have hx0 : w8.cell? ⟨gb, 0, none⟩ = some (.int .i64 D.s) := (blk_cell HDg.out.blk 0).trans rfl
        have hx1 : w8.cell? ⟨gb, 1, none⟩ = some (.int .i64 D.e) := (blk_cell HDg.out.blk 1).trans rfl
        have hx2 : w8.cell? ⟨gb, 2, none⟩ = some (.int .i64 D.h) := (blk_cell HDg.out.blk 2).trans rfl
        have hx3 : w8.cell? ⟨gb, 3, none⟩ = some (.int .i64 D.p) := (blk_cell HDg.out.blk 3).trans rfl
        have hx4 : w8.cell? ⟨gb, 4, none⟩ = some (.int .i64 D.u) := (blk_cell HDg.out.blk 4).trans rfl
        have hx5 : w8.cell? ⟨gb, 5, none⟩ = some (.int .i64 D.l) := (blk_cell HDg.out.blk 5).trans rfl
        have hx6 : w8.cell? ⟨gb, 6, none⟩ = some (.int .i64 D.n) := (blk_cell HDg.out.blk 6).trans rfl
        have hx7 : w8.cell? ⟨gb, 7, none⟩ = some (.slice A D.wait.length c) := (blk_cell HDg.out.blk 7).trans rfl
        have hx8 : w8.cell? ⟨gb, 8, none⟩ = some (.slice Am D.mem.length cm) := (blk_cell HDg.out.blk 8).trans rfl
        obtain ⟨hd0, hd1⟩ := cells2 BKg.out
        go_still_tail 8, (by kernel_rfl)
        change wpList _ _ _ _ _ w8.drew
        have h7 := Desk.below HDg.out (below_drew1 (Below.refl _ _))
        have hB7 := below_drew1 HBg.out
        have hk7 := blk_drew BKg.out
        generalize w8.drew = w9 at h7 hB7 hk7 ⊢
        have HDh := Aside0.mk h7
        have HBh := Aside0.mk hB7
        have BKh := Aside0.mk hk7
        clear h7 hB7 hk7 HDg HBg BKg
        clear hx0 hx1 hx2 hx3 hx4 hx5 hx6 hx7 hx8 hd0 hd1
        go_wp2_with (go_at_call 54; refine (tell_calls HDh.out 5 a.f1 D.e 0 (by omega)).mono ?_; rintro e' w' ⟨rfl, ⟨vo', hD⟩, hB⟩)
        first | go_end0 | (refine bodyPost_ret (results_none rfl _ _ _) rfl ?_)
        refine ⟨rfl, ⟨A, c, vo', ?_⟩, HBh.out.trans hB⟩
        have hq : requestD D a true = tellD D 5 a.f1 D.e 0 := by unfold requestD; rw [if_neg (by decide), if_neg HC0.out, if_pos HC1.out, if_pos HC2.out]
        rw [hq]
        exact hD
      · have hb2 : (D.s == 1) = false := by simpa using h2
        have HC2 := Aside0.mk h2
        clear h2
        go_wp2_with (go_at_call 45; refine (floor_member.calls k D.s D.e D.h D.p D.u D.l D.n A c D.wait Am cm D.mem a.f1 _ w5 (Kd.R_reads' HDd.out.wait).2.2 (Kd.R_reads' HDd.out.wait).2.1 (Kd.R_reads' HDd.out.mem).2.2 (Kd.R_reads' HDd.out.mem).2.1 HM.out).mono ?_; rintro e w6 ⟨rfl, hb⟩; have HDf := Aside0.mk (Desk.below HDd.out hb); have HBf := Aside0.mk (HBd.out.trans (hb.mono HDd.out.size)); have BKf := Aside0.mk (blk_below BKd.out hb); clear hb HDd HBd BKd; have hx0 : w6.cell? ⟨gb, 0, none⟩ = some (.int .i64 D.s) := (blk_cell HDf.out.blk 0).trans rfl; have hx1 : w6.cell? ⟨gb, 1, none⟩ = some (.int .i64 D.e) := (blk_cell HDf.out.blk 1).trans rfl; have hx2 : w6.cell? ⟨gb, 2, none⟩ = some (.int .i64 D.h) := (blk_cell HDf.out.blk 2).trans rfl; have hx3 : w6.cell? ⟨gb, 3, none⟩ = some (.int .i64 D.p) := (blk_cell HDf.out.blk 3).trans rfl; have hx4 : w6.cell? ⟨gb, 4, none⟩ = some (.int .i64 D.u) := (blk_cell HDf.out.blk 4).trans rfl; have hx5 : w6.cell? ⟨gb, 5, none⟩ = some (.int .i64 D.l) := (blk_cell HDf.out.blk 5).trans rfl; have hx6 : w6.cell? ⟨gb, 6, none⟩ = some (.int .i64 D.n) := (blk_cell HDf.out.blk 6).trans rfl; have hx7 : w6.cell? ⟨gb, 7, none⟩ = some (.slice A D.wait.length c) := (blk_cell HDf.out.blk 7).trans rfl; have hx8 : w6.cell? ⟨gb, 8, none⟩ = some (.slice Am D.mem.length cm) := (blk_cell HDf.out.blk 8).trans rfl; obtain ⟨hd0, hd1⟩ := cells2 BKf.out)
        go_quiet (fail)
        go_wp2
        have hN := Desk.below HDf.out (pw_below_drewN (Below.refl _ _) nq)
        have hM := HBf.out.trans ((pw_below_drewN (Below.refl _ _) nq).mono HDf.out.size)
        have hK := blk_below BKf.out (pw_below_drewN (Below.refl _ _) nq)
        generalize w6.drewN nq = w8 at hN hM hK ⊢
        have HDg := Aside0.mk hN
        have HBg := Aside0.mk hM
        have BKg := Aside0.mk hK
        clear hN hM hK
        clear hx0 hx1 hx2 hx3 hx4 hx5 hx6 hx7 hx8 hd0 hd1
        have hx0 : w8.cell? ⟨gb, 0, none⟩ = some (.int .i64 D.s) := (blk_cell HDg.out.blk 0).trans rfl
        have hx1 : w8.cell? ⟨gb, 1, none⟩ = some (.int .i64 D.e) := (blk_cell HDg.out.blk 1).trans rfl
        have hx2 : w8.cell? ⟨gb, 2, none⟩ = some (.int .i64 D.h) := (blk_cell HDg.out.blk 2).trans rfl
        have hx3 : w8.cell? ⟨gb, 3, none⟩ = some (.int .i64 D.p) := (blk_cell HDg.out.blk 3).trans rfl
        have hx4 : w8.cell? ⟨gb, 4, none⟩ = some (.int .i64 D.u) := (blk_cell HDg.out.blk 4).trans rfl
        have hx5 : w8.cell? ⟨gb, 5, none⟩ = some (.int .i64 D.l) := (blk_cell HDg.out.blk 5).trans rfl
        have hx6 : w8.cell? ⟨gb, 6, none⟩ = some (.int .i64 D.n) := (blk_cell HDg.out.blk 6).trans rfl
        have hx7 : w8.cell? ⟨gb, 7, none⟩ = some (.slice A D.wait.length c) := (blk_cell HDg.out.blk 7).trans rfl
        have hx8 : w8.cell? ⟨gb, 8, none⟩ = some (.slice Am D.mem.length cm) := (blk_cell HDg.out.blk 8).trans rfl
        obtain ⟨hd0, hd1⟩ := cells2 BKg.out
        go_quiet (fail)
        go_wp2
        have hN := Desk.below HDg.out (pw_below_drewN (Below.refl _ _) nq)
        have hM := HBg.out.trans ((pw_below_drewN (Below.refl _ _) nq).mono HDg.out.size)
        have hK := blk_below BKg.out (pw_below_drewN (Below.refl _ _) nq)
        generalize w8.drewN nq = w10 at hN hM hK ⊢
        have HDi := Aside0.mk hN
        have HBi := Aside0.mk hM
        have BKi := Aside0.mk hK
        clear hN hM hK
        clear hx0 hx1 hx2 hx3 hx4 hx5 hx6 hx7 hx8 hd0 hd1
        have hx0 : w10.cell? ⟨gb, 0, none⟩ = some (.int .i64 D.s) := (blk_cell HDi.out.blk 0).trans rfl
        have hx1 : w10.cell? ⟨gb, 1, none⟩ = some (.int .i64 D.e) := (blk_cell HDi.out.blk 1).trans rfl
        have hx2 : w10.cell? ⟨gb, 2, none⟩ = some (.int .i64 D.h) := (blk_cell HDi.out.blk 2).trans rfl
        have hx3 : w10.cell? ⟨gb, 3, none⟩ = some (.int .i64 D.p) := (blk_cell HDi.out.blk 3).trans rfl
        have hx4 : w10.cell? ⟨gb, 4, none⟩ = some (.int .i64 D.u) := (blk_cell HDi.out.blk 4).trans rfl
        have hx5 : w10.cell? ⟨gb, 5, none⟩ = some (.int .i64 D.l) := (blk_cell HDi.out.blk 5).trans rfl
        have hx6 : w10.cell? ⟨gb, 6, none⟩ = some (.int .i64 D.n) := (blk_cell HDi.out.blk 6).trans rfl
        have hx7 : w10.cell? ⟨gb, 7, none⟩ = some (.slice A D.wait.length c) := (blk_cell HDi.out.blk 7).trans rfl
        have hx8 : w10.cell? ⟨gb, 8, none⟩ = some (.slice Am D.mem.length cm) := (blk_cell HDi.out.blk 8).trans rfl
        obtain ⟨hd0, hd1⟩ := cells2 BKi.out
        go_still_tail 8, (by kernel_rfl)
        change wpList _ _ _ _ _ w10.drew
        have h7 := Desk.below HDi.out (below_drew1 (Below.refl _ _))
        have hB7 := below_drew1 HBi.out
        have hk7 := blk_drew BKi.out
        generalize w10.drew = w9 at h7 hB7 hk7 ⊢
        have HDh := Aside0.mk h7
        have HBh := Aside0.mk hB7
        have BKh := Aside0.mk hk7
        clear h7 hB7 hk7 HDi HBi BKi
        clear hx0 hx1 hx2 hx3 hx4 hx5 hx6 hx7 hx8 hd0 hd1
        go_wp2_with (go_at_call 54; refine (tell_calls HDh.out 8 a.f1 D.e 0 (by omega)).mono ?_; rintro e' w' ⟨rfl, ⟨vo', hD⟩, hB⟩)
        first | go_end0 | (refine bodyPost_ret (results_none rfl _ _ _) rfl ?_)
        refine ⟨rfl, ⟨A, c, vo', ?_⟩, HBh.out.trans hB⟩
        have hq : requestD D a true = tellD D 8 a.f1 D.e 0 := by unfold requestD; rw [if_neg (by decide), if_neg HC0.out, if_pos HC1.out, if_neg HC2.out]
        rw [hq]
        exact hD
    have hb1 : (D.h == a.f1) = false := by simpa using h1
    have HC1 := Aside0.mk h1
    clear h1
    by_cases h3 : 0 ≤ at_
    · have hb3 : decide (0 ≤ at_) = true := decide_eq_true h3
      have HC3 := Aside0.mk h3
      clear h3
      go_wp2_with (go_at_call 45; refine (floor_member.calls k D.s D.e D.h D.p D.u D.l D.n A c D.wait Am cm D.mem a.f1 _ w5 (Kd.R_reads' HDd.out.wait).2.2 (Kd.R_reads' HDd.out.wait).2.1 (Kd.R_reads' HDd.out.mem).2.2 (Kd.R_reads' HDd.out.mem).2.1 HM.out).mono ?_; rintro e w6 ⟨rfl, hb⟩; have HDf := Aside0.mk (Desk.below HDd.out hb); have HBf := Aside0.mk (HBd.out.trans (hb.mono HDd.out.size)); have BKf := Aside0.mk (blk_below BKd.out hb); clear hb HDd HBd BKd; have hx0 : w6.cell? ⟨gb, 0, none⟩ = some (.int .i64 D.s) := (blk_cell HDf.out.blk 0).trans rfl; have hx1 : w6.cell? ⟨gb, 1, none⟩ = some (.int .i64 D.e) := (blk_cell HDf.out.blk 1).trans rfl; have hx2 : w6.cell? ⟨gb, 2, none⟩ = some (.int .i64 D.h) := (blk_cell HDf.out.blk 2).trans rfl; have hx3 : w6.cell? ⟨gb, 3, none⟩ = some (.int .i64 D.p) := (blk_cell HDf.out.blk 3).trans rfl; have hx4 : w6.cell? ⟨gb, 4, none⟩ = some (.int .i64 D.u) := (blk_cell HDf.out.blk 4).trans rfl; have hx5 : w6.cell? ⟨gb, 5, none⟩ = some (.int .i64 D.l) := (blk_cell HDf.out.blk 5).trans rfl; have hx6 : w6.cell? ⟨gb, 6, none⟩ = some (.int .i64 D.n) := (blk_cell HDf.out.blk 6).trans rfl; have hx7 : w6.cell? ⟨gb, 7, none⟩ = some (.slice A D.wait.length c) := (blk_cell HDf.out.blk 7).trans rfl; have hx8 : w6.cell? ⟨gb, 8, none⟩ = some (.slice Am D.mem.length cm) := (blk_cell HDf.out.blk 8).trans rfl; obtain ⟨hd0, hd1⟩ := cells2 BKf.out)
      go_quiet (fail)
      go_wp2
      go_quiet (fail)
      go_wp2_with (go_at_call 54; refine (tell_calls (Desk.below HDf.out (pw_below_drewN (Below.refl w6.heap.size w6) _)) 7 a.f1 0 (at_ + 1) (by omega)).mono ?_; rintro e' w' ⟨rfl, ⟨vo', hD⟩, hB⟩)
      first | go_end0 | (refine bodyPost_ret (results_none rfl _ _ _) rfl ?_)
      refine ⟨rfl, ⟨A, c, vo', ?_⟩, (HBf.out.trans ((pw_below_drewN (Below.refl w6.heap.size w6) _).mono HDf.out.size)).trans hB⟩
      have hq : requestD D a true = tellD D 7 a.f1 0 (at_ + 1) := by unfold requestD; rw [if_neg (by decide), if_neg HC0.out, if_neg HC1.out, ← HX.out, if_pos HC3.out]
      rw [hq]
      exact hD
    have hb3 : decide (0 ≤ at_) = false := decide_eq_false h3
    have HC3 := Aside0.mk h3
    clear h3
    by_cases h4 : 4 ≤ D.wait.length
    · have hz4 : (4 : Int) ≤ (D.wait.length : Int) := by omega
      have hb4 : decide ((4 : Int) ≤ (D.wait.length : Int)) = true := decide_eq_true hz4
      have HC4 := Aside0.mk h4
      clear h4
      go_wp2_with (go_at_call 45; refine (floor_member.calls k D.s D.e D.h D.p D.u D.l D.n A c D.wait Am cm D.mem a.f1 _ w5 (Kd.R_reads' HDd.out.wait).2.2 (Kd.R_reads' HDd.out.wait).2.1 (Kd.R_reads' HDd.out.mem).2.2 (Kd.R_reads' HDd.out.mem).2.1 HM.out).mono ?_; rintro e w6 ⟨rfl, hb⟩; have HDf := Aside0.mk (Desk.below HDd.out hb); have HBf := Aside0.mk (HBd.out.trans (hb.mono HDd.out.size)); have BKf := Aside0.mk (blk_below BKd.out hb); clear hb HDd HBd BKd; have hx0 : w6.cell? ⟨gb, 0, none⟩ = some (.int .i64 D.s) := (blk_cell HDf.out.blk 0).trans rfl; have hx1 : w6.cell? ⟨gb, 1, none⟩ = some (.int .i64 D.e) := (blk_cell HDf.out.blk 1).trans rfl; have hx2 : w6.cell? ⟨gb, 2, none⟩ = some (.int .i64 D.h) := (blk_cell HDf.out.blk 2).trans rfl; have hx3 : w6.cell? ⟨gb, 3, none⟩ = some (.int .i64 D.p) := (blk_cell HDf.out.blk 3).trans rfl; have hx4 : w6.cell? ⟨gb, 4, none⟩ = some (.int .i64 D.u) := (blk_cell HDf.out.blk 4).trans rfl; have hx5 : w6.cell? ⟨gb, 5, none⟩ = some (.int .i64 D.l) := (blk_cell HDf.out.blk 5).trans rfl; have hx6 : w6.cell? ⟨gb, 6, none⟩ = some (.int .i64 D.n) := (blk_cell HDf.out.blk 6).trans rfl; have hx7 : w6.cell? ⟨gb, 7, none⟩ = some (.slice A D.wait.length c) := (blk_cell HDf.out.blk 7).trans rfl; have hx8 : w6.cell? ⟨gb, 8, none⟩ = some (.slice Am D.mem.length cm) := (blk_cell HDf.out.blk 8).trans rfl; obtain ⟨hd0, hd1⟩ := cells2 BKf.out)
      go_quiet (fail)
      go_wp2
      go_quiet (fail)
      go_wp2_with (go_at_call 54; refine (tell_calls (Desk.below HDf.out (pw_below_drewN (Below.refl w6.heap.size w6) _)) 6 a.f1 0 0 (by omega)).mono ?_; rintro e' w' ⟨rfl, ⟨vo', hD⟩, hB⟩)
      first | go_end0 | (refine bodyPost_ret (results_none rfl _ _ _) rfl ?_)
      refine ⟨rfl, ⟨A, c, vo', ?_⟩, (HBf.out.trans ((pw_below_drewN (Below.refl w6.heap.size w6) _).mono HDf.out.size)).trans hB⟩
      have hq : requestD D a true = tellD D 6 a.f1 0 0 := by unfold requestD; rw [if_neg (by decide), if_neg HC0.out, if_neg HC1.out, ← HX.out, if_neg (show ¬ (0 ≤ at_) by have := HC3.out; omega), if_pos HC4.out]
      rw [hq]
      exact hD
    have hz4 : ¬ ((4 : Int) ≤ (D.wait.length : Int)) := by omega
    have hb4 : decide ((4 : Int) ≤ (D.wait.length : Int)) = false := decide_eq_false hz4
    have HC4 := Aside0.mk h4
    have hlt : D.wait.length < 4 := by omega
    clear h4
    go_wp2_with (go_at_call 45; refine (floor_member.calls k D.s D.e D.h D.p D.u D.l D.n A c D.wait Am cm D.mem a.f1 _ w5 (Kd.R_reads' HDd.out.wait).2.2 (Kd.R_reads' HDd.out.wait).2.1 (Kd.R_reads' HDd.out.mem).2.2 (Kd.R_reads' HDd.out.mem).2.1 HM.out).mono ?_; rintro e w6 ⟨rfl, hb⟩; have HDf := Aside0.mk (Desk.below HDd.out hb); have HBf := Aside0.mk (HBd.out.trans (hb.mono HDd.out.size)); have BKf := Aside0.mk (blk_below BKd.out hb); clear hb HDd HBd BKd; have hx0 : w6.cell? ⟨gb, 0, none⟩ = some (.int .i64 D.s) := (blk_cell HDf.out.blk 0).trans rfl; have hx1 : w6.cell? ⟨gb, 1, none⟩ = some (.int .i64 D.e) := (blk_cell HDf.out.blk 1).trans rfl; have hx2 : w6.cell? ⟨gb, 2, none⟩ = some (.int .i64 D.h) := (blk_cell HDf.out.blk 2).trans rfl; have hx3 : w6.cell? ⟨gb, 3, none⟩ = some (.int .i64 D.p) := (blk_cell HDf.out.blk 3).trans rfl; have hx4 : w6.cell? ⟨gb, 4, none⟩ = some (.int .i64 D.u) := (blk_cell HDf.out.blk 4).trans rfl; have hx5 : w6.cell? ⟨gb, 5, none⟩ = some (.int .i64 D.l) := (blk_cell HDf.out.blk 5).trans rfl; have hx6 : w6.cell? ⟨gb, 6, none⟩ = some (.int .i64 D.n) := (blk_cell HDf.out.blk 6).trans rfl; have hx7 : w6.cell? ⟨gb, 7, none⟩ = some (.slice A D.wait.length c) := (blk_cell HDf.out.blk 7).trans rfl; have hx8 : w6.cell? ⟨gb, 8, none⟩ = some (.slice Am D.mem.length cm) := (blk_cell HDf.out.blk 8).trans rfl; obtain ⟨hd0, hd1⟩ := cells2 BKf.out)
    go_quiet (fail)
    go_wp2
    go_quiet (fail)
    go_wp2_with (go_at_call 58; refine (queue_calls (Desk.below HDf.out (pw_below_drewN (Below.refl w6.heap.size w6) _)) a.f1 a.f2 hout hlt).mono ?_; rintro e' w' ⟨rfl, ⟨A', c', vo', hD⟩, hB⟩)
    first | go_end0 | (refine bodyPost_ret (results_none rfl _ _ _) rfl ?_)
    refine ⟨rfl, ⟨A', c', vo', ?_⟩, (HBf.out.trans ((pw_below_drewN (Below.refl w6.heap.size w6) _).mono HDf.out.size)).trans hB⟩
    have hq : requestD D a true = queueD D a.f1 a.f2 := by unfold requestD; rw [if_neg (by decide), if_neg HC0.out, if_neg HC1.out, ← HX.out, if_neg (show ¬ (0 ≤ at_) by have := HC3.out; omega), if_neg HC4.out]
    rw [hq]
    exact hD
end Go.Proofs.Ytflfmpfmnhpbmaa.PA
