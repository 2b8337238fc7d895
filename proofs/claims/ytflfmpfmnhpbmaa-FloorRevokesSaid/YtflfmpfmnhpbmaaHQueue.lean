/- The floor's desk: one waits; walked by hand. -/
import Derived.Test.YtflfmpfmnhpbmaaHOn
import Derived.Test.YtflfmpfmnhpbmaaHInsB
namespace Go.Proofs.Ytflfmpfmnhpbmaa.PA
open Go.RowKit Go.Proofs.YtflfmpfmnhpbmaaW.PrintWords Go.Proofs.YtflfmpfmnhpbmaaW.PrintLast Go.Proofs.YtflfmpfmnhpbmaaW.PrintMore
set_option linter.unusedVariables false
set_option linter.unusedSimpArgs false
def isLow (prio : Int) (x : S43) : Bool := decide (x.f1 < prio)
/-- Where one of a priority comes to wait. -/
def posQ (prio : Int) (l : List S43) : Nat := if idxP (isLow prio) l 0 = -1 then l.length else (idxP (isLow prio) l 0).toNat
def putQ (D : Dk) (who prio : Int) : Dk := tellD { D with wait := D.wait.take (posQ prio D.wait) ++ (⟨who, prio⟩ : S43) :: D.wait.drop (posQ prio D.wait) } 7 who 0 ((posQ prio D.wait : Int) + 1)
def queueD (D : Dk) (who prio : Int) : Dk := if D.s = 1 ∧ D.p < prio then revokeD (putQ D who prio) else putQ D who prio
set_option maxHeartbeats 4000000 in
set_option maxRecDepth 100000 in
theorem clo69 (W : World) (gb : Nat) (who prio : Int) (x : S43) (hb : W.heap[gb]? = some (.cells #[.int .i64 who, .int .i64 prio] 43 (0, 0))) :
    Calls Try.prog 69 #[.agg #[.int .i64 x.f0, .int .i64 x.f1], .pointer (some ⟨gb, 0, none⟩)] W fun e w' => e = .returned (.bool (isLow prio x)) ∧ Below W.heap.size W w' := by
  have hgl := blk_lt hb
  have hbA : ∀ o, (W.alloc o).cell? ⟨gb, 1, none⟩ = some (.int .i64 prio) := fun o => ((below_alloc (Below.refl _ W) o).cell hgl).trans (blk_cell hb 1)
  have hne : ¬ (gb = W.heap.size) := by omega
  clear hb
  unfold isLow
  go_enter Try.func69, Try.ntmps69
  go_wp2
  go_ret
  exact ⟨rfl, below_alloc (Below.refl _ W) _⟩
set_option maxHeartbeats 4000000 in
set_option maxRecDepth 100000 in
theorem tell_keeps {W : World} {base gb : Nat} {D : Dk} {a : S32} {pre : List S43} {A : Option Addr} {c : Nat} {vm vo : Value} (h : Desk W base gb D a pre A c vm vo) (k w e p : Int) (hout : D.out.length ≤ 1000000) :
    Calls Try.prog 54 #[.pointer (some ⟨gb, 0, none⟩), .int .i64 k, .int .i64 w, .int .i64 e, .int .i64 p] W fun e' w' => e' = .returned (.tuple #[]) ∧ (∃ vo', Desk w' base gb (tellD D k w e p) a pre A c vm vo') ∧ Below base W w' ∧ (∀ k, k < W.heap.size → k ≠ gb → some k ≠ vo.ownBlock → w'.heap[k]? = W.heap[k]?) := by
  have HD := Aside0.mk h
  have hc14 : W.cell? ⟨gb, 14, none⟩ = some vo := (blk_cell h.blk 14).trans rfl
  clear h
  go_enter Try.func54, Try.ntmps54
  go_wp2_with (at_builtin; refine Kd.R_append k38 (w0 := W) base rfl (.tmp 14) (.tmp 20) 33 38 (.agg #[.int .i64 0, .int .i64 0, .int .i64 0, .int .i64 0]) 32 rfl Try.underlying33 info38 rfl (by decide) (by decide) vo D.out (⟨k, w, e, p⟩ : S38) [.int .i64 k, .int .i64 w, .int .i64 e, .int .i64 p] (fun _ => True) (fun _ => False) rfl (by first | (go_simp; done) | (go_simp; rfl)) (k38_mkM _ _ _ ⟨k, w, e, p⟩) (fun _ hk => hk.elim) (fun _ _ => trivial) HD.out.out (Below.refl _ _) HD.out.size (by omega) ?_; intro v1 w1 hR1 hB1 hg1 hat1; obtain ⟨A1, c1, e1⟩ := Kd.R_slice hR1; subst e1; rw [List.length_append] at hR1; have HR1 := Aside0.mk hR1; have HB1 := Aside0.mk hB1; have HG1 := Aside0.mk hg1; have BK1 := Aside0.mk (blk_grown HD.out.blk hg1 (Kd.R_ne HD.out.out HD.out.blk (by decide))); clear hR1 hB1 hg1 hat1; have hd14 : w1.cell? ⟨gb, 14, none⟩ = some vo := (blk_cell BK1.out 14).trans rfl; have hf14 := blk_frozen BK1.out 14)
  go_end0
  refine ⟨rfl, ⟨.slice A1 (D.out.length + 1) c1, ?_⟩, HB1.out.setCell HD.out.ge _, fun k h1 h2 h3 => (Below.heap_setCell w1 ⟨gb, 14, none⟩ _ k h2).trans (HG1.out.block k h1 h3)⟩
  refine ⟨blk_put (cs := cellsD D a (waitV A c pre D.wait) vm vo) BK1.out 14 _ rfl, ?_, ?_, ?_, HD.out.ge, ?_⟩
  · exact Kd.R_set (Kd.R_over HD.out.wait HD.out.out (by decide) HG1.out) BK1.out (by decide) 14 _
  · exact Kd.R_set (Kd.R_over HD.out.mem HD.out.out (by decide) HG1.out) BK1.out (by decide) 14 _
  · exact Kd.R_set HR1.out BK1.out (by decide) 14 _
  · have := HB1.out.size
    have h2 := HD.out.size
    simp
    omega
theorem wait_put {w4 w5 : World} {base gb : Nat} {D : Dk} {a : S32} {A : Option Addr} {c : Nat} {vm vo : Value} {A5 : Option Addr} {c5 : Nat} {ys : List S43} (h : Desk w4 base gb D a [] A c vm vo)
    (hR : Kd.R k43 43 w5 base (fun _ => True) (.slice A5 ys.length c5) ys) (hB : Below base w4 w5) (hg : w4.grownBy w5 (Value.slice A D.wait.length c).ownBlock) :
    Desk (w5.setCell ⟨gb, 7, none⟩ (.slice A5 ys.length c5)) base gb { D with wait := ys } a [] A5 c5 vm vo := by
  have bk := blk_grown h.blk hg (Kd.R_ne h.wait h.blk (by decide))
  exact ⟨blk_put bk 7 _ rfl, Kd.R_set hR bk (by decide) 7 _, Kd.R_set (Kd.R_over h.mem h.wait (by decide) hg) bk (by decide) 7 _, Kd.R_set (Kd.R_over h.out h.wait (by decide) hg) bk (by decide) 7 _, h.ge, by simpa using Nat.le_trans h.size hB.size⟩
set_option maxHeartbeats 16000000 in
set_option maxRecDepth 100000 in
theorem queue_calls {W : World} {base gb : Nat} {D : Dk} {a : S32} {A : Option Addr} {c : Nat} {vm vo : Value} (h : Desk W base gb D a [] A c vm vo) (who prio : Int) (hout : D.out.length ≤ 1000) (hwl : D.wait.length < 4) :
    Calls Try.prog 58 #[.pointer (some ⟨gb, 0, none⟩), .agg #[.int .i64 who, .int .i64 prio]] W fun e' w' => e' = .returned (.tuple #[]) ∧ (∃ A' c' vo', Desk w' base gb (queueD D who prio) a [] A' c' vm vo') ∧ Below base W w' := by
  obtain ⟨pos, hpos⟩ : ∃ pos, pos = posQ prio D.wait := ⟨_, rfl⟩
  obtain ⟨ys, hys⟩ : ∃ ys, ys = D.wait.take pos ++ (⟨who, prio⟩ : S43) :: D.wait.drop pos := ⟨_, rfl⟩
  have hput : putQ D who prio = tellD { D with wait := ys } 7 who 0 ((pos : Int) + 1) := by unfold putQ; rw [← hpos, ← hys]
  obtain ⟨r, hr⟩ : ∃ r, r = idxP (isLow prio) D.wait 0 := ⟨_, rfl⟩
  have hcase : (r = -1 ∧ pos = D.wait.length) ∨ (r = (pos : Int) ∧ pos < D.wait.length) := by
    rcases idxP_spec (isLow prio) D.wait 0 with ⟨h1, _, _⟩ | h1 | ⟨i, hi, h1, _, _⟩
    · exact .inl ⟨hr.trans h1, by rw [hpos]; unfold posQ; rw [if_pos h1]⟩
    · exact absurd h1 (by decide)
    · have e : pos = i := by rw [hpos]; unfold posQ; rw [h1, Int.zero_add, if_neg (by omega), Int.toNat_natCast]
      exact .inr ⟨by rw [hr, h1, e, Int.zero_add], by omega⟩
  have hple : pos ≤ D.wait.length := by omega
  have HD := Aside0.mk h
  have HYS := Aside0.mk hys
  have HR := Aside0.mk hr
  have HQ : Aside0 (queueD D who prio = if D.s = 1 ∧ D.p < prio then revokeD (tellD { D with wait := ys } 7 who 0 ((pos : Int) + 1)) else tellD { D with wait := ys } 7 who 0 ((pos : Int) + 1)) := Aside0.mk (by unfold queueD; rw [hput])
  have wp : IntKind.i64.wrap ((pos : Int) + 1) = (pos : Int) + 1 := by rw [IntKind.wrap_i64]; omega
  clear h hys hr hput hpos
  rcases hcase with ⟨hr1, hp1⟩ | ⟨hr1, hp1⟩
  all_goals
    rw [hr1] at HR
    first | subst hp1 | (have HP := Aside0.mk hp1; clear hp1)
    clear hr1
    go_enter Try.func58, Try.ntmps58
    go_wp2_with (first | ((with_reducible refine gate_dst (N := 3) rfl ?_); refine box_event ?hg (N := 3) ?hd (cs := #[.int .i64 who, .int .i64 prio]) (t := 43) ?hr ?_; (case hd => rfl); (case hg => rfl); (case hr => first | (go_simp; done) | (go_simp; rfl)); intro g3 hg3 w3 hbox3 hb3; have BK3 := Aside0.mk hbox3; have HD3 := Aside0.mk (Desk.below HD.out hb3); have HB3 := Aside0.mk (hb3.mono HD.out.size); have NE3 := Aside0.mk (show g3 ≠ gb by rw [hg3]; exact (Nat.ne_of_lt (blk_lt HD.out.blk)).symm); have NW3 := Aside0.mk (show some g3 ≠ (Value.slice A D.wait.length c).ownBlock from fun he => by rw [hg3] at he; exact Nat.lt_irrefl _ (Kd.R_lt HD.out.wait _ he.symm)); clear hbox3 hb3 hg3; have hc7 : w3.cell? ⟨gb, 7, none⟩ = some (.slice A D.wait.length c) := (blk_cell HD3.out.blk 7).trans rfl) | (go_at_call 62; refine (idxF69 w3 A c D.wait (.pointer (some ⟨g3, 0, none⟩)) (isLow prio) (Kd.R_reads' HD3.out.wait).2.2 (fun W' hW x => clo69 W' g3 who prio x (blk_below BK3.out hW))).mono ?_; rw [← HR.out]; rintro e' w4 ⟨rfl, hb4⟩; have HD4 := Aside0.mk (Desk.below HD3.out hb4); have HB4 := Aside0.mk (HB3.out.trans (hb4.mono HD3.out.size)); have BK4 := Aside0.mk (blk_below BK3.out hb4); clear hb4 hc7; have hc7 : w4.cell? ⟨gb, 7, none⟩ = some (.slice A D.wait.length c) := (blk_cell HD4.out.blk 7).trans rfl; have hd0 : w4.cell? ⟨g3, 0, none⟩ = some (.int .i64 who) := (blk_cell BK4.out 0).trans rfl; have hd1 : w4.cell? ⟨g3, 1, none⟩ = some (.int .i64 prio) := (blk_cell BK4.out 1).trans rfl))
    have hw2 := Desk.below (Desk.below HD4.out (below_alloc (Below.refl _ w4) (.cells #[.int .i64 who, .int .i64 prio] 43))) (below_drew1 (Below.refl _ _))
    have hB2 := HB4.out.trans ((below_drew1 (below_alloc (Below.refl _ w4) (.cells #[.int .i64 who, .int .i64 prio] 43))).mono HD4.out.size)
    have hv2 : (w4.alloc (.cells #[.int .i64 who, .int .i64 prio] 43)).drew.heap[w4.heap.size]? = some (.cells [Value.int .i64 who, .int .i64 prio].toArray 43 (0, 0)) := blk_drew (heap_alloc_new w4 _)
    have hn2 : some w4.heap.size ≠ (Value.slice A D.wait.length c).ownBlock := fun he => Nat.lt_irrefl _ (Kd.R_lt HD4.out.wait _ he.symm)
    have hk2 := blk_below BK4.out (below_drew1 (below_alloc (Below.refl _ w4) (.cells #[.int .i64 who, .int .i64 prio] 43)))
    have HW2 := Aside0.mk hw2
    have HB2 := Aside0.mk hB2
    have HV2 := Aside0.mk hv2
    have HN2 := Aside0.mk hn2
    have BK2 := Aside0.mk hk2
    have hgl : ¬ (gb = w4.heap.size) := Nat.ne_of_lt (blk_lt HD4.out.blk)
    have hg3l : ¬ (g3 = w4.heap.size) := Nat.ne_of_lt (blk_lt BK4.out)
    have hc7A : ∀ o, (w4.alloc o).cell? ⟨gb, 7, none⟩ = some (.slice A D.wait.length c) := fun o => ((below_alloc (Below.refl _ w4) o).cell (blk_lt HD4.out.blk)).trans hc7
    have hd0A : ∀ o, (w4.alloc o).cell? ⟨g3, 0, none⟩ = some (.int .i64 who) := fun o => ((below_alloc (Below.refl _ w4) o).cell (blk_lt BK4.out)).trans hd0
    have hd1A : ∀ o, (w4.alloc o).cell? ⟨g3, 1, none⟩ = some (.int .i64 prio) := fun o => ((below_alloc (Below.refl _ w4) o).cell (blk_lt BK4.out)).trans hd1
    clear hw2 hB2 hv2 hn2 hk2
    go_region_with (go_at_call 70; refine (insert_inB k43 rfl (okp := fun _ => False) (p := (⟨who, prio⟩ : S43)) HW2.out.wait _ hple HV2.out (k43_mkM _ _ _ ⟨who, prio⟩) (fun _ hk => hk.elim) (fun _ _ => trivial) HN2.out (by show (D.wait.length + 1) * 16 ≤ _; omega) HW2.out.size).mono ?_; rintro e' w5 ⟨v5, rfl, hR5, hB5, hg5, hat5⟩; change Kd.R k43 43 w5 base (fun _ => True) v5 (D.wait.take _ ++ (⟨who, prio⟩ : S43) :: D.wait.drop _) at hR5; rw [← HYS.out] at hR5; obtain ⟨A5, c5, e5⟩ := Kd.R_slice hR5; subst e5; have HD5 := Aside0.mk (wait_put HW2.out hR5 hB5 hg5); have HB5 := Aside0.mk (HB2.out.trans hB5); have BK5 := Aside0.mk (blk_grown HW2.out.blk hg5 (Kd.R_ne HW2.out.wait HW2.out.blk (by decide))); have BG5 := Aside0.mk (blk_grown BK2.out hg5 NW3.out); clear hR5 hB5 hg5 hat5; have hd8 : w5.cell? ⟨gb, 7, none⟩ = some (.slice A D.wait.length c) := (blk_cell BK5.out 7).trans rfl; have hf8 := blk_frozen BK5.out 7)
    all_goals
      have h6 := HD5.out
      have hB6 := HB5.out.trans (put_below (W := w5) HD.out.ge 7 (.slice A5 ys.length c5))
      have hk6 := blk_far (p := ⟨gb, 7, none⟩) BG5.out NE3.out (.slice A5 ys.length c5)
      generalize w5.setCell ⟨gb, 7, none⟩ (.slice A5 ys.length c5) = w6 at h6 hB6 hk6 ⊢
      have HD6 := Aside0.mk h6
      have HB6 := Aside0.mk hB6
      have BK6 := Aside0.mk hk6
      have NO6 := Aside0.mk (Kd.R_ne h6.out hk6 (by decide))
      clear hd8 hf8 hc7A hd0A hd1A hgl hg3l hc7 hd0 hd1 HD5 HB5 BK5 BG5
      have hd0 : w6.cell? ⟨g3, 0, none⟩ = some (.int .i64 who) := (blk_cell hk6 0).trans rfl
      clear h6 hB6 hk6
      by_cases hs : D.s = 1
      rotate_left
      · have hsb : (D.s == 1) = false := by simpa using hs
        have HIF := Aside0.mk (show ¬ (D.s = 1 ∧ D.p < prio) from fun e => hs e.1)
        clear hs
        go_wp2_with (go_at_call 54; refine (tell_keeps HD6.out 7 who 0 _ (by show D.out.length ≤ 1000000; omega)).mono ?_; rintro e' w7 ⟨rfl, ⟨vo', hD7⟩, hB7, hk7⟩; have HD7 := Aside0.mk hD7; have HB7 := Aside0.mk (HB6.out.trans hB7); have bk7 := (hk7 g3 (blk_lt BK6.out) NE3.out NO6.out).trans BK6.out; clear hB7 hk7 hd0; have hd1 : w7.cell? ⟨g3, 1, none⟩ = some (.int .i64 prio) := (blk_cell bk7 1).trans rfl; have hc0 : w7.cell? ⟨gb, 0, none⟩ = some (.int .i64 D.s) := (blk_cell hD7.blk 0).trans rfl; have hc3 : w7.cell? ⟨gb, 3, none⟩ = some (.int .i64 D.p) := (blk_cell hD7.blk 3).trans rfl; clear hD7 bk7)
        go_quiet (fail)
        go_wp2
        go_end0
        refine ⟨rfl, ⟨A5, c5, vo', ?_⟩, HB7.out.trans ((pw_below_drewN (Below.refl _ _) _).mono HD7.out.size)⟩
        rw [HQ.out, if_neg HIF.out]
        exact Desk.below HD7.out (pw_below_drewN (Below.refl _ _) _)
      have hsb : (D.s == 1) = true := by simpa using hs
      by_cases hp : D.p < prio
      rotate_left
      · have hpb : decide (D.p < prio) = false := by simpa using hp
        have HIF := Aside0.mk (show ¬ (D.s = 1 ∧ D.p < prio) from fun e => hp e.2)
        clear hs hp
        go_wp2_with (go_at_call 54; refine (tell_keeps HD6.out 7 who 0 _ (by show D.out.length ≤ 1000000; omega)).mono ?_; rintro e' w7 ⟨rfl, ⟨vo', hD7⟩, hB7, hk7⟩; have HD7 := Aside0.mk hD7; have HB7 := Aside0.mk (HB6.out.trans hB7); have bk7 := (hk7 g3 (blk_lt BK6.out) NE3.out NO6.out).trans BK6.out; clear hB7 hk7 hd0; have hd1 : w7.cell? ⟨g3, 1, none⟩ = some (.int .i64 prio) := (blk_cell bk7 1).trans rfl; have hc0 : w7.cell? ⟨gb, 0, none⟩ = some (.int .i64 D.s) := (blk_cell hD7.blk 0).trans rfl; have hc3 : w7.cell? ⟨gb, 3, none⟩ = some (.int .i64 D.p) := (blk_cell hD7.blk 3).trans rfl; clear hD7 bk7)
        go_quiet (fail)
        go_wp2
        go_end0
        refine ⟨rfl, ⟨A5, c5, vo', ?_⟩, HB7.out.trans ((pw_below_drewN (Below.refl _ _) _).mono HD7.out.size)⟩
        rw [HQ.out, if_neg HIF.out]
        exact Desk.below HD7.out (pw_below_drewN (Below.refl _ _) _)
      have hpb : decide (D.p < prio) = true := by simpa using hp
      have HIF := Aside0.mk (show D.s = 1 ∧ D.p < prio from ⟨hs, hp⟩)
      clear hs hp
      go_wp2_with (go_at_call 54; refine (tell_keeps HD6.out 7 who 0 _ (by show D.out.length ≤ 1000000; omega)).mono ?_; rintro e' w7 ⟨rfl, ⟨vo', hD7⟩, hB7, hk7⟩; have HD7 := Aside0.mk hD7; have HB7 := Aside0.mk (HB6.out.trans hB7); have bk7 := (hk7 g3 (blk_lt BK6.out) NE3.out NO6.out).trans BK6.out; clear hB7 hk7 hd0; have hd1 : w7.cell? ⟨g3, 1, none⟩ = some (.int .i64 prio) := (blk_cell bk7 1).trans rfl; have hc0 : w7.cell? ⟨gb, 0, none⟩ = some (.int .i64 D.s) := (blk_cell hD7.blk 0).trans rfl; have hc3 : w7.cell? ⟨gb, 3, none⟩ = some (.int .i64 D.p) := (blk_cell hD7.blk 3).trans rfl; clear hD7 bk7)
      go_quiet (fail)
      go_wp2_with (go_at_call 61; refine (revoke_calls (Desk.below HD7.out (pw_below_drewN (Below.refl _ _) _)) (by show (D.out ++ _).length ≤ 1000000; rw [List.length_append]; simp; omega)).mono ?_; rintro e' w8 ⟨rfl, ⟨vo2, hD8⟩, hB8⟩)
      go_end0
      refine ⟨rfl, ⟨A5, c5, vo2, ?_⟩, HB7.out.trans (((pw_below_drewN (Below.refl _ _) _).mono HD7.out.size).trans hB8)⟩
      rw [HQ.out, if_pos HIF.out]
      exact hD8
end Go.Proofs.Ytflfmpfmnhpbmaa.PA
