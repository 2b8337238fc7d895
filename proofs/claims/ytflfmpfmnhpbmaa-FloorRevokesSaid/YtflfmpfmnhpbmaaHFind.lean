/- floor.find: a waiter's place; walked by hand (slices.IndexFunc with a closure that has captured the number). -/
import Derived.Test.YtflfmpfmnhpbmaaHDelF
namespace Go.Proofs.Ytflfmpfmnhpbmaa.PA
open Go.RowKit Go.Proofs.YtflfmpfmnhpbmaaW.PrintWords Go.Proofs.YtflfmpfmnhpbmaaW.PrintLast Go.Proofs.YtflfmpfmnhpbmaaW.PrintMore
set_option linter.unusedVariables false
set_option linter.unusedSimpArgs false
def isWho (who : Int) (x : S43) : Bool := x.f0 == who
def floor_find.f (a0 a1 a2 a3 a4 a5 a6 : Int) (l7 : List S43) (l8 : List Int) (who : Int) : Option Int := some (idxP (isWho who) l7 0)
set_option maxHeartbeats 4000000 in
set_option maxRecDepth 100000 in
theorem clo63 (W : World) (gb : Nat) (who : Int) (x : S43) (hb : W.heap[gb]? = some (.cells #[.int .i64 who] 3 (0, 0))) :
    Calls Try.prog 63 #[.agg #[.int .i64 x.f0, .int .i64 x.f1], .pointer (some ⟨gb, 0, none⟩)] W fun e w' => e = .returned (.bool (isWho who x)) ∧ Below W.heap.size W w' := by
  have hgl := blk_lt hb
  have hbA : ∀ o, (W.alloc o).cell? ⟨gb, 0, none⟩ = some (.int .i64 who) := fun o => ((below_alloc (Below.refl _ W) o).cell hgl).trans (blk_cell hb 0)
  have hne : ¬ (gb = W.heap.size) := by omega
  clear hb
  unfold isWho
  go_enter Try.func63, Try.ntmps63
  go_wp2
  go_ret
  exact ⟨rfl, below_alloc (Below.refl _ W) _⟩
set_option maxHeartbeats 4000000 in
set_option maxRecDepth 100000 in
theorem floor_find.calls (a0 a1 a2 a3 a4 a5 a6 : Int) (A7 : Option Addr) (c7 : Nat) (l7 : List S43) (A8 : Option Addr) (c8 : Nat) (l8 : List Int) (who : Int) (r : Int) (w : World) (hr7 : Kd.C k43 w A7 l7.length l7) (hc7 : l7.length ≤ c7) (hr8 : Kd.C (Kd.int .i64) w A8 l8.length l8) (hc8 : l8.length ≤ c8) (h : floor_find.f a0 a1 a2 a3 a4 a5 a6 l7 l8 who = some r) :
    Calls Try.prog 44 #[.agg #[.int .i64 a0, .int .i64 a1, .int .i64 a2, .int .i64 a3, .int .i64 a4, .int .i64 a5, .int .i64 a6, .slice A7 l7.length c7, .slice A8 l8.length c8], .int .i64 who] w fun e w' => e = .returned (.int .i64 r) ∧ Below w.heap.size w w' := by
  obtain rfl := Option.some.inj h
  have HR := Aside0.mk hr7
  have HB := Aside0.mk (Below.refl w.heap.size w)
  clear h hr7 hr8
  go_enter Try.func44, Try.ntmps44
  go_wp2_with (first | ((with_reducible refine gate_dst (N := 2) rfl ?_); refine box_event ?hg (N := 2) ?hd (cs := #[.int .i64 a0, .int .i64 a1, .int .i64 a2, .int .i64 a3, .int .i64 a4, .int .i64 a5, .int .i64 a6, .slice A7 l7.length c7, .slice A8 l8.length c8]) (t := 28) ?hr ?_; (case hd => rfl); (case hg => rfl); (case hr => first | (go_simp; done) | (go_simp; rfl)); intro g2 hg2 w2 hbox2 hb2; have BK2 := Aside0.mk hbox2; have HB2 := Aside0.mk (below_step HB.out hb2); clear hbox2 hb2 hg2) | ((with_reducible refine gate_dst (N := 3) rfl ?_); refine box_event ?hg (N := 3) ?hd (cs := #[.int .i64 who]) (t := 3) ?hr ?_; (case hd => rfl); (case hg => rfl); (case hr => first | (go_simp; done) | (go_simp; rfl)); intro g3 hg3 w3 hbox3 hb3; have BK3 := Aside0.mk hbox3; have BK32 := Aside0.mk (blk_below BK2.out hb3); have HB3 := Aside0.mk (below_step HB2.out hb3); clear hbox3 hb3 hg3; have hcz7 : w3.cell? ⟨g2, 7, none⟩ = some (.slice A7 l7.length c7) := (blk_cell BK32.out 7).trans rfl) | (go_at_call 62; refine (idxF63 w3 A7 c7 l7 (.pointer (some ⟨g3, 0, none⟩)) (isWho who) (Kd.C_below HR.out HB3.out) (fun W' hW x => clo63 W' g3 who x (blk_below BK3.out hW))).mono ?_; rintro e w4 ⟨rfl, hb4⟩; have HB4 := Aside0.mk (below_step HB3.out hb4); clear hb4))
  go_ret
  exact ⟨rfl, HB4.out⟩
end Go.Proofs.Ytflfmpfmnhpbmaa.PA
