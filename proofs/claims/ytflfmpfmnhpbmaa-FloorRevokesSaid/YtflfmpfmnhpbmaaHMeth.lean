/- The floor's desk: waiting no more, and what is released, renewed, and told the time; walked by hand. -/
import Derived.Test.YtflfmpfmnhpbmaaHOn
import Derived.Test.YtflfmpfmnhpbmaaHFind
namespace Go.Proofs.Ytflfmpfmnhpbmaa.PA
open Go.RowKit Go.Proofs.YtflfmpfmnhpbmaaW.PrintWords Go.Proofs.YtflfmpfmnhpbmaaW.PrintLast Go.Proofs.YtflfmpfmnhpbmaaW.PrintMore
set_option linter.unusedVariables false
set_option linter.unusedSimpArgs false
def unwaitD (D : Dk) (who : Int) : Dk := { D with wait := D.wait.filter fun x => !isWho who x }
set_option maxHeartbeats 4000000 in
set_option maxRecDepth 100000 in
theorem clo72 {W : World} {gu gb : Nat} {cells : Array Value} (who : Int) (hu : W.heap[gu]? = some (.cells #[.pointer (some ⟨gb, 0, none⟩)] 54 (0, 0))) (hb : W.heap[gb]? = some (.cells cells 56 (0, 0))) (hw : cells[10]? = some (.int .i64 who)) (x : S43) :
    Calls Try.prog 72 #[.agg #[.int .i64 x.f0, .int .i64 x.f1], .pointer (some ⟨gu, 0, none⟩)] W fun e w' => e = .returned (.bool (isWho who x)) ∧ Below W.heap.size W w' := by
  have h1 := blk_lt hu
  have h2 := blk_lt hb
  have n1 : ¬ (gu = W.heap.size) := Nat.ne_of_lt h1
  have n2 : ¬ (gb = W.heap.size) := Nat.ne_of_lt h2
  have cu : ∀ o, (W.alloc o).cell? ⟨gu, 0, none⟩ = some (.pointer (some ⟨gb, 0, none⟩)) := fun o => ((below_alloc (Below.refl _ W) o).cell h1).trans (blk_cell hu 0)
  have cb : ∀ o, (W.alloc o).cell? ⟨gb, 10, none⟩ = some (.int .i64 who) := fun o => ((below_alloc (Below.refl _ W) o).cell h2).trans ((blk_cell hb 10).trans hw)
  have HB := Aside0.mk (fun o => below_alloc (Below.refl W.heap.size W) o)
  clear hu hb hw h1 h2
  unfold isWho
  go_enter Try.func72, Try.ntmps72
  go_wp2
  go_quiet (fail)
  go_wp2
  go_ret
  exact ⟨rfl, pw_below_drewN (HB.out _) _⟩
theorem unwait_end {w4 w5 : World} {base gb : Nat} {D : Dk} {a : S32} {A : Option Addr} {c : Nat} {vm vo : Value} {ys : List S43} (h : Desk w4 base gb D a [] A c vm vo)
    (hk : ∀ k, some k ≠ (Value.slice A D.wait.length c).ownBlock → k < w4.heap.size → w5.heap[k]? = w4.heap[k]?) (hR : Kd.R k43 43 w5 base (fun _ => True) (.slice A ys.length c) ys) (hB : Below base w4 w5) :
    Desk (w5.setCell ⟨gb, 7, none⟩ (.slice A ys.length c)) base gb { D with wait := ys } a [] A c vm vo := by
  have hgb := hk gb (Kd.R_ne h.wait h.blk (by decide)) (blk_lt h.blk)
  have bk := hgb.trans h.blk
  refine ⟨blk_put bk 7 _ rfl, Kd.R_set hR bk (by decide) 7 _, ?_, ?_, h.ge, by simpa using Nat.le_trans h.size hB.size⟩
  · exact Kd.R_set (Kd.R_mono (Kd.R_step (Kd.R_apartR h.mem h.wait (by decide)) (fun k hk1 hk2 => hk k hk1.2 hk2)) (fun _ _ => trivial)) bk (by decide) 7 _
  · exact Kd.R_set (Kd.R_mono (Kd.R_step (Kd.R_apartR h.out h.wait (by decide)) (fun k hk1 hk2 => hk k hk1.2 hk2)) (fun _ _ => trivial)) bk (by decide) 7 _
set_option maxHeartbeats 8000000 in
set_option maxRecDepth 100000 in
theorem unwait_calls {W : World} {base gb : Nat} {D : Dk} {a : S32} {A : Option Addr} {c : Nat} {vm vo : Value} (h : Desk W base gb D a [] A c vm vo) :
    Calls Try.prog 59 #[.pointer (some ⟨gb, 0, none⟩)] W fun e' w' => e' = .returned (.tuple #[]) ∧ Desk w' base gb (unwaitD D a.f1) a [] A c vm vo ∧ Below base W w' := by
  have HD := Aside0.mk h
  clear h
  go_enter Try.func59, Try.ntmps59
  go_wp2_with ((with_reducible refine gate_dst (N := 1) rfl ?_); refine box_event ?hg (N := 1) ?hd (cs := #[.pointer (some ⟨gb, 0, none⟩)]) (t := 54) ?hr ?_; (case hd => rfl); (case hg => rfl); (case hr => first | (go_simp; done) | (go_simp; rfl)); intro g3 hg3 w3 hbox3 hb3; have BK3 := Aside0.mk hbox3; have HD3 := Aside0.mk (Desk.below HD.out hb3); have HB3 := Aside0.mk (hb3.mono HD.out.size); have NE3 := Aside0.mk (show gb ≠ g3 by rw [hg3]; exact Nat.ne_of_lt (blk_lt HD.out.blk)); clear hbox3 hb3 hg3)
  have hc7 : w3.cell? ⟨gb, 7, none⟩ = some (.slice A D.wait.length c) := (blk_cell HD3.out.blk 7).trans rfl
  have hu0 : w3.cell? ⟨g3, 0, none⟩ = some (.pointer (some ⟨gb, 0, none⟩)) := (blk_cell BK3.out 0).trans rfl
  have h4 := Desk.below HD3.out (below_drew1 (Below.refl _ _))
  have hB4 := below_drew1 HB3.out
  have hk4 := blk_drew BK3.out
  have HD4 := Aside0.mk h4
  have HB4 := Aside0.mk hB4
  have BK4 := Aside0.mk hk4
  have hl4 := blk_lt hk4
  have hlb := blk_lt h4.blk
  have hn4 : some g3 ≠ (Value.slice A D.wait.length c).ownBlock := Kd.R_ne h4.wait hk4 (by decide)
  have hnb : some gb ≠ (Value.slice A D.wait.length c).ownBlock := Kd.R_ne h4.wait h4.blk (by decide)
  have HL4 := Aside0.mk hl4
  have HLB := Aside0.mk hlb
  have HN4 := Aside0.mk hn4
  have HNB := Aside0.mk hnb
  clear h4 hB4 hk4 hl4 hlb hn4 hnb
  go_region_with (go_at_call 71; refine (delF_all (base := base) (.pointer (some ⟨g3, 0, none⟩)) (isWho a.f1) HD4.out.wait HD4.out.size (fun W' hW hk x => clo72 (gb := gb) a.f1 ((hk g3 HN4.out HL4.out).trans BK4.out) ((hk gb HNB.out HLB.out).trans HD4.out.blk) rfl x)).mono ?_; rintro e' w5 ⟨rfl, hR5, hB5, hk5⟩; have BK5 := Aside0.mk ((hk5 gb HNB.out HLB.out).trans HD4.out.blk); have HR5 := Aside0.mk hR5; have HB5 := Aside0.mk hB5; have HK5 := Aside0.mk hk5; clear hR5 hB5 hk5; have hd7 : w5.cell? ⟨gb, 7, none⟩ = some (.slice A D.wait.length c) := (blk_cell BK5.out 7).trans rfl; have hf7 := blk_frozen BK5.out 7; have hu5 : w5.cell? ⟨g3, 0, none⟩ = some (.pointer (some ⟨gb, 0, none⟩)) := (blk_cell ((HK5.out g3 HN4.out HL4.out).trans BK4.out) 0).trans rfl)
  all_goals
    go_end0
    exact ⟨rfl, unwait_end HD4.out HK5.out HR5.out HB5.out, HB4.out.trans (HB5.out.setCell HD.out.ge _)⟩
end Go.Proofs.Ytflfmpfmnhpbmaa.PA
