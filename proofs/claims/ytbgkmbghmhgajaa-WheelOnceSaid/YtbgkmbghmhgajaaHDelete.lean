/- The contract of slices.Delete of one element, at a slice of timers of the call's own; walked by hand. -/
import Derived.Test.YtbgkmbghmhgajaaPAx0
import Derived.StillTailTactics
import Derived.Deep.RegionLaw
namespace Go.Proofs.Ytbgkmbghmhgajaa.PA
open Go.RowKit Go.Proofs.YtbgkmbghmhgajaaW.PrintWords Go.Proofs.YtbgkmbghmhgajaaW.PrintLast Go.Proofs.YtbgkmbghmhgajaaW.PrintMore
set_option linter.unusedVariables false
set_option linter.unusedSimpArgs false

theorem hrun22 (w : World) : (underlying 22).run Try.prog w = .ok (.slice 33) w := by kernel_rfl
theorem zero33 (w : World) : (zeroValue 33).run Try.prog w = .ok (.agg #[.int .i64 0, .int .i64 0]) w := by kernel_rfl
/-- The cell behind a row's end is cleared: the row is what it was. -/
theorem clear_tail {α : Type} (d : Kd α) (hsz : d.sz = 2) {W : World} (base : Nat) (ty : TypeId) {g n c : Nat} {xs : List α} {ok : Nat → Prop} (HO : d.R 33 W base ok (.slice (some ⟨g, 0, none⟩) n c) xs) (hnc : n < c) :
    ∃ w1, (∀ c2, (Builtin.clear_ #[22] ty #[.slice (some ⟨g, n * 2, none⟩) 1 c2]).run Try.prog W = .ok (.tuple #[]) w1) ∧ d.R 33 w1 base ok (.slice (some ⟨g, 0, none⟩) n c) xs ∧ W.grownBy w1 (some g) := by
  obtain ⟨hn, _, _⟩ := Kd.R_reads' HO
  obtain ⟨hok, inner, hown, hr⟩ := HO
  rcases hown.2 with ⟨hv, _⟩ | ⟨g', cap', cur, hv, hb, hh, hxc, hcm, hcs, htake⟩
  · cases hv
  injection hv with ha _ hc
  injection ha with ha
  injection ha with hg
  subst hg; subst hc
  have hfit : n * 2 + 2 ≤ cur.size := by rw [hsz] at hcs; omega
  have hone : ∀ v ∈ [(Value.int .i64 0), .int .i64 0], v.oneCell' = true := by
    intro v hv
    rcases List.mem_cons.1 hv with rfl | hv
    · rfl
    · rw [List.mem_singleton.1 hv]; rfl
  have hst := run_storeCells_cells (P := Try.prog) g (n * 2) [.int .i64 0, .int .i64 0] 0 W (fun j hj => by rw [cell_of_row W g _ cur 33 (0, 0) hh]; simp at hj ⊢; omega) (fun j _ => blk_frozen hh _) hone
  have hz : Builtin.zeroCells (Value.agg #[.int .i64 0, .int .i64 0]).cells 1 = #[.int .i64 0, .int .i64 0] := by kernel_rfl
  obtain ⟨cur', h3, h4, h5⟩ := setCells_row [.int .i64 0, .int .i64 0] (n * 2 + 0) W cur hh (by simp; omega)
  obtain ⟨s1, s2, s3, s4⟩ := setCells_same g [.int .i64 0, .int .i64 0] (n * 2 + 0) W
  have hfar : ∀ k', k' ≠ g → (W.setCells g (n * 2 + 0) [.int .i64 0, .int .i64 0]).heap[k']? = W.heap[k']? := fun k' hk' => setCells_far _ _ k' hk'
  have hgo : ∀ m, some g = (Value.slice (some ⟨g, 0, none⟩) m c).ownBlock := fun m => by simp [Value.ownBlock]
  refine ⟨W.setCells g (n * 2 + 0) [.int .i64 0, .int .i64 0], ?_, ⟨hok, inner, ⟨hown.1, .inr ⟨g, c, cur', by rw [hn], hb, h3, hxc, hcm, by rw [h4, hcs], ?_⟩⟩, ?_⟩, ⟨s1, s2, s3, by rw [s4]; exact Nat.le_refl _, fun k' _ hk' => hfar k' (fun he => hk' (by rw [he]))⟩⟩
  · intro c2
    unfold Builtin.clear_
    simp only [List.getElem?_toArray, Sem.run_bind, Sem.run_pure, Result.andThen_ok, zero33, hz]
    simp only [List.getElem?_cons_zero, Sem.run_bind, hrun22 W, Result.andThen_ok, zero33, hz, hst, Sem.run_pure]
  · rw [h5, ← htake, ← hn, hsz, List.append_assoc, Nat.add_zero]
    rw [List.take_append_of_le_length (by rw [List.length_take, Array.length_toList]; omega), List.take_take, Nat.min_self]
  · exact hr.imp_ (fun p q hp => d.M_move (fun k' hk' => hfar k' (fun he => hk'.2 (by rw [← hgo, he]))) hp)

set_option maxHeartbeats 2000000 in
theorem delete_in {α : Type} (d : Kd α) (hsz : d.sz = 2) {w : World} {base g n c : Nat} {ok : Nat → Prop} {xs : List α} (HO : d.R 33 w base ok (.slice (some ⟨g, 0, none⟩) n c) xs) (i : Int) (h0 : 0 ≤ i) (hi : i < (n : Int)) (hnc : n ≤ c) (hbase : base ≤ w.heap.size) :
    Calls Try.prog 22 #[.slice (some ⟨g, 0, none⟩) n c, .int .i64 i, .int .i64 (i + 1)] w fun e w' => e = .returned (.slice (some ⟨g, 0, none⟩) (n - 1) c) ∧ d.R 33 w' base ok (.slice (some ⟨g, 0, none⟩) (n - 1) c) (xs.eraseIdx i.toNat) ∧ Below base w w' ∧ (∀ k, k ≠ g → k < w.heap.size → w'.heap[k]? = w.heap[k]?) := by
  have hu := Try.underlying22
  have HO1 := Aside0.mk HO
  clear HO
  have hne : (i == i + 1) = false := by simp; omega
  have hd0 : decide (0 ≤ i) = true := decide_eq_true h0
  have hd1 : decide (i < (n : Int)) = true := decide_eq_true hi
  go_enter Try.func22, Try.ntmps22
  go_wp2
  have HB := Below.refl base w.drew
  have HO2 := Kd.R_drew HO1.out
  have hic : i ≤ (c : Int) := by omega
  have hin : i + 1 ≤ (n : Int) := by omega
  have h01 : 0 ≤ i + 1 := by omega
  have hbase' : base ≤ w.drew.heap.size := hbase
  go_region_law (refine Kd.R_delete_step d base (by rfl) (.tmp 22) (.tmp 25) 22 33 rfl Try.underlying22 (by rw [hsz]; rfl) (k := i.toNat) rfl rfl (by rw [hsz, show (i + 1).toNat = i.toNat + 1 by omega]; split <;> simp [Addr.add]) (by omega) HO2 (by omega) HB hbase' ?_; intro w1 hR1 hB1 hg1)
  have hh0 : (n : Int) - 1 ≤ (n : Int) := by omega
  have hh1 : n - 1 ≤ n := by omega
  have hh2 : ((n - 1 : Nat) : Int) ≤ (n : Int) := by omega
  have hh3 : (n : Int) ≤ (c : Int) := by omega
  go_wp2
  all_goals
    try subst h
    have h1n : n - (n - 1) = 1 := by omega
    obtain ⟨w2, hcl, hR2, hg2⟩ := clear_tail d hsz base 0 hR1 (by omega)
    rw [h1n, hcl]
    go_wp2
    have hgb : ∀ k, some g = some k → base ≤ k := fun k hk => by injection hk with hk; subst hk; exact Kd.R_base HO1.out _ (by simp [Value.ownBlock])
    exact ⟨rfl, _, by kernel_rfl, rfl, hR2, ((below_drew (Below.refl base w)).grown hg1 hbase' hgb).grown hg2 (Nat.le_trans hbase' hg1.size) hgb, fun k hk hlt => (hg2.block k (Nat.lt_of_lt_of_le hlt hg1.size) (fun he => hk (by injection he))).trans (hg1.block k hlt (fun he => hk (by injection he)))⟩
end Go.Proofs.Ytbgkmbghmhgajaa.PA
