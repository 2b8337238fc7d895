/- Elements of a row whose inner rows are made anew, one by one; theory for jitter.owned. -/
import Derived.Test.YtkjgibdbbklejaaPAx0
namespace Go.Proofs.Ytkjgibdbbklejaa.PA
open Go.RowKit Go.Proofs.YtkjgibdbbklejaaW.PrintWords Go.Proofs.YtkjgibdbbklejaaW.PrintLast Go.Proofs.YtkjgibdbbklejaaW.PrintMore
set_option linter.unusedVariables false
set_option linter.unusedSimpArgs false

/-- Of a row's elements the first i lead to rows of the call's own, each one apart from the others. -/
def EX (base gA gB : Nat) (W : World) (u : Value) (xs : List S41) (i : Int) : Prop :=
  ∃ f : Nat → Nat, ∀ j : Nat, (j : Int) < i → ∀ p, xs[j]? = some p → ∃ g n c v, u = .slice (some ⟨g, 0, none⟩) n c ∧ W.cell? ⟨g, j * 2 + 1, none⟩ = some v ∧ (Kd.int .u8).R 5 W base (fun k => (k ≠ gA ∧ k ≠ gB ∧ some k ≠ u.ownBlock) ∧ f k = j) v p.f1
theorem EX_zero (base gA gB : Nat) (W : World) (u : Value) (xs : List S41) : EX base gA gB W u xs 0 := ⟨fun _ => 0, fun j hj => by omega⟩
theorem EX_below {base gA gB : Nat} {W W' : World} {u : Value} {xs : List S41} {i : Int} (h : EX base gA gB W u xs i) (hb : Below W.heap.size W W') : EX base gA gB W' u xs i := by
  obtain ⟨f, h⟩ := h
  refine ⟨f, fun j hj p hp => ?_⟩
  obtain ⟨g, n, c, v, e, hc, hR⟩ := h j hj p hp
  exact ⟨g, n, c, v, e, (hb.cell (World.block_lt_of_cell? _ _ hc)).trans hc, Kd.R_below hR hb⟩
theorem EX_drew {base gA gB : Nat} {W : World} {u : Value} {xs : List S41} {i : Int} (h : EX base gA gB W u xs i) : EX base gA gB W.drew u xs i := EX_below h (below_drew1 (Below.refl _ _))
theorem EX_next {base gA gB g n c : Nat} {W W' : World} {u v : Value} {xs ys : List S41} {i i' : Int} {f0 : Int} {t : List Int} {okv : Nat → Prop} (h : EX base gA gB W u xs i) (h0 : 0 ≤ i) (hi' : i' = i + 1) (hil : i < xs.length) (hu : u = .slice (some ⟨g, 0, none⟩) n c) (hys : ys = xs.set i.toNat ⟨f0, t⟩) (hb : Below W.heap.size W W')
    (hR : (Kd.int .u8).R 5 W' W.heap.size okv v t) (hg : g < W.heap.size) (hA : gA < W.heap.size) (hB : gB < W.heap.size) (hbase : base ≤ W.heap.size) {z : Value} (hcell : W'.cell? ⟨g, i.toNat * 2 + 1, none⟩ = some z) : EX base gA gB (W'.setCell ⟨g, i.toNat * 2 + 1, none⟩ v) u ys i' := by
  subst hi' hys
  obtain ⟨f, h⟩ := h
  obtain ⟨m, rfl⟩ := Int.eq_ofNat_of_zero_le h0
  simp only [Int.toNat_natCast] at hcell ⊢
  have hob : u.ownBlock = some g := by rw [hu]; rfl
  refine ⟨fun k => if W.heap.size ≤ k then m else f k, fun j hj p hp => ?_⟩
  by_cases hjm : j = m
  · subst hjm
    have hp' : (⟨f0, t⟩ : S41) = p := by
      rw [List.getElem?_set_self (by omega)] at hp
      exact Option.some.inj hp
    subst hp'
    refine ⟨g, n, c, v, hu, World.cell?_setCell_same _ _ _ hcell, ?_⟩
    refine Kd.R_mono (Kd.R_far (p := ⟨g, j * 2 + 1, none⟩) (Kd.R_lower (Kd.R_mono (Kd.R_bound hR) (ok' := fun k => W.heap.size ≤ k) (fun k hk => hk.2.1)) hbase) (fun k hk => by show k ≠ g; omega) v) (fun k hk => ⟨⟨by omega, by omega, fun e => ?_⟩, if_pos hk⟩)
    rw [hob] at e
    injection e with e
    omega
  · rw [List.getElem?_set_ne (fun e => hjm e.symm)] at hp
    obtain ⟨g', n', c', v', e, hc, hR'⟩ := h j (by omega) p hp
    have hgg : g' = g := by rw [hu] at e; injection e with e; injection e with e; injection e with e; exact e.symm
    subst hgg
    refine ⟨g', n', c', v', e, ?_, ?_⟩
    · rw [World.cell?_setCell_other _ _ _ _ (by intro e2; injection e2 with _ e2; omega)]
      exact (hb.cell (World.block_lt_of_cell? _ _ hc)).trans hc
    · refine Kd.R_mono (Kd.R_far (p := ⟨g', m * 2 + 1, none⟩) (Kd.R_below (Kd.R_bound hR') hb) (fun k hk => ?_) v) (fun k hk => ⟨hk.1.1, ?_⟩)
      · intro e
        exact hk.1.1.2.2 (by rw [hob, e])
      · have := hk.2.2.1
        show (if W.heap.size ≤ k then m else f k) = j
        rw [if_neg (by omega)]
        exact hk.1.2
theorem EX_S {base gA gB : Nat} {W : World} {u : Value} {xs : List S41} {i : Int} {ok : Nat → Prop} (HO : Kd.N k41 41 W base ok u xs) (h : EX base gA gB W u xs i) (hi : (xs.length : Int) ≤ i) (hok : ∀ k, ok k → k ≠ gA ∧ k ≠ gB) : Kd.S k41 41 W base (fun k => k ≠ gA ∧ k ≠ gB) u xs := by
  obtain ⟨f, h⟩ := h
  obtain ⟨h0, rows, hl, ⟨_, inner, hown, hreps⟩, hf⟩ := HO
  refine ⟨f, fun k hk => hok k (h0 k hk), inner, by rw [List.length_zipIdx, ← hl]; exact hown, ?_⟩
  have hrr : inner.length = rows.length * 2 := hreps.1
  refine ⟨by rw [List.length_zipIdx, hrr, hl]; rfl, fun j q hq => ?_⟩
  rw [List.getElem?_zipIdx] at hq
  obtain ⟨p, hp, rfl⟩ := Option.map_eq_some_iff.1 hq
  have hj : j < xs.length := (List.getElem?_eq_some_iff.1 hp).1
  have hrow := List.getElem?_eq_getElem (l := rows) (i := j) (by omega)
  have h1 := hreps.2 j _ hrow
  obtain ⟨A1, c1, e1, l1, g1⟩ := k41_openF (hf j p _ hp hrow)
  obtain ⟨g, n, c, v, e, hc, hR⟩ := h j (by omega) p hp
  have hcells := hown.cells (g := g) (by rw [e]; rfl) (j * 2 + 1)
  have e2 : (inner.drop (j * 2)).take 2 = [.int .i64 p.f0, .slice A1 p.f1.length c1] := by rw [← e1]; exact h1.1
  have e3 : inner[j * 2 + 1]? = some (.slice A1 p.f1.length c1) := by
    have := congrArg (fun l => l[1]?) e2
    simpa [List.getElem?_take, List.getElem?_drop] using this
  have e4 := hcells _ e3
  rw [add_plain, hc] at e4
  obtain rfl := Option.some.inj e4
  show k41.M W base _ p _
  rw [show (inner.drop (j * (Kd.tag f k41).sz)).take (Kd.tag f k41).sz = [.int .i64 p.f0, .slice A1 p.f1.length c1] from e2]
  exact k41_mkM W base _ p (Kd.R_mono hR (fun k hk => ⟨⟨⟨hk.1.1, hk.1.2.1⟩, hk.1.2.2⟩, by simpa using hk.2⟩))

end Go.Proofs.Ytkjgibdbbklejaa.PA
