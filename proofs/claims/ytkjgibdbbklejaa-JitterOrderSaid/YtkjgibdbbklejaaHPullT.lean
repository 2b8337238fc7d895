/- What is left of a row whose first element is handed out; theory for the two Pulls. -/
import Derived.Test.YtkjgibdbbklejaaPAx0
namespace Go.Proofs.Ytkjgibdbbklejaa.PA
open Go.RowKit Go.Proofs.YtkjgibdbbklejaaW.PrintWords Go.Proofs.YtkjgibdbbklejaaW.PrintLast Go.Proofs.YtkjgibdbbklejaaW.PrintMore
set_option linter.unusedVariables false
set_option linter.unusedSimpArgs false

theorem drew_heap (w : World) : w.drew.heap = w.heap := rfl
theorem drewN_heap (w : World) (n : Nat) : (w.drewN n).heap = w.heap := by
  induction n with
  | zero => rfl
  | succ n ih => exact ih
theorem drew_size (w : World) : w.drew.heap.size = w.heap.size := rfl
theorem drewN_size (w : World) (n : Nat) : (w.drewN n).heap.size = w.heap.size := by rw [drewN_heap]
theorem setCell_comm0 (w : World) (g : Nat) (a b : Value) : (w.setCell ⟨g, 1, none⟩ b).setCell ⟨g, 0, none⟩ a = (w.setCell ⟨g, 0, none⟩ a).setCell ⟨g, 1, none⟩ b := by
  unfold World.setCell
  congr 1
  apply Array.ext_getElem?
  intro i
  simp only [Array.getElem?_modify]
  by_cases h : g = i
  · subst h
    simp only [if_true, Option.map_map]
    cases w.heap[g]? with
    | none => rfl
    | some o =>
      cases o <;> simp [Function.comp]
      apply Array.ext'
      simp only [Array.toList_setIfInBounds]
      rw [List.set_comm _ _ (by decide)]
  · simp [h]
/-- A row of one's own, told as one that is read. -/
theorem pull_V {W : World} {base : Nat} {u v : Value} {xs : List S41} (h : Kd.S k41 41 W base (fun k_ => some k_ ≠ u.ownBlock) v xs) : Kd.V k41 41 W base (fun k_ => base ≤ k_ ∧ some k_ ≠ u.ownBlock) v xs :=
  Kd.S_V (Kd.S_mono (Kd.S_bound h) (fun k hk => ⟨hk.2.1, hk.1⟩))
/-- The first element's inner row is apart from all behind it. -/
theorem pull_tail {W : World} {g c base : Nat} {ok : Nat → Prop} {xs : List S41} (hS : Kd.S k41 41 W base ok (.slice (some ⟨g, 0, none⟩) xs.length c) xs) (h0 : 0 < xs.length) :
    ∃ v, W.cell? ⟨g, 1, none⟩ = some v ∧ (Kd.int .u8).R 5 W base (fun k => ok k ∧ k ≠ g) v (rd_T41 xs 0).f1 ∧ ∀ W' : World, (∀ k, base ≤ k → ok k → some k ≠ v.ownBlock → k < W.heap.size → W'.heap[k]? = W.heap[k]?) → Kd.C k41 W' (if c = 1 then some ⟨g, 0, none⟩ else some ⟨g, 2, none⟩) (xs.drop 1).length (xs.drop 1) := by
  obtain ⟨f, hok, inner, hown, hr⟩ := hS
  have hlt := own_lt hown g rfl
  have hbg := own_base hown g rfl
  rcases hown.2 with ⟨hv, _⟩ | ⟨g', cap, cur, hv, hb, hh, hnc, hcm, hcs, htake⟩
  · cases hv
  injection hv with ha _ hc
  injection ha with ha
  injection ha with ha
  subst ha
  subst hc
  rw [List.length_zipIdx] at htake hnc
  have hcs' : cur.size = c * 2 := hcs
  have htk : cur.toList.take (xs.length * 2) = inner := htake
  have hel : ∀ j, (hj : j < xs.length) → k41.M W base (fun k => (ok k ∧ k ≠ g) ∧ f k = j) xs[j] ((inner.drop (j * 2)).take 2) := fun j hj => by
    have h1 := hr.2 j (xs[j], j) (Kd.zip_at (List.getElem?_eq_getElem hj))
    exact k41.M_mono (fun k hk => ⟨⟨hk.1.1, fun e => hk.1.2 (by rw [e]; rfl)⟩, hk.2⟩) h1
  have hil : inner.length = xs.length * 2 := by
    have e1 : cur.toList.length = c * 2 := by rw [Array.length_toList]; exact hcs'
    rw [← htk, List.length_take, e1]
    omega
  obtain ⟨v, e0, hR⟩ := k41_openM (hel 0 h0)
  have hx0 : rd_T41 xs 0 = xs[0] := by unfold rd_T41; rw [List.getD_eq_getElem?_getD, show ((0 : Int)).toNat = 0 from rfl, List.getElem?_eq_getElem h0]; rfl
  have hcur : ∀ q u, inner[q]? = some u → cur[q]? = some u := fun q u hq => by
    rw [← htk] at hq
    have := (List.getElem?_eq_some_iff.1 hq).1
    rw [List.length_take] at this
    rw [List.getElem?_take_of_lt (by omega)] at hq
    simpa using hq
  have h1 : inner[1]? = some v := by
    have := congrArg (fun l => l[1]?) e0
    simpa [List.getElem?_take] using this
  refine ⟨v, (blk_cell hh 1).trans (hcur 1 v h1), by rw [hx0]; exact Kd.R_mono hR (fun k hk => hk.1), fun W' hW => ?_⟩
  have hvf : ∀ k, v.ownBlock = some k → f k = 0 ∧ k ≠ g := fun k hk => ⟨(hR.1 k hk).2, (hR.1 k hk).1.2⟩
  have hg' : W'.heap[g]? = some (.cells cur 41 (0, 0)) := (hW g hbg (hok g rfl) (fun e => (hvf g e.symm).2 rfl) hlt).trans hh
  refine ⟨rfl, by rw [List.length_drop]; simp only [maxLen] at hcm; omega, fun hp => ?_⟩
  rw [List.length_drop] at hp
  rw [if_neg (by omega)]
  refine ⟨_, rfl, fun j p hj => ?_⟩
  rw [List.getElem?_drop] at hj
  have hjl := (List.getElem?_eq_some_iff.1 hj).1
  obtain rfl : xs[1 + j] = p := by rw [List.getElem?_eq_getElem hjl] at hj; exact Option.some.inj hj
  have hm := k41.M_bound (hel (1 + j) hjl)
  have hm' := k41.M_move (w1 := W') (fun k hk => hW k hk.2.1 hk.1.1.1 (fun e => by have := (hvf k e.symm).1; have := hk.1.2; omega) hk.2.2.1) hm
  refine ⟨_, k41.K_len (k41.K_of_M hm'), k41.K_of_M hm', fun i u hu => ?_⟩
  have hi : i < 2 := by have := (List.getElem?_eq_some_iff.1 hu).1; rw [List.length_take] at this; omega
  rw [List.getElem?_take_of_lt hi, List.getElem?_drop] at hu
  have := hcur _ _ hu
  show W'.cell? ((⟨g, 2, none⟩ : Addr).add (j * 2 + i)) = some u
  rw [Addr.add_lit, blk_cell hg', show 2 + (j * 2 + i) = (1 + j) * 2 + i by omega]
  exact this
/-- What a pull hands back: the tail, and the first element's row. -/
theorem pull_end {W WF : World} {g c base gA gB : Nat} {xs : List S41} (hS : Kd.S k41 41 W base (fun k => k ≠ gA ∧ k ≠ gB) (.slice (some ⟨g, 0, none⟩) xs.length c) xs) (h0 : 0 < xs.length) (hsz : W.heap.size ≤ WF.heap.size) (hsame : ∀ k, k ≠ gA → k ≠ gB → WF.heap[k]? = W.heap[k]?) :
    ∃ A1 c1, W.cell? ⟨g, 1, none⟩ = some (.slice A1 (rd_T41 xs 0).f1.length c1) ∧ Kd.V k41 41 WF base (fun k_ => base ≤ k_ ∧ some k_ ≠ (Value.slice A1 (rd_T41 xs 0).f1.length c1).ownBlock) (.slice (if c = 1 then some ⟨g, 0, none⟩ else some ⟨g, 2, none⟩) (xs.drop 1).length (c - 1)) (xs.drop 1) ∧ (Kd.int .u8).R 5 WF base (fun k_ => base ≤ k_) (.slice A1 (rd_T41 xs 0).f1.length c1) (rd_T41 xs 0).f1 := by
  obtain ⟨v, hc, hR, hC⟩ := pull_tail hS h0
  obtain ⟨A1, c1, rfl⟩ := Kd.R_slice hR
  have hcl := (Kd.S_reads' hS).2.1
  refine ⟨A1, c1, hc, ⟨_, _, rfl, by rw [List.length_drop]; omega, fun W' hW' => hC W' (fun k hb hk hv hlt => ?_)⟩, ?_⟩
  · exact (hW' k ⟨hb, hv⟩ (Nat.lt_of_lt_of_le hlt hsz)).trans (hsame k hk.1 hk.2)
  · exact Kd.R_mono (Kd.R_move (Kd.R_bound hR) (fun k hk => hsame k hk.1.1.1 hk.1.1.2)) (fun k hk => hk.2.1)

end Go.Proofs.Ytkjgibdbbklejaa.PA
