/- What the functions of a state of jitter compute, in plain lists. -/
import Derived.Test.YtkjgibdbbklejaaPAx2
import Derived.Test.YtkjgibdbbklejaaPAx4
set_option linter.unusedVariables false
set_option linter.unusedSimpArgs false
namespace Go.Proofs.Ytkjgibdbbklejaa.Jt
open Go.RowKit Go.Proofs.Ytkjgibdbbklejaa.PA Go.Proofs.YtkjgibdbbklejaaW.PrintWords Go.Proofs.YtkjgibdbbklejaaW.PrintLast Go.Proofs.YtkjgibdbbklejaaW.PrintMore

theorem rd_at (xs : List S41) (i : Nat) (h : i < xs.length) : rd_T41 xs (i : Int) = xs[i] := by
  unfold rd_T41
  rw [Int.toNat_natCast, List.getD_eq_getElem?_getD, List.getElem?_eq_getElem h]
  rfl
theorem w64 (n : Int) (h0 : -9223372036854775808 ≤ n) (h1 : n ≤ 9223372036854775807) : wrap64 n = n := by unfold wrap64; omega
theorem some_of (k m : Nat) (h : m ≤ k) : ∃ q, k = q + m := ⟨k - m, by omega⟩
def gd (p : S41) : Bool := decide (0 ≤ p.f0 ∧ p.f0 ≤ 1099511627776 ∧ 0 < p.f1.length ∧ p.f1.length ≤ 40)
theorem gd_iff (p : S41) : gd p = true ↔ 0 ≤ p.f0 ∧ p.f0 ≤ 1099511627776 ∧ 0 < p.f1.length ∧ p.f1.length ≤ 40 := decide_eq_true_iff
theorem good_f (p : S41) : jitter_good.f p.f0 p.f1 = some (gd p) := by
  have e : ∀ b : Bool, (b = true ↔ 0 ≤ p.f0 ∧ p.f0 ≤ 1099511627776 ∧ 0 < p.f1.length ∧ p.f1.length ≤ 40) → some b = some (gd p) := fun b h => by
    congr 1
    rw [Bool.eq_iff_iff, h, gd_iff]
  unfold jitter_good.f
  by_cases h1 : p.f0 ≥ 0
  · rw [if_pos h1]
    by_cases h2 : p.f0 ≤ 1099511627776
    · rw [if_pos h2]
      by_cases h3 : (p.f1.length : Int) > 0
      · rw [if_pos h3]
        exact e _ (by rw [decide_eq_true_iff]; omega)
      · rw [if_neg h3]
        exact e _ (by simp; omega)
    · rw [if_neg h2]
      exact e _ (by simp; omega)
  · rw [if_neg h1]
    exact e _ (by simp; omega)
/-- A row of packets, from 'last' on, none farther than 64 from 'fr'. -/
def chk (fr : Int) : Int → List S41 → Bool
  | _, [] => true
  | last, p :: q => gd p && decide (last < p.f0) && decide (wrap64 (p.f0 - fr) < 64) && chk fr p.f0 q
theorem chk_l0 (fr : Int) (q : List S41) (hq : q.length ≤ 4611686018427387904) : ∀ (d k i : Nat) (last : Int), i + d = q.length → d < k → jitter_Check.l0 k last fr q (q.length : Int) (i : Int) = some (if chk fr last (q.drop i) = true then 0 else 1) := by
  intro d
  induction d with
  | zero =>
    intro k i last hi hk
    obtain ⟨k, rfl⟩ := some_of k 1 (by omega)
    rw [jitter_Check.l0, if_neg (by omega), List.drop_eq_nil_of_le (by omega)]
    rfl
  | succ d ih =>
    intro k i last hi hk
    obtain ⟨k, rfl⟩ := some_of k 1 (by omega)
    have hil : i < q.length := by omega
    rw [jitter_Check.l0, if_pos (show (i : Int) < (q.length : Int) by omega), if_pos (by omega), if_pos (show (i : Int) < (q.length : Int) by omega), rd_at q i hil, good_f, Option.bind_some, List.drop_eq_getElem_cons hil]
    by_cases h1 : gd q[i] = true
    · rw [if_pos h1]
      by_cases h2 : q[i].f0 ≤ last
      · rw [if_pos h2, chk, decide_eq_false (by omega : ¬ last < q[i].f0)]
        simp
      · rw [if_neg h2]
        by_cases h3 : wrap64 (q[i].f0 - fr) ≥ 64
        · rw [if_pos h3, chk, decide_eq_false (by omega : ¬ wrap64 (q[i].f0 - fr) < 64)]
          simp
        · rw [if_neg h3, w64 _ (by omega) (by omega), show (i : Int) + 1 = ((i + 1 : Nat) : Int) by omega, ih k (i + 1) _ (by omega) (by omega)]
          conv => rhs; rw [chk]
          rw [h1, decide_eq_true (by omega : last < q[i].f0), decide_eq_true (by omega : wrap64 (q[i].f0 - fr) < 64)]
          simp
    · rw [if_neg h1, chk]
      rw [Bool.not_eq_true] at h1
      rw [h1]
      simp
/-- Whether a state may be. -/
def okb (on : Bool) (nx dp dr : Int) (q : List S41) : Bool := decide (1 ≤ dp ∧ dp ≤ 16 ∧ 0 ≤ nx ∧ nx ≤ 2199023255552 ∧ 0 ≤ dr ∧ dr < 12 ∧ (on = true ∨ nx + dr ≤ 0)) && (if on = true then chk nx (nx - 1) q else match q with | [] => true | p :: _ => chk p.f0 (-1) q)
theorem check_j0f (k : Nat) (on : Bool) (nx dp dr : Int) (q : List S41) : jitter_Check.j0 (k + 2) false on nx dp dr q = some 1 := by
  rw [jitter_Check.j0, if_neg (by decide), jitter_Check.j1, if_pos rfl]
theorem check_f (on : Bool) (nx dp dr : Int) (q : List S41) (hq : q.length ≤ 4611686018427387904) (k : Nat) (hk : q.length + 5 ≤ k) : jitter_Check.f k on nx dp dr q = some (if okb on nx dp dr q = true then 0 else 1) := by
  obtain ⟨k, rfl⟩ := some_of k 4 (by omega)
  have hbad : ¬ (1 ≤ dp ∧ dp ≤ 16 ∧ 0 ≤ nx ∧ nx ≤ 2199023255552 ∧ 0 ≤ dr ∧ dr < 12 ∧ (on = true ∨ nx + dr ≤ 0)) → some (1 : Int) = some (if okb on nx dp dr q = true then 0 else 1) := fun h => by
    unfold okb
    rw [decide_eq_false h]
    simp
  unfold jitter_Check.f
  by_cases h1 : dp ≥ 1
  · rw [if_pos h1]
    by_cases h2 : dp ≤ 16
    · rw [if_pos h2]
      by_cases h3 : nx ≥ 0
      · rw [if_pos h3]
        by_cases h4 : nx ≤ 2199023255552
        · rw [if_pos h4]
          by_cases h5 : dr ≥ 0
          · rw [if_pos h5]
            by_cases h6 : dr < 12
            · rw [decide_eq_true h6, jitter_Check.j0, if_pos rfl]
              have hj : ∀ c : Bool, (c = true ↔ ¬ (on = true ∨ nx + dr ≤ 0)) → jitter_Check.j1 (k + 3) c on nx dp dr q = some (if okb on nx dp dr q = true then 0 else 1) := fun c hc => by
                rw [jitter_Check.j1]
                by_cases hct : c = true
                · rw [if_pos hct]
                  exact hbad (fun h => (hc.1 hct) h.2.2.2.2.2.2)
                · rw [if_neg hct]
                  have hor : on = true ∨ nx + dr ≤ 0 := Classical.byContradiction fun h => hct (hc.2 h)
                  have hgd : decide (1 ≤ dp ∧ dp ≤ 16 ∧ 0 ≤ nx ∧ nx ≤ 2199023255552 ∧ 0 ≤ dr ∧ dr < 12 ∧ (on = true ∨ nx + dr ≤ 0)) = true := decide_eq_true ⟨h1, h2, h3, h4, h5, h6, hor⟩
                  unfold okb
                  rw [hgd, Bool.true_and]
                  cases q with
                  | nil => simp [chk]
                  | cons p q' =>
                    rw [if_neg (by simp only [List.length_cons]; omega), if_pos (by simp only [List.length_cons]; omega)]
                    have hl0 := fun fr last => chk_l0 fr (p :: q') hq (p :: q').length (k + 1) 0 last (by omega) (by omega)
                    by_cases hon : on = true
                    · rw [if_pos hon, jitter_Check.j2, w64 (nx - 1) (by omega) (by omega), if_pos hon]
                      exact hl0 nx (nx - 1)
                    · rw [if_neg hon, jitter_Check.j2, if_neg hon]
                      have := hl0 p.f0 (-1)
                      rw [show rd_T41 (p :: q') 0 = p from rfl]
                      exact this
              by_cases hon : on = true
              · rw [if_pos hon]
                exact hj _ (by simp [hon]; try omega)
              · rw [if_neg hon, w64 _ (by omega) (by omega)]
                exact hj _ (by simp [hon]; try omega)
            · rw [decide_eq_false h6, check_j0f]
              exact hbad (by omega)
          · rw [if_neg h5, check_j0f]
            exact hbad (by omega)
        · rw [if_neg h4, check_j0f]
          exact hbad (by omega)
      · rw [if_neg h3, check_j0f]
        exact hbad (by omega)
    · rw [if_neg h2, check_j0f]
      exact hbad (by omega)
  · rw [if_neg h1, check_j0f]
    exact hbad (by omega)

end Go.Proofs.Ytkjgibdbbklejaa.Jt
