/- What pull computes, in plain lists. -/
import Derived.Test.YtkjgibdbbklejaaJtP
import Derived.Test.YtkjgibdbbklejaaHPull
set_option linter.unusedVariables false
set_option linter.unusedSimpArgs false
namespace Go.Proofs.Ytkjgibdbbklejaa.Jt
open Go.RowKit Go.Proofs.Ytkjgibdbbklejaa.PA Go.Proofs.YtkjgibdbbklejaaW.PrintWords Go.Proofs.YtkjgibdbbklejaaW.PrintLast Go.Proofs.YtkjgibdbbklejaaW.PrintMore

/-- What a pull comes to. -/
def pull (on : Bool) (nx dp dr : Int) (q : List S41) : Bool × Int × Int × Int × (List (S41)) × Int × List Int × Int :=
  if on = false ∧ (q.length : Int) < dp then (on, nx, dp, dr, q, 0, [], 0)
  else if q ≠ [] ∧ (rd_T41 q 0).f0 = frm on nx q then (true, frm on nx q + 1, dp, 0, q.drop 1, 1, (rd_T41 q 0).f1, 0)
  else if dr + 1 = 12 then (false, 0, dp, 0, [], 3, [], 0) else (true, frm on nx q + 1, dp, dr + 1, q, 2, [], 0)
theorem pull_f {on : Bool} {nx dp dr : Int} {q : List S41} (h : OK on nx dp dr q) (hq : q.length ≤ 1000) (k : Nat) (hk : 10000 ≤ k) : jitter_Pull.f k on nx dp dr q = some (pull on nx dp dr q) := by
  obtain ⟨k, rfl⟩ := some_of k 2 (by omega)
  have d1 := h.d1
  have n1 := h.n1
  have n2 := h.n2
  have y1 := h.y1
  have y2 := h.y2
  unfold jitter_Pull.f
  rw [check_f on nx dp dr q (by omega) _ (by omega), if_pos (ok_to h), Option.bind_some, if_pos rfl, owned_f on nx dp dr q (by omega) (gd_b h.gds) _ (by omega), Option.bind_some]
  dsimp only
  have key : ∀ (n : Int), n = frm on nx q → (on = true ∨ dp ≤ (q.length : Int)) → jitter_Pull.j0 (k + 2) true n dp dr q = some (pull on nx dp dr q) := fun n hn hor => by
    have hnw : ¬ (on = false ∧ (q.length : Int) < dp) := by
      rintro ⟨a, b⟩
      rcases hor with c | c
      · rw [a] at c; cases c
      · omega
    have hb : 0 ≤ n ∧ n ≤ 2199023255552 := by
      by_cases he : q = []
      · subst he
        rcases hor with c | c
        · rw [hn]; unfold frm; rw [if_pos c]; exact ⟨n1, n2⟩
        · simp at c; omega
      · rw [hn]; exact frm_b h he
    have j1 : ∀ b : Bool, (b = true ↔ q ≠ [] ∧ (rd_T41 q 0).f0 = n) → jitter_Pull.j1 (k + 1) b true n dp dr q = some (pull on nx dp dr q) := fun b hb' => by
      rw [jitter_Pull.j1]
      unfold pull
      rw [if_neg hnw, ← hn]
      by_cases h1 : b = true
      · have h2 := hb'.1 h1
        have := List.length_pos_iff.2 h2.1
        rw [if_pos h1, if_pos (by omega), if_pos h2, w64 _ (by omega) (by omega)]
      · rw [if_neg h1, if_neg (fun h2 => h1 (hb'.2 h2)), w64 (dr + 1) (by omega) (by omega)]
        by_cases h3 : dr + 1 = 12
        · rw [if_pos h3, if_pos h3]
        · rw [if_neg h3, if_neg h3, w64 _ (by omega) (by omega)]
    rw [jitter_Pull.j0]
    by_cases he : q = []
    · rw [if_neg (by rw [he]; simp)]
      exact j1 _ (by simp [he])
    · have := List.length_pos_iff.2 he
      rw [if_pos (by omega), if_pos (by omega)]
      exact j1 _ (by rw [beq_iff_eq]; exact ⟨fun h => ⟨he, h⟩, fun h => h.2⟩)
  by_cases hon : on = true
  · subst hon
    rw [if_pos rfl]
    exact key nx (by unfold frm; rw [if_pos rfl]) (.inl rfl)
  · rw [Bool.not_eq_true] at hon
    subst hon
    rw [if_neg (by decide)]
    by_cases hw : (q.length : Int) < dp
    · rw [if_pos hw]
      unfold pull
      rw [if_pos ⟨rfl, hw⟩]
    · rw [if_neg hw, if_pos (by omega)]
      exact key _ (by unfold frm; rw [if_neg (by decide)]) (.inr (by omega))
end Go.Proofs.Ytkjgibdbbklejaa.Jt
