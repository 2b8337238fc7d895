/- The pure statement of BitsJoins: any bits joined, by the program and by the document, are the same, or fail alike; for all lists of bits. -/
import Derived.Test.YtkgcjiaadgnlkaaBtJ
import Derived.Test.YtkgcjiaadgnlkaaPAx19
set_option linter.unusedVariables false
namespace Go.Proofs.Ytkgcjiaadgnlkaa.BT
open Go.RowKit Go.Proofs.YtkgcjiaadgnlkaaW.PrintWords Go.Proofs.YtkgcjiaadgnlkaaW.PrintMore Go.Proofs.Ytkgcjiaadgnlkaa.PA

theorem few_some (xs : List S24) (d : Nat) (hlen : xs.length ≤ 4611686018427387904) : ∀ (k i : Nat) (s : Int), i + d = xs.length → d < k → ∃ b, squelchlaw01_few.l0 k s xs (xs.length : Int) (i : Int) = some b := by
  induction d with
  | zero =>
    intro k i s hi hk
    obtain ⟨k, rfl⟩ : ∃ m, k = m + 1 := ⟨k - 1, by omega⟩
    rw [squelchlaw01_few.l0, if_neg (show ¬ ((i : Int) < (xs.length : Int)) by omega)]
    exact ⟨_, rfl⟩
  | succ d ih =>
    intro k i s hi hk
    obtain ⟨k, rfl⟩ : ∃ m, k = m + 1 := ⟨k - 1, by omega⟩
    rw [squelchlaw01_few.l0, if_pos (show (i : Int) < (xs.length : Int) by omega), if_pos (Int.natCast_nonneg i), if_pos (show (i : Int) < (xs.length : Int) by omega)]
    rw [w64 ((i : Int) + 1) (by omega) (by omega), show (i : Int) + 1 = ((i + 1 : Nat) : Int) from by omega]
    exact ih k (i + 1) _ (by omega) (by omega)

theorem wf_u8 {a : Int} (h : (Lit.int .u8 a).wf = true) : 0 ≤ a ∧ a ≤ 255 := by
  simp [Lit.wf] at h
  have h1 : IntKind.u8.min = 0 := rfl
  have h2 : IntKind.u8.max = 255 := rfl
  omega

theorem all_ok (xs : List S24) (h : ∀ j, j < xs.length → okS (xs.getD j z24)) : ∃ ls : List (List Bool), xs = ls.map mkb ∧ ∀ l ∈ ls, l.length ≤ 65536 := by
  induction xs with
  | nil => exact ⟨[], rfl, fun l hl => absurd hl (by simp)⟩
  | cons x t ih =>
    obtain ⟨ls, h1, h2⟩ := ih (fun j hj => by
      have := h (j + 1) (by simpa using hj)
      simpa using this)
    obtain ⟨l, h3, h4⟩ := okS_mk (h 0 (by simp))
    refine ⟨l :: ls, ?_, ?_⟩
    · rw [List.map_cons, ← h1, ← h3]
      rfl
    · intro m hm
      rcases List.mem_cons.1 hm with rfl | hm
      · exact h4
      · exact h2 m hm

/-- Both joins come to the same. -/
theorem join_both (xs : List S24) (hg : ∀ x ∈ xs, goodS x) (hlen : xs.length ≤ 1000) (k : Nat) (hk : 100000000 ≤ k) : ∃ B N e, bits_Join.f k xs = some (B, N, e) ∧ squelchref01_Join.f k xs = some (B, N, e) := by
  unfold bits_Join.f squelchref01_Join.f
  rcases first_bad xs xs.length with h | ⟨p, h1, h2, h3⟩
  · obtain ⟨ls, rfl, hll⟩ := all_ok xs h
    rw [List.length_map] at hlen
    rw [List.length_map]
    obtain ⟨j1, j2⟩ := join_sum (ls.map mkb) ls hlen hll ls.length k 0 (by omega) (by omega) (by simp [total])
    rw [List.take_zero, show ((total [] : Nat) : Int) = 0 from rfl, show ((0 : Nat) : Int) = 0 from rfl] at j1 j2
    rw [j1, j2]
    by_cases ht : total ls > 65536
    · rw [if_pos ht, if_pos ht]
      exact ⟨_, _, _, rfl, rfl⟩
    · rw [if_neg ht, if_neg ht]
      have h66 : ls.length * 66000 + 100 < k - 1 - ls.length := by
        have h67 : ls.length * 66000 ≤ 66000000 := Nat.mul_le_mul_right 66000 hlen
        revert h67
        generalize ls.length * 66000 = z
        intro h67
        clear j1 j2 hll ht h hg
        omega
      obtain ⟨l1, l2⟩ := join_l1 ls hlen hll (by omega) ls.length (k - 1 - ls.length) 0 (by omega) h66 (by simp [total])
      rw [List.take_zero, List.flatten_nil, pack_nil, show ((total [] : Nat) : Int) = 0 from rfl, show ((0 : Nat) : Int) = 0 from rfl] at l1 l2
      rw [List.length_map, l1, l2]
      exact ⟨_, _, _, rfl, rfl⟩
  · obtain ⟨j1, j2⟩ := join_bad xs xs hg hlen p h1 h2 h3 p k 0 0 (by omega) (by omega) (by omega)
    rw [show ((0 : Nat) : Int) = 0 from rfl] at j1 j2
    exact ⟨_, _, _, j1, j2⟩

theorem joins_pure : squelchlaw01_BitsJoins.Pure := by
  intro xs ⟨hl1, hl2, hgood⟩
  have hg : ∀ x ∈ xs, goodS x := by
    intro x hx
    obtain ⟨⟨h1, _, h2⟩, _⟩ := hgood x hx
    exact ⟨fun y hy => wf_u8 (h2 y hy), by omega⟩
  refine ⟨xs.length + 100000010, ?_⟩
  unfold squelchlaw01_BitsJoins.f
  rw [live_ok (by omega), Option.bind_some]
  obtain ⟨b, hb⟩ := few_some xs xs.length (by omega) (xs.length + 100000010) 0 0 (by omega) (by omega)
  unfold squelchlaw01_few.f
  rw [show ((0 : Nat) : Int) = 0 from rfl] at hb
  rw [hb, Option.bind_some, show xs.length + 100000010 = (xs.length + 100000009) + 1 from rfl]
  cases b
  · rw [if_neg (by decide), squelchlaw01_BitsJoins.j0, if_pos rfl]
  · rw [if_pos rfl, squelchlaw01_BitsJoins.j0]
    by_cases h : (xs.length : Int) > 1000
    · rw [decide_eq_true h, if_pos rfl]
    · rw [decide_eq_false h, if_neg (by decide)]
      obtain ⟨B, N, e, j1, j2⟩ := join_both xs hg (by omega) (xs.length + 100000009) (by omega)
      rw [j1, Option.bind_some, j2, Option.bind_some, if_pos rfl]
      dsimp only
      rw [same_refl, Option.bind_some, if_pos rfl, beq_self_eq_true]

end Go.Proofs.Ytkgcjiaadgnlkaa.BT
namespace Go.Proofs.Ytkgcjiaadgnlkaa.Pure
theorem BitsJoins : Go.Proofs.Ytkgcjiaadgnlkaa.PA.squelchlaw01_BitsJoins.Pure := Go.Proofs.Ytkgcjiaadgnlkaa.BT.joins_pure
end Go.Proofs.Ytkgcjiaadgnlkaa.Pure
