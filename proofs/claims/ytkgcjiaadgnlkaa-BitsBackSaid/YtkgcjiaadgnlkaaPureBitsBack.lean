/- The plain statement of BitsBack: what was put is got, whatever stands ahead, and behind; for all bits and all items. -/
import Derived.Test.YtkgcjiaadgnlkaaBtE
set_option linter.unusedVariables false
namespace Go.Proofs.Ytkgcjiaadgnlkaa.BT
open Go.RowKit Go.Proofs.YtkgcjiaadgnlkaaW.PrintWords Go.Proofs.YtkgcjiaadgnlkaaW.PrintMore Go.Proofs.Ytkgcjiaadgnlkaa.PA

theorem few_someb (xs : List S24) (d : Nat) (hlen : xs.length ≤ 4611686018427387904) : ∀ (k i : Nat) (s : Int), i + d = xs.length → d < k → ∃ b, squelchlaw01_few.l0 k s xs (xs.length : Int) (i : Int) = some b := by
  induction d with
  | zero =>
    intro k i s hi hk
    obtain ⟨k, rfl⟩ : ∃ m, k = m + 1 := ⟨k - 1, by omega⟩
    rw [squelchlaw01_few.l0, if_neg (show ¬ ((i : Int) < (xs.length : Int)) by omega)]
    exact ⟨_, rfl⟩
  | succ d ih =>
    intro k i s hi hk
    obtain ⟨k, rfl⟩ : ∃ m, k = m + 1 := ⟨k - 1, by omega⟩
    rw [squelchlaw01_few.l0, if_pos (show (i : Int) < (xs.length : Int) by omega), if_pos (Int.natCast_nonneg i), if_pos (show (i : Int) < (xs.length : Int) by omega)]
    rw [w64 ((i : Int) + 1) (by omega) (by omega), show (i : Int) + 1 = ((i + 1 : Nat) : Int) from by omega]
    exact ih k (i + 1) _ (by omega) (by omega)
theorem few_twob {k : Nat} (hk : 3 ≤ k) (x y : S24) : ∃ b, squelchlaw01_few.f k [x, y] = some b := by
  unfold squelchlaw01_few.f
  exact few_someb [x, y] 2 (by simp) k 0 0 rfl (by omega)
theorem join_any (ls : List (List Bool)) (hlen : ls.length ≤ 1000) (hll : ∀ l ∈ ls, l.length ≤ 65536) (k : Nat) (hk : 100000000 ≤ k) : bits_Join.f k (ls.map mkb) = if total ls > 65536 then some ([], 0, 2) else some (pack ls.flatten, ((total ls : Nat) : Int), 0) := by
  unfold bits_Join.f
  obtain ⟨j1, j2⟩ := join_sum (ls.map mkb) ls hlen hll ls.length k 0 (by omega) (by omega) (by simp [total])
  rw [List.take_zero, show ((total [] : Nat) : Int) = 0 from rfl, show ((0 : Nat) : Int) = 0 from rfl] at j1
  rw [List.length_map, j1]
  by_cases ht : total ls > 65536
  · rw [if_pos ht, if_pos ht]
  · rw [if_neg ht, if_neg ht]
    have h66 : ls.length * 66000 + 100 < k - 1 - ls.length := by
      have h67 : ls.length * 66000 ≤ 66000000 := Nat.mul_le_mul_right 66000 hlen
      revert h67
      generalize ls.length * 66000 = z
      intro h67
      clear j1 j2 hll ht
      omega
    obtain ⟨l1, l2⟩ := join_l1 ls hlen hll (by omega) ls.length (k - 1 - ls.length) 0 (by omega) h66 (by simp [total])
    rw [List.take_zero, List.flatten_nil, pack_nil, show ((total [] : Nat) : Int) = 0 from rfl, show ((0 : Nat) : Int) = 0 from rfl] at l1
    rw [List.length_map, l1]
theorem back_l0 (items : List S52) (hg : ∀ x ∈ items, 0 ≤ x.f0 ∧ x.f0 < 18446744073709551616) (hi100 : items.length ≤ 100) (l0 t : List Bool) (ht : t.length ≤ 65536) : ∀ (d i k : Nat) (cs : List (List Bool)) (ys : List S52), i + d = items.length → Encs ys cs → cs.length + d ≤ 100 → (l0 ++ cs.flatten).length ≤ 65536 → 150000000 + d < k →
    sBB.l0 k true ys (lay l0.length cs) items (items.length : Int) (i : Int) (pack t) (t.length : Int) (pack (l0 ++ cs.flatten)) ((l0 ++ cs.flatten).length : Int) = some true := by
  intro d
  induction d with
  | zero =>
    intro i k cs ys hi he hc hl hk
    obtain ⟨k, rfl⟩ : ∃ m, k = m + 1 := ⟨k - 1, by omega⟩
    have hj := join_any [l0 ++ cs.flatten, t] (by simp) (by intro l hl'; rcases List.mem_cons.1 hl' with rfl | h; exact hl; rw [List.mem_singleton.1 h]; exact ht) k (by omega)
    have e1 : [l0 ++ cs.flatten, t].map mkb = [(⟨pack (l0 ++ cs.flatten), ((l0 ++ cs.flatten).length : Int)⟩ : S24), (⟨pack t, (t.length : Int)⟩ : S24)] := rfl
    have e2 : [l0 ++ cs.flatten, t].flatten = l0 ++ cs.flatten ++ t := by simp
    have e3 : total [l0 ++ cs.flatten, t] = (l0 ++ cs.flatten ++ t).length := by unfold total; rw [e2]
    rw [e1, e2, e3] at hj
    rw [sBB.l0, if_neg (by omega), hj]
    by_cases hb : (l0 ++ cs.flatten ++ t).length > 65536
    · rw [if_pos hb, Option.bind_some]
      rfl
    · rw [if_neg hb, Option.bind_some]
      dsimp only
      rw [if_pos rfl]
      have := back_l1 ys cs he l0 t (pack (l0 ++ cs.flatten)) (by omega) (by omega) ys.length k 0 (by omega) (by have := encs_len he; omega)
      have e9 : (l0 ++ cs.flatten).length = l0.length + cs.flatten.length := List.length_append
      rw [e9]
      exact this
  | succ d ih =>
    intro i k cs ys hi he hc hl hk
    obtain ⟨k, rfl⟩ : ∃ m, k = m + 1 := ⟨k - 1, by omega⟩
    have hil : i < items.length := by omega
    have hx := hg _ (List.getElem_mem hil)
    have hyl := encs_len he
    rw [sBB.l0, if_pos (by omega), if_pos (by omega), if_pos (by omega), rd_T52_at items i hil, w64 ((i : Int) + 1) (by omega) (by omega), show (i : Int) + 1 = ((i + 1 : Nat) : Int) by omega]
    rcases put_enc (k := k) (by omega) items[i] hx.1 hx.2 (l0 ++ cs.flatten) hl with ⟨c, h1, h2, h3⟩ | ⟨e, h1, h2⟩
    · rw [h3, Option.bind_some]
      dsimp only
      rw [if_pos rfl, if_pos (by omega), if_pos (by rw [lay_len]; omega)]
      have e1 : l0 ++ cs.flatten ++ c = l0 ++ (cs ++ [c]).flatten := by simp
      have e2 : lay l0.length cs ++ [((l0 ++ cs.flatten).length : Int)] = lay l0.length (cs ++ [c]) := by rw [lay_snoc, List.length_append]
      have e3 : (((l0 ++ cs.flatten).length + c.length : Nat) : Int) = ((l0 ++ (cs ++ [c]).flatten).length : Int) := by
        have e9 : (l0 ++ cs.flatten ++ c).length = (l0 ++ cs.flatten).length + c.length := List.length_append
        rw [← e1, e9]
      rw [e1, e2, e3]
      refine ih (i + 1) k (cs ++ [c]) (ys ++ [items[i]]) (by omega) (encs_snoc he h1 hx) (by simp; omega) ?_ (by omega)
      rw [← e1, List.length_append]
      exact h2
    · rw [h2, Option.bind_some]
      dsimp only
      rw [if_neg h1]
      exact ih (i + 1) k cs ys (by omega) he (by omega) hl (by omega)
theorem back_pure : sBB.Pure := by
  intro B1 n1 items B2 n2 ⟨hb1, _, hb2⟩ hn1 ⟨hi1, _, hi2⟩ ⟨hc1, _, hc2⟩ hn2
  refine ⟨200000000, ?_⟩
  have hB1 : isB B1 := fun x hx => wf_u8b (hb2 x hx)
  have hB2 : isB B2 := fun x hx => wf_u8b (hc2 x hx)
  have hup : ∀ (a : List Int) (b : Int) (c : List Int) (d : Int), sBB.j0 200000000 items true true a b c d = some true := fun a b c d => by
    rw [show (200000000 : Nat) = 199999999 + 1 from rfl, sBB.j0, if_pos rfl]
  unfold sBB.f
  rw [live_ok (by decide), Option.bind_some]
  obtain ⟨b, hb⟩ := few_twob (k := 200000000) (by decide) (⟨B1, n1⟩ : S24) (⟨B2, n2⟩ : S24)
  rw [hb, Option.bind_some]
  by_cases hbt : b = true
  · rw [if_pos hbt]
    by_cases hlen : (items.length : Int) > 100
    · rw [if_pos hlen]
      exact hup _ _ _ _
    · rw [if_neg hlen]
      by_cases ho1 : Ok B1 n1
      · obtain ⟨l, rfl, rfl, hl⟩ := ho1
        rw [check_yes (by decide) l hl, Option.bind_some, if_pos rfl]
        by_cases ho2 : Ok B2 n2
        · obtain ⟨t, rfl, rfl, ht⟩ := ho2
          rw [check_yes (by decide) t ht, Option.bind_some]
          have hpl : (pack l).length ≤ 140737488351232 := by omega
          have := back_l0 items (fun x hx => wf_u64b (hi2 x hx).1) (by omega) l t ht items.length 0 199999999 [] [] (by omega) trivial (by simp; omega) (by simpa using hl) (by omega)
          rw [show (200000000 : Nat) = 199999999 + 1 from rfl, sBB.j0, if_neg (by decide), if_pos (by simp only [List.length_nil]; omega)]
          simpa [lay] using this
        · rw [check_no (by decide) hB2 (by omega) ho2, Option.bind_some]
          exact hup _ _ _ _
      · rw [check_no (by decide) hB1 (by omega) ho1, Option.bind_some, if_neg (by decide)]
        exact hup _ _ _ _
  · rw [if_neg hbt]
    exact hup _ _ _ _

end Go.Proofs.Ytkgcjiaadgnlkaa.BT
namespace Go.Proofs.Ytkgcjiaadgnlkaa.Pure
theorem BitsBack : Go.Proofs.Ytkgcjiaadgnlkaa.PA.sBB.Pure := Go.Proofs.Ytkgcjiaadgnlkaa.BT.back_pure
end Go.Proofs.Ytkgcjiaadgnlkaa.Pure
