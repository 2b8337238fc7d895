/- The pure statement of BitsPieces: bits joined are as long as all together and bytes joined are their own bits; for all lists of bytes. -/
import Derived.Test.YtkgcjiaadgnlkaaBtJ
import Derived.Test.YtkgcjiaadgnlkaaPAx20
set_option linter.unusedVariables false
namespace Go.Proofs.Ytkgcjiaadgnlkaa.BT
open Go.RowKit Go.Proofs.YtkgcjiaadgnlkaaW.PrintWords Go.Proofs.YtkgcjiaadgnlkaaW.PrintMore Go.Proofs.Ytkgcjiaadgnlkaa.PA

theorem wf_u8' {a : Int} (h : (Lit.int .u8 a).wf = true) : 0 ≤ a ∧ a ≤ 255 := by
  simp [Lit.wf] at h
  have h1 : IntKind.u8.min = 0 := rfl
  have h2 : IntKind.u8.max = 255 := rfl
  omega
/-- Bytes as bits. -/
def bb (B : List Int) : List Bool := B.flatMap fun x => low x.toNat 8
theorem bb_length (B : List Int) : (bb B).length = 8 * B.length := by
  induction B with
  | nil => rfl
  | cons x t ih =>
    unfold bb at ih ⊢
    rw [List.flatMap_cons, List.length_append, low_length, ih, List.length_cons]
    omega
theorem bb_append (A B : List Int) : bb (A ++ B) = bb A ++ bb B := by simp [bb]
theorem pack_bb (B : List Int) (h : isB B) : pack (bb B) = B := by
  induction B with
  | nil => rfl
  | cons x t ih =>
    have hx := h x (by simp)
    have e : bb (x :: t) = low x.toNat 8 ++ bb t := by simp [bb]
    rw [e, pack_cons _ _ (low_length _ _), ih (fun y hy => h y (by simp [hy])), byte_full x.toNat (by omega), Int.toNat_of_nonneg hx.1]
theorem join_ok (ls : List (List Bool)) (hlen : ls.length ≤ 1000) (hll : ∀ l ∈ ls, l.length ≤ 65536) (ht : total ls ≤ 65536) (k : Nat) (hk : 100000000 ≤ k) : bits_Join.f k (ls.map mkb) = some (pack ls.flatten, ((total ls : Nat) : Int), 0) := by
  unfold bits_Join.f
  obtain ⟨j1, j2⟩ := join_sum (ls.map mkb) ls hlen hll ls.length k 0 (by omega) (by omega) (by simp [total])
  rw [List.take_zero, show ((total [] : Nat) : Int) = 0 from rfl, show ((0 : Nat) : Int) = 0 from rfl] at j1 j2
  rw [List.length_map, j1, if_neg (by omega)]
  have h66 : ls.length * 66000 + 100 < k - 1 - ls.length := by
    have h67 : ls.length * 66000 ≤ 66000000 := Nat.mul_le_mul_right 66000 hlen
    revert h67
    generalize ls.length * 66000 = z
    intro h67
    clear j1 j2 hll ht
    omega
  obtain ⟨l1, l2⟩ := join_l1 ls hlen hll (by omega) ls.length (k - 1 - ls.length) 0 (by omega) h66 (by simp [total])
  rw [List.take_zero, List.flatten_nil, pack_nil, show ((total [] : Nat) : Int) = 0 from rfl, show ((0 : Nat) : Int) = 0 from rfl] at l1 l2
  rw [List.length_map]
  exact l1
theorem of_ok (B : List Int) (h : B.length ≤ 8192) : bits_Of.f B = some (B, 8 * (B.length : Int)) := by
  unfold bits_Of.f
  rw [if_neg (show ¬ ((B.length : Int) > 8192) by omega), clone_ok B (by omega), Option.bind_some, w64 (8 * (B.length : Int)) (by omega) (by omega)]
theorem mkb_bb (B : List Int) (h : isB B) : mkb (bb B) = (⟨B, 8 * (B.length : Int)⟩ : S24) := by
  unfold mkb
  rw [pack_bb B h, bb_length, show ((8 * B.length : Nat) : Int) = 8 * (B.length : Int) by omega]
theorem total_bb (L : List (List Int)) : total (L.map bb) = 8 * L.flatten.length := by
  induction L with
  | nil => rfl
  | cons B t ih =>
    unfold total at ih ⊢
    rw [List.map_cons, List.flatten_cons, List.flatten_cons, List.length_append, List.length_append, ih, bb_length]
    omega
theorem flat_bb (L : List (List Int)) : (L.map bb).flatten = bb L.flatten := by
  induction L with
  | nil => rfl
  | cons B t ih => rw [List.map_cons, List.flatten_cons, List.flatten_cons, ih, bb_append]
theorem isB_flat (L : List (List Int)) (h : ∀ B ∈ L, isB B) : isB L.flatten := by
  intro x hx
  obtain ⟨B, hB, hx⟩ := List.mem_flatten.1 hx
  exact h B hB x hx

theorem pieces_end (L : List (List Int)) (h : ∀ B ∈ L, isB B) (hL : L.length ≤ 50) (k : Nat) (hk : 100000000 ≤ k) (i : Int) (hi : ¬ i < (L.length : Int)) (hall : ∀ B ∈ L, B.length ≤ 300) :
    squelchlaw01_BitsPieces.l0 (k + 1) true (L.map fun B => mkb (bb B)) L.flatten L (L.length : Int) i = some true := by
  rw [squelchlaw01_BitsPieces.l0, if_neg hi]
  by_cases h8 : (L.flatten.length : Int) > 8000
  · rw [if_pos h8]
  · rw [if_neg h8]
    have ht : total (L.map bb) ≤ 65536 := by rw [total_bb]; omega
    have hj := join_ok (L.map bb) (by rw [List.length_map]; omega) (by
      intro l hl
      obtain ⟨B, hB, rfl⟩ := List.mem_map.1 hl
      have := hall B hB
      rw [bb_length]
      omega) ht k hk
    rw [List.map_map, flat_bb, pack_bb _ (isB_flat L h), total_bb] at hj
    have hj2 : bits_Join.f k (L.map fun B => mkb (bb B)) = some (L.flatten, ((8 * L.flatten.length : Nat) : Int), 0) := hj
    rw [hj2, Option.bind_some]
    dsimp only
    rw [if_pos rfl, if_pos rfl, w64 (8 * (L.flatten.length : Int)) (by omega) (by omega), if_pos (show ((8 * L.flatten.length : Nat) : Int) = 8 * (L.flatten.length : Int) by omega), if_pos rfl, of_ok _ (by omega), Option.bind_some]
    dsimp only
    rw [show ((8 * L.flatten.length : Nat) : Int) = 8 * (L.flatten.length : Int) by omega, same_refl, Option.bind_some]

theorem rd_L1_nat (xs : List (List Int)) (i : Nat) (h : i < xs.length) : rd_L1 xs (i : Int) = xs[i] := by
  unfold rd_L1
  rw [Int.toNat_natCast, List.getD_eq_getElem?_getD, List.getElem?_eq_getElem h]
  rfl
theorem flat_le (L : List (List Int)) (h : ∀ B ∈ L, B.length ≤ 300) : L.flatten.length ≤ L.length * 300 := by
  induction L with
  | nil => simp
  | cons B t ih =>
    have h1 := h B (by simp)
    have h2 := ih (fun C hC => h C (by simp [hC]))
    rw [List.flatten_cons, List.length_append, List.length_cons, Nat.succ_mul]
    omega

theorem pieces_l0 (L : List (List Int)) (h : ∀ B ∈ L, isB B) (hL : L.length ≤ 50) (d : Nat) : ∀ (k i : Nat), i + d = L.length → d + 100000010 < k → (∀ B ∈ L.take i, B.length ≤ 300) →
    squelchlaw01_BitsPieces.l0 k true ((L.take i).map fun B => mkb (bb B)) (L.take i).flatten L (L.length : Int) (i : Int) = some true := by
  induction d with
  | zero =>
    intro k i hi hk hall
    obtain rfl : i = L.length := by omega
    obtain ⟨k, rfl⟩ : ∃ m, k = m + 1 := ⟨k - 1, by omega⟩
    rw [List.take_length] at hall ⊢
    exact pieces_end L h hL k (by omega) _ (Int.lt_irrefl _) hall
  | succ d ih =>
    intro k i hi hk hall
    obtain ⟨k, rfl⟩ : ∃ m, k = m + 1 := ⟨k - 1, by omega⟩
    have hil : i < L.length := by omega
    rw [squelchlaw01_BitsPieces.l0, if_pos (show ((i : Int) < (L.length : Int)) by omega), if_pos (Int.natCast_nonneg i), if_pos (show ((i : Int) < (L.length : Int)) by omega), rd_L1_nat L i hil]
    by_cases h3 : (L[i].length : Int) > 300
    · rw [if_pos h3]
    · rw [if_neg h3, of_ok _ (by omega), Option.bind_some]
      dsimp only
      have hB : isB L[i] := h _ (List.getElem_mem hil)
      have hfl := flat_le (L.take i) hall
      have htl : (L.take i).length = i := by rw [List.length_take]; omega
      rw [htl] at hfl
      have hfl2 : (L.take i).flatten.length ≤ 15000 := Nat.le_trans hfl (by omega)
      rw [if_pos (by rw [List.length_map, htl]; omega), if_pos (by omega)]
      have e1 : ((L.take i).map fun B => mkb (bb B)) ++ [(⟨L[i], 8 * (L[i].length : Int)⟩ : S24)] = (L.take (i + 1)).map fun B => mkb (bb B) := by
        rw [List.take_succ_eq_append_getElem hil, List.map_append, List.map_cons, List.map_nil, mkb_bb _ hB]
      have e2 : (L.take i).flatten ++ L[i] = (L.take (i + 1)).flatten := by
        rw [List.take_succ_eq_append_getElem hil, List.flatten_append, List.flatten_cons, List.flatten_nil, List.append_nil]
      rw [e1, e2, w64 ((i : Int) + 1) (by omega) (by omega), show (i : Int) + 1 = ((i + 1 : Nat) : Int) from by omega]
      refine ih k (i + 1) (by omega) (by omega) ?_
      intro B hB
      rw [List.take_succ_eq_append_getElem hil, List.mem_append] at hB
      rcases hB with hB | hB
      · exact hall B hB
      · rw [List.mem_singleton.1 hB]
        omega

theorem pieces_pure : squelchlaw01_BitsPieces.Pure := by
  intro L hgood
  have hg : ∀ B ∈ L, isB B := by
    intro B hB x hx
    obtain ⟨_, _, h2⟩ := hgood.2.2 B hB
    exact wf_u8' (h2 x hx)
  refine ⟨100000200, ?_⟩
  unfold squelchlaw01_BitsPieces.f
  rw [live_ok (by omega), Option.bind_some, if_pos rfl]
  by_cases h5 : (L.length : Int) > 50
  · rw [if_pos h5]
  · rw [if_neg h5]
    have := pieces_l0 L hg (by omega) L.length 100000200 0 (by omega) (by omega) (by simp)
    rw [List.take_zero] at this
    exact this

end Go.Proofs.Ytkgcjiaadgnlkaa.BT
namespace Go.Proofs.Ytkgcjiaadgnlkaa.Pure
theorem BitsPieces : Go.Proofs.Ytkgcjiaadgnlkaa.PA.squelchlaw01_BitsPieces.Pure := Go.Proofs.Ytkgcjiaadgnlkaa.BT.pieces_pure
end Go.Proofs.Ytkgcjiaadgnlkaa.Pure
