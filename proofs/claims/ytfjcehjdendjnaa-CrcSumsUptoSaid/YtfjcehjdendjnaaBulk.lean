/- What an argument's bulk says of the lists that it reads as; for every argument. -/
import Derived.Test.YtfjcehjdendjnaaRows
import Derived.Test.YtfjcehjdendjnaaRd
set_option linter.unusedVariables false
set_option linter.unusedSimpArgs false
namespace Go.Proofs.Ytfjcehjdendjnaa.Rd
open Go.ChangeShapes Go.WideShapes Go.ChangeAt Go.RowKit
open Go.Proofs.YtfjcehjdendjnaaW.PrintWords Go.Proofs.YtfjcehjdendjnaaW.PrintMore

/-! ### What an argument's bulk says of what it reads as. -/
theorem bulk_one_le {H : Type} (d : DataW H) : 1 ≤ Rows.uptoBulk d := by
  cases d with
  | lit l => cases l <;> simp [Rows.uptoBulk]
  | nil => simp [Rows.uptoBulk]
  | ptr d => simp [Rows.uptoBulk]
  | slice elems spare => simp [Rows.uptoBulk]
  | agg parts => simp [Rows.uptoBulk]
  | iface t d => simp [Rows.uptoBulk]
  | map entries => simp [Rows.uptoBulk]
  | held h => simp [Rows.uptoBulk]
theorem bulkAll_sum {H : Type} (D : Nat → DataW H) (f : Nat → Nat) : ∀ l : List Nat, (∀ i ∈ l, f i ≤ Rows.uptoBulk (D i)) → (l.map f).sum ≤ Rows.uptoBulkAll (l.map D)
  | [], _ => by simp [Rows.uptoBulkAll]
  | i :: l, h => by
    have h1 := h i (by simp)
    have h2 := bulkAll_sum D f l (fun j hj => h j (by simp [hj]))
    simp only [List.map_cons, List.sum_cons, Rows.uptoBulkAll]
    omega
theorem bulkAll_append {H : Type} (l r : List (DataW H)) : Rows.uptoBulkAll (l ++ r) = Rows.uptoBulkAll l + Rows.uptoBulkAll r := by
  induction l with
  | nil => simp [Rows.uptoBulkAll]
  | cons x l ih => simp only [List.cons_append, Rows.uptoBulkAll, ih]; omega
/-- Whatever is read as data of type t is a value of kind d, a good one, of a measure that its bulk bounds. -/
def OpensM {α : Type} (P : Program) (d : Kd α) (t : TypeId) (good : α → Prop) (m : α → Nat) : Prop :=
  ∀ {H : Type} {enc : TypeId × Value → H} {w : World} {fuel : Nat} {cs : List Value} {x : DataW H × List MemPlace},
    DataW.trod enc P w 0 (fun _ => true) true fuel t cs = some x → (x.1.weights P t).all (· ≤ reachBytes) = true → ∃ a, d.K w a cs ∧ good a ∧ m a ≤ Rows.uptoBulk x.1
theorem opensM_of {α : Type} {P : Program} {d : Kd α} {t : TypeId} {good : α → Prop} (h : Opens P d t good) : OpensM P d t good (fun _ => 1) := by
  intro H enc w fuel cs x hx hz
  obtain ⟨a, h1, h2⟩ := h hx hz
  exact ⟨a, h1, h2, bulk_one_le _⟩
theorem opensM_slice {α : Type} (z0 : α) {P : Program} {d : Kd α} {t e : TypeId} {good : α → Prop} {m0 : α → Nat} (ht : P.underlying t = some (.slice e)) (hsz : P.cellsOf e = d.sz) (B : Nat) (hB : P.bytesOf e = B) (h : OpensM P d e good m0) :
    OpensM P (Kd.slice e d) t (fun xs => xs.length * B ≤ 140737488351232 ∧ xs.length ≤ 9223372036854775807 ∧ ∀ x ∈ xs, good x) (fun xs => (xs.map m0).sum) := by
  intro H enc w fuel cs x hx hz
  haveI : Inhabited α := ⟨z0⟩
  rcases Go.Deep.open_slice ht hx with ⟨rfl, rfl⟩ | ⟨a, len, cap, m, n, D, Pl, rfl, _, hlc, hcm, hm, rfl, hel⟩
  · exact ⟨[], ⟨none, 0, rfl, Nat.le_refl _, by simp, by simp, fun hp => absurd hp (by simp)⟩, ⟨by simp, by simp, fun x hx => absurd hx (by simp)⟩, by simp⟩
  · simp only [if_true] at hm
    subst hm
    simp only [DataW.weights, ht, List.length_map, List.length_range] at hz
    rw [List.all_cons, Bool.and_eq_true] at hz
    obtain ⟨hz1, hz2⟩ := hz
    obtain ⟨hz3, _⟩ := all_append hz2
    have hz1 := of_decide_eq_true hz1
    rw [hB] at hz1
    have hr : reachBytes = 140737488351232 := rfl
    have hone : ∀ i, i < len → ∃ y, ∃ c : List Value, c.length = d.sz ∧ d.K w y c ∧ (good y ∧ m0 y ≤ Rows.uptoBulk (D i)) ∧ ∀ j u, c[j]? = some u → w.cell? (a.add (i * d.sz + j)) = some u := by
      intro i hi
      obtain ⟨c, hc, htr⟩ := hel i (by omega)
      obtain ⟨hcl, hcc⟩ := cells_of hc
      obtain ⟨y, hK, hg⟩ := h htr (weightsAll_at hz3 i _ (by simp [hi]))
      refine ⟨y, c, by rw [hcl, hsz], hK, hg, fun j u hu => ?_⟩
      have := hcc j u hu
      rw [Go.Deep.add_add, hsz] at this
      exact this
    obtain ⟨f, hf⟩ := Go.Deep.choose_lt hone
    refine ⟨(List.range len).map f, ⟨some a, m, by simp, by simpa using hlc, by simp, ?_, fun _ => ⟨a, rfl, fun j p hp => ?_⟩⟩, ⟨?_, ?_, ?_⟩, ?_⟩
    · simp only [List.length_map, List.length_range]
      simp only [maxLen] at hcm
      omega
    · rw [List.getElem?_map] at hp
      by_cases hj : j < len
      · rw [List.getElem?_range hj] at hp
        simp at hp
        subst hp
        obtain ⟨c, h1, h2, _, h4⟩ := hf j hj
        exact ⟨c, h1, h2, h4⟩
      · rw [List.getElem?_eq_none (by simpa using hj)] at hp
        simp at hp
    · simp only [List.length_map, List.length_range]
      refine Nat.le_trans (Nat.mul_le_mul_right _ ?_) (hr ▸ hz1)
      omega
    · simp only [List.length_map, List.length_range]
      simp only [maxLen] at hcm
      omega
    · intro y hy
      obtain ⟨i, hi, rfl⟩ := List.mem_map.1 hy
      obtain ⟨c, _, _, hg, _⟩ := hf i (List.mem_range.1 hi)
      exact hg.1
    · have := bulkAll_sum D (fun i => m0 (f i)) (List.range len) (fun i hi => by
        obtain ⟨c, _, _, hg, _⟩ := hf i (List.mem_range.1 hi)
        exact hg.2)
      simp only [List.map_map, Rows.uptoBulk]
      have e : (List.range len).map (m0 ∘ f) = (List.range len).map (fun i => m0 (f i)) := rfl
      rw [e]
      omega
/-- The bound, as the builder hands it over. -/
theorem bulk_bound {H : Type} {l : List (DataW H)} (hk : Rows.uptoSmall H l = true) : Rows.uptoBulkAll l ≤ 1048576 := of_decide_eq_true hk

end Go.Proofs.Ytfjcehjdendjnaa.Rd
