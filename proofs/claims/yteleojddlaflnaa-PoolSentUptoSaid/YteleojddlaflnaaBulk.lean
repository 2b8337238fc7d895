/- What an argument's bulk says of the lists that it reads as; for every argument. -/
import Derived.Test.YteleojddlaflnaaRows
import Derived.Test.YteleojddlaflnaaRd
set_option linter.unusedVariables false
set_option linter.unusedSimpArgs false
namespace Go.Proofs.Yteleojddlaflnaa.Rd
open Go.ChangeShapes Go.WideShapes Go.ChangeAt Go.RowKit
open Go.Proofs.YteleojddlaflnaaW.PrintWords Go.Proofs.YteleojddlaflnaaW.PrintMore

/-! ### What an argument's bulk says of what it reads as. -/
theorem bulk_one_le {H : Type} (d : DataW H) : 1 ≤ Rows.uptoBulk d := by
  cases d with
  | lit l => cases l <;> simp [Rows.uptoBulk]
  | nil => simp [Rows.uptoBulk]
  | ptr d => simp [Rows.uptoBulk]
  | slice elems spare => simp [Rows.uptoBulk]
  | agg parts => simp [Rows.uptoBulk]
  | iface t d => simp [Rows.uptoBulk]
  | map entries => simp [Rows.uptoBulk]
  | held h => simp [Rows.uptoBulk]
theorem bulkAll_sum {H : Type} (D : Nat → DataW H) (f : Nat → Nat) : ∀ l : List Nat, (∀ i ∈ l, f i ≤ Rows.uptoBulk (D i)) → (l.map f).sum ≤ Rows.uptoBulkAll (l.map D)
  | [], _ => by simp [Rows.uptoBulkAll]
  | i :: l, h => by
    have h1 := h i (by simp)
    have h2 := bulkAll_sum D f l (fun j hj => h j (by simp [hj]))
    simp only [List.map_cons, List.sum_cons, Rows.uptoBulkAll]
    omega
theorem bulkAll_append {H : Type} (l r : List (DataW H)) : Rows.uptoBulkAll (l ++ r) = Rows.uptoBulkAll l + Rows.uptoBulkAll r := by
  induction l with
  | nil => simp [Rows.uptoBulkAll]
  | cons x l ih => simp only [List.cons_append, Rows.uptoBulkAll, ih]; omega
/-- Whatever is read as data of type t is a value of kind d, a good one, of a measure that its bulk bounds. -/
def OpensM {α : Type} (P : Program) (d : Kd α) (t : TypeId) (good : α → Prop) (m : α → Nat) : Prop :=
  ∀ {H : Type} {enc : TypeId × Value → H} {w : World} {fuel : Nat} {cs : List Value} {x : DataW H × List MemPlace},
    DataW.trod enc P w 0 (fun _ => true) true fuel t cs = some x → (x.1.weights P t).all (· ≤ reachBytes) = true → ∃ a, d.K w a cs ∧ good a ∧ m a ≤ Rows.uptoBulk x.1
theorem opensM_of {α : Type} {P : Program} {d : Kd α} {t : TypeId} {good : α → Prop} (h : Opens P d t good) : OpensM P d t good (fun _ => 1) := by
  intro H enc w fuel cs x hx hz
  obtain ⟨a, h1, h2⟩ := h hx hz
  exact ⟨a, h1, h2, bulk_one_le _⟩
theorem opensM_slice {α : Type} (z0 : α) {P : Program} {d : Kd α} {t e : TypeId} {good : α → Prop} {m0 : α → Nat} (ht : P.underlying t = some (.slice e)) (hsz : P.cellsOf e = d.sz) (B : Nat) (hB : P.bytesOf e = B) (h : OpensM P d e good m0) :
    OpensM P (Kd.slice e d) t (fun xs => xs.length * B ≤ 140737488351232 ∧ xs.length ≤ 9223372036854775807 ∧ ∀ x ∈ xs, good x) (fun xs => (xs.map m0).sum) := by
  intro H enc w fuel cs x hx hz
  haveI : Inhabited α := ⟨z0⟩
  rcases Go.Deep.open_slice ht hx with ⟨rfl, rfl⟩ | ⟨a, len, cap, m, n, D, Pl, rfl, _, hlc, hcm, hm, rfl, hel⟩
  · exact ⟨[], ⟨none, 0, rfl, Nat.le_refl _, by simp, by simp, fun hp => absurd hp (by simp)⟩, ⟨by simp, by simp, fun x hx => absurd hx (by simp)⟩, by simp⟩
  · simp only [if_true] at hm
    subst hm
    simp only [DataW.weights, ht, List.length_map, List.length_range] at hz
    rw [List.all_cons, Bool.and_eq_true] at hz
    obtain ⟨hz1, hz2⟩ := hz
    obtain ⟨hz3, _⟩ := all_append hz2
    have hz1 := of_decide_eq_true hz1
    rw [hB] at hz1
    have hr : reachBytes = 140737488351232 := rfl
    have hone : ∀ i, i < len → ∃ y, ∃ c : List Value, c.length = d.sz ∧ d.K w y c ∧ (good y ∧ m0 y ≤ Rows.uptoBulk (D i)) ∧ ∀ j u, c[j]? = some u → w.cell? (a.add (i * d.sz + j)) = some u := by
      intro i hi
      obtain ⟨c, hc, htr⟩ := hel i (by omega)
      obtain ⟨hcl, hcc⟩ := cells_of hc
      obtain ⟨y, hK, hg⟩ := h htr (weightsAll_at hz3 i _ (by simp [hi]))
      refine ⟨y, c, by rw [hcl, hsz], hK, hg, fun j u hu => ?_⟩
      have := hcc j u hu
      rw [Go.Deep.add_add, hsz] at this
      exact this
    obtain ⟨f, hf⟩ := Go.Deep.choose_lt hone
    refine ⟨(List.range len).map f, ⟨some a, m, by simp, by simpa using hlc, by simp, ?_, fun _ => ⟨a, rfl, fun j p hp => ?_⟩⟩, ⟨?_, ?_, ?_⟩, ?_⟩
    · simp only [List.length_map, List.length_range]
      simp only [maxLen] at hcm
      omega
    · rw [List.getElem?_map] at hp
      by_cases hj : j < len
      · rw [List.getElem?_range hj] at hp
        simp at hp
        subst hp
        obtain ⟨c, h1, h2, _, h4⟩ := hf j hj
        exact ⟨c, h1, h2, h4⟩
      · rw [List.getElem?_eq_none (by simpa using hj)] at hp
        simp at hp
    · simp only [List.length_map, List.length_range]
      refine Nat.le_trans (Nat.mul_le_mul_right _ ?_) (hr ▸ hz1)
      omega
    · simp only [List.length_map, List.length_range]
      simp only [maxLen] at hcm
      omega
    · intro y hy
      obtain ⟨i, hi, rfl⟩ := List.mem_map.1 hy
      obtain ⟨c, _, _, hg, _⟩ := hf i (List.mem_range.1 hi)
      exact hg.1
    · have := bulkAll_sum D (fun i => m0 (f i)) (List.range len) (fun i hi => by
        obtain ⟨c, _, _, hg, _⟩ := hf i (List.mem_range.1 hi)
        exact hg.2)
      simp only [List.map_map, Rows.uptoBulk]
      have e : (List.range len).map (m0 ∘ f) = (List.range len).map (fun i => m0 (f i)) := rfl
      rw [e]
      omega
/-- The bound, as the builder hands it over. -/
theorem bulk_bound {H : Type} {l : List (DataW H)} (hk : Rows.uptoSmall H l = true) : Rows.uptoBulkAll l ≤ 1048576 := of_decide_eq_true hk
/-! ### Structs: a measure of one field. -/
def OpensFM {α : Type} (P : Program) (d : Kd α) (fs : List Field) (off : Nat) (good : α → Prop) (m : α → Nat) : Prop :=
  ∀ {H : Type} {enc : TypeId × Value → H} {w : World} {n : Nat} {cs : List Value} {ys : List (DataW H × List MemPlace)}, cs.length = d.sz → ys.length = fs.length →
    (∀ (i : Nat) (f : Field), fs[i]? = some f → DataW.trod enc P w 0 (fun _ => true) true n f.type ((cs.drop (f.offset - off)).take (P.cellsOf f.type)) = ys[i]?) →
    (DataW.weightsEach P (fs.map (·.type)) (ys.map (·.1))).all (· ≤ reachBytes) = true → ∃ a, d.K w a cs ∧ good a ∧ m a ≤ Rows.uptoBulkAll (ys.map (·.1))
theorem opensFM_one {α : Type} {P : Program} {d : Kd α} {f : Field} {off : Nat} {good : α → Prop} {m : α → Nat} (ho : f.offset = off) (hsz : P.cellsOf f.type = d.sz) (h : OpensM P d f.type good m) : OpensFM P d [f] off good m := by
  intro H enc w n cs ys hl hy hr hz
  match ys, hy with
  | [y], _ =>
    have := hr 0 f rfl
    simp only [ho, Nat.sub_self, List.drop_zero, List.getElem?_cons_zero] at this
    rw [List.take_of_length_le (by omega)] at this
    simp only [List.map_cons, List.map_nil, DataW.weightsEach, List.append_nil] at hz
    obtain ⟨a, h1, h2, h3⟩ := h this hz
    refine ⟨a, h1, h2, ?_⟩
    simp only [List.map_cons, List.map_nil, Rows.uptoBulkAll]
    omega
theorem opensFM_more {α β : Type} {P : Program} {d : Kd α} {d' : Kd β} {f : Field} {fs : List Field} {off : Nat} {good : α → Prop} {good' : β → Prop} {m : β → Nat} (ho : f.offset = off) (hsz : P.cellsOf f.type = d.sz) (hfs : ∀ g ∈ fs, off + d.sz ≤ g.offset)
    (h : Opens P d f.type good) (h' : OpensFM P d' fs (off + d.sz) good' m) : OpensFM P (Kd.pair d d') (f :: fs) off (fun x => good x.1 ∧ good' x.2) (fun x => m x.2) := by
  intro H enc w n cs ys hl hy hr hz
  match ys, hy with
  | y :: ys, hy =>
    have hl' : cs.length = d.sz + d'.sz := hl
    have h0 := hr 0 f rfl
    simp only [ho, Nat.sub_self, List.drop_zero, List.getElem?_cons_zero, hsz] at h0
    simp only [List.map_cons, DataW.weightsEach] at hz
    obtain ⟨hz1, hz2⟩ := all_append hz
    obtain ⟨a, ha, hga⟩ := h h0 hz1
    obtain ⟨b, hb, hgb, hm⟩ := h' (cs := cs.drop d.sz) (ys := ys) (by rw [List.length_drop]; omega) (by simpa using hy) (fun i g hg => by
      have := hr (i + 1) g (by simpa using hg)
      have hge := hfs g (List.mem_of_getElem? hg)
      rw [List.drop_drop, show d.sz + (g.offset - (off + d.sz)) = g.offset - off from by omega]
      simpa using this) hz2
    refine ⟨(a, b), ⟨cs.take d.sz, cs.drop d.sz, (List.take_append_drop _ _).symm, ha, hb⟩, ⟨hga, hgb⟩, ?_⟩
    simp only [List.map_cons, Rows.uptoBulkAll]
    omega
theorem opensM_struct {α β : Type} {P : Program} {d : Kd α} {t : TypeId} {fs : List Field} {good : α → Prop} {m : α → Nat} (f : β → α) (g : α → β) (hg : ∀ a, f (g a) = a) (ht : P.underlying t = some (.struct fs.toArray)) (hsz : P.cellsOf t = d.sz) (h : OpensFM P d fs 0 good m) :
    OpensM P (Kd.iso d f) t (fun b => good (f b)) (fun b => m (f b)) := by
  intro H enc w fuel cs x hx hz
  obtain ⟨xs, n, _, rfl, hl, hxl, hr⟩ := DataW.trod_struct ht hx
  simp only [DataW.weights, ht] at hz
  obtain ⟨a, ha, hga, hm⟩ := h (cs := cs) (ys := xs) (by rw [hl, hsz]) (by simpa using hxl) (fun i f hf => by simpa using hr i f (by simpa using hf)) (by simpa using hz)
  refine ⟨g a, by show d.K w (f (g a)) cs; rw [hg]; exact ha, by show good (f (g a)); rw [hg]; exact hga, ?_⟩
  show m (f (g a)) ≤ _
  rw [hg]
  simp only [Rows.uptoBulk]
  omega
theorem sum_mem {α : Type} (f : α → Nat) : ∀ {l : List α} {x : α}, x ∈ l → f x ≤ (l.map f).sum
  | y :: l, x, h => by
    simp only [List.map_cons, List.sum_cons]
    rcases List.mem_cons.1 h with rfl | h
    · omega
    · have := sum_mem f h
      omega
theorem sum_one {α : Type} : ∀ l : List α, (l.map fun _ => 1).sum = l.length
  | [] => rfl
  | x :: l => by
    simp only [List.map_cons, List.sum_cons, List.length_cons, sum_one l]
    omega

end Go.Proofs.Yteleojddlaflnaa.Rd
