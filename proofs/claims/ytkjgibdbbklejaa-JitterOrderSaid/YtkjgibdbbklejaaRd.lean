/- Arguments of any kind (numbers, bools, texts, slices, structs) read: out of a row's reading of an argument what the printed contracts ask; for every such argument. -/
import Derived.WalkKit
import Derived.ProofKit
import Derived.OpenShut
import Derived.ShutString
import Derived.ChangeOld
import Derived.Below
import Derived.SizedLaws
import Derived.Deep.Slices
import Derived.Test.YtkjgibdbbklejaaWMore
set_option linter.unusedVariables false
namespace Go.Proofs.Ytkjgibdbbklejaa.Rd
open Go.ChangeShapes Go.WideShapes Go.ChangeAt Go.RowKit
open Go.Proofs.YtkjgibdbbklejaaW.PrintWords Go.Proofs.YtkjgibdbbklejaaW.PrintMore

/-! ### Arguments of any kind, read: out of a row's own reading of an argument the words that the printed contracts ask. -/

/-- Whatever is read as data of type t is a value of kind d, and a good one. -/
def Opens {α : Type} (P : Program) (d : Kd α) (t : TypeId) (good : α → Prop) : Prop :=
  ∀ {H : Type} {enc : TypeId × Value → H} {w : World} {fuel : Nat} {cs : List Value} {x : DataW H × List MemPlace},
    DataW.trod enc P w 0 (fun _ => true) true fuel t cs = some x → (x.1.weights P t).all (· ≤ reachBytes) = true → ∃ a, d.K w a cs ∧ good a

theorem opens_int {P : Program} {t : TypeId} {k : IntKind} (ht : P.underlying t = some (.int k)) : Opens P (Kd.int k) t (fun n => (Lit.int k n).wf = true) := by
  intro H enc w fuel cs x h _
  obtain ⟨n, rfl, _, hw⟩ := DataW.trod_int ht h
  exact ⟨n, rfl, hw⟩
theorem opens_bool {P : Program} {t : TypeId} (ht : P.underlying t = some .bool) : Opens P Kd.bool t (fun _ => True) := by
  intro H enc w fuel cs x h _
  obtain ⟨b, rfl, _⟩ := DataW.trod_bool ht h
  exact ⟨b, rfl, trivial⟩
theorem opens_string {P : Program} {t : TypeId} (ht : P.underlying t = some .string) : Opens P Kd.string t (fun s => s.size ≤ 140737488351232) := by
  intro H enc w fuel cs x h hz
  obtain ⟨s, rfl, rfl, _⟩ := DataW.trod_string ht h
  refine ⟨s, rfl, ?_⟩
  simp [DataW.weights, reachBytes] at hz
  exact of_decide_eq_true hz

theorem cells_of {w : World} {a : Addr} {n : Nat} {cs : List Value} (h : w.cells? 0 a n = some cs) : cs.length = n ∧ ∀ i u, cs[i]? = some u → w.cell? (a.add i) = some u := by
  unfold World.cells? at h
  rw [if_pos (Nat.zero_le _)] at h
  refine ⟨by simpa using mapM_some_length h, fun i u hu => ?_⟩
  have hl : cs.length = n := by simpa using mapM_some_length h
  have hi : i < n := by
    have := (List.getElem?_eq_some_iff.1 hu).1
    omega
  have := mapM_some_get h i i (by simp [hi])
  rw [this, hu]

theorem all_append {l m : List Nat} (h : (l ++ m).all (· ≤ reachBytes) = true) : l.all (· ≤ reachBytes) = true ∧ m.all (· ≤ reachBytes) = true := by
  rw [List.all_append, Bool.and_eq_true] at h
  exact h

theorem weightsAll_at {H : Type} {P : Program} {e : TypeId} {l : List (DataW H)} (h : (DataW.weightsAll P e l).all (· ≤ reachBytes) = true) (i : Nat) (d : DataW H) (hi : l[i]? = some d) : (d.weights P e).all (· ≤ reachBytes) = true := by
  induction l generalizing i with
  | nil => simp at hi
  | cons x t ih =>
    simp only [DataW.weightsAll] at h
    obtain ⟨h1, h2⟩ := all_append h
    cases i with
    | zero =>
      simp at hi
      subst hi
      exact h1
    | succ i => exact ih h2 i (by simpa using hi)

theorem opens_slice {α : Type} (z0 : α) {P : Program} {d : Kd α} {t e : TypeId} {good : α → Prop} (ht : P.underlying t = some (.slice e)) (hsz : P.cellsOf e = d.sz) (B : Nat) (hB : P.bytesOf e = B) (h : Opens P d e good) :
    Opens P (Kd.slice e d) t (fun xs => xs.length * B ≤ 140737488351232 ∧ xs.length ≤ 9223372036854775807 ∧ ∀ x ∈ xs, good x) := by
  intro H enc w fuel cs x hx hz
  haveI : Inhabited α := ⟨z0⟩
  rcases Go.Deep.open_slice ht hx with ⟨rfl, rfl⟩ | ⟨a, len, cap, m, n, D, Pl, rfl, _, hlc, hcm, hm, rfl, hel⟩
  · exact ⟨[], ⟨none, 0, rfl, Nat.le_refl _, by simp, by simp, fun hp => absurd hp (by simp)⟩, by simp, by simp, fun x hx => absurd hx (by simp)⟩
  · simp only [if_true] at hm
    subst hm
    simp only [DataW.weights, ht, List.length_map, List.length_range] at hz
    rw [List.all_cons, Bool.and_eq_true] at hz
    obtain ⟨hz1, hz2⟩ := hz
    obtain ⟨hz3, _⟩ := all_append hz2
    have hz1 := of_decide_eq_true hz1
    rw [hB] at hz1
    have hr : reachBytes = 140737488351232 := rfl
    have hone : ∀ i, i < len → ∃ y, ∃ c : List Value, c.length = d.sz ∧ d.K w y c ∧ good y ∧ ∀ j u, c[j]? = some u → w.cell? (a.add (i * d.sz + j)) = some u := by
      intro i hi
      obtain ⟨c, hc, htr⟩ := hel i (by omega)
      obtain ⟨hcl, hcc⟩ := cells_of hc
      obtain ⟨y, hK, hg⟩ := h htr (weightsAll_at hz3 i _ (by simp [hi]))
      refine ⟨y, c, by rw [hcl, hsz], hK, hg, fun j u hu => ?_⟩
      have := hcc j u hu
      rw [Go.Deep.add_add, hsz] at this
      exact this
    obtain ⟨f, hf⟩ := Go.Deep.choose_lt hone
    refine ⟨(List.range len).map f, ⟨some a, m, by simp, by simpa using hlc, by simp, ?_, fun _ => ⟨a, rfl, fun j p hp => ?_⟩⟩, ?_, ?_, ?_⟩
    · simp only [List.length_map, List.length_range]
      simp only [maxLen] at hcm
      omega
    · rw [List.getElem?_map] at hp
      by_cases hj : j < len
      · rw [List.getElem?_range hj] at hp
        simp at hp
        subst hp
        obtain ⟨c, h1, h2, _, h4⟩ := hf j hj
        exact ⟨c, h1, h2, h4⟩
      · rw [List.getElem?_eq_none (by simpa using hj)] at hp
        simp at hp
    · simp only [List.length_map, List.length_range]
      refine Nat.le_trans (Nat.mul_le_mul_right _ ?_) (hr ▸ hz1)
      omega
    · simp only [List.length_map, List.length_range]
      simp only [maxLen] at hcm
      omega
    · intro y hy
      obtain ⟨i, hi, rfl⟩ := List.mem_map.1 hy
      obtain ⟨c, _, _, hg, _⟩ := hf i (List.mem_range.1 hi)
      exact hg

/-- A struct's fields from one on, their cells one behind the other. -/
def OpensF {α : Type} (P : Program) (d : Kd α) (fs : List Field) (off : Nat) (good : α → Prop) : Prop :=
  ∀ {H : Type} {enc : TypeId × Value → H} {w : World} {n : Nat} {cs : List Value} {ys : List (DataW H × List MemPlace)}, cs.length = d.sz → ys.length = fs.length →
    (∀ (i : Nat) (f : Field), fs[i]? = some f → DataW.trod enc P w 0 (fun _ => true) true n f.type ((cs.drop (f.offset - off)).take (P.cellsOf f.type)) = ys[i]?) →
    (DataW.weightsEach P (fs.map (·.type)) (ys.map (·.1))).all (· ≤ reachBytes) = true → ∃ a, d.K w a cs ∧ good a

theorem opens_one {α : Type} {P : Program} {d : Kd α} {f : Field} {off : Nat} {good : α → Prop} (ho : f.offset = off) (hsz : P.cellsOf f.type = d.sz) (h : Opens P d f.type good) : OpensF P d [f] off good := by
  intro H enc w n cs ys hl hy hr hz
  match ys, hy with
  | [y], _ =>
    have := hr 0 f rfl
    simp only [ho, Nat.sub_self, List.drop_zero, List.getElem?_cons_zero] at this
    rw [List.take_of_length_le (by omega)] at this
    simp only [List.map_cons, List.map_nil, DataW.weightsEach, List.append_nil] at hz
    exact h this hz
theorem opens_more {α β : Type} {P : Program} {d : Kd α} {d' : Kd β} {f : Field} {fs : List Field} {off : Nat} {good : α → Prop} {good' : β → Prop} (ho : f.offset = off) (hsz : P.cellsOf f.type = d.sz) (hfs : ∀ g ∈ fs, off + d.sz ≤ g.offset)
    (h : Opens P d f.type good) (h' : OpensF P d' fs (off + d.sz) good') : OpensF P (Kd.pair d d') (f :: fs) off (fun x => good x.1 ∧ good' x.2) := by
  intro H enc w n cs ys hl hy hr hz
  match ys, hy with
  | y :: ys, hy =>
    have hl' : cs.length = d.sz + d'.sz := hl
    have h0 := hr 0 f rfl
    simp only [ho, Nat.sub_self, List.drop_zero, List.getElem?_cons_zero, hsz] at h0
    simp only [List.map_cons, DataW.weightsEach] at hz
    obtain ⟨hz1, hz2⟩ := all_append hz
    obtain ⟨a, ha, hga⟩ := h h0 hz1
    obtain ⟨b, hb, hgb⟩ := h' (cs := cs.drop d.sz) (ys := ys) (by rw [List.length_drop]; omega) (by simpa using hy) (fun i g hg => by
      have := hr (i + 1) g (by simpa using hg)
      have hge := hfs g (List.mem_of_getElem? hg)
      rw [List.drop_drop, show d.sz + (g.offset - (off + d.sz)) = g.offset - off from by omega]
      simpa using this) hz2
    exact ⟨(a, b), ⟨cs.take d.sz, cs.drop d.sz, (List.take_append_drop _ _).symm, ha, hb⟩, hga, hgb⟩
theorem opens_struct {α β : Type} {P : Program} {d : Kd α} {t : TypeId} {fs : List Field} {good : α → Prop} (f : β → α) (g : α → β) (hg : ∀ a, f (g a) = a) (ht : P.underlying t = some (.struct fs.toArray)) (hsz : P.cellsOf t = d.sz) (h : OpensF P d fs 0 good) :
    Opens P (Kd.iso d f) t (fun b => good (f b)) := by
  intro H enc w fuel cs x hx hz
  obtain ⟨xs, n, _, rfl, hl, hxl, hr⟩ := DataW.trod_struct ht hx
  simp only [DataW.weights, ht] at hz
  obtain ⟨a, ha, hga⟩ := h (cs := cs) (ys := xs) (by rw [hl, hsz]) (by simpa using hxl) (fun i f hf => by simpa using hr i f (by simpa using hf)) (by simpa using hz)
  exact ⟨g a, by show d.K w (f (g a)) cs; rw [hg]; exact ha, by show good (f (g a)); rw [hg]; exact hga⟩

theorem weight_of {H : Type} {P : Program} {ts : List TypeId} {ds : List (DataW H)} (h : (DataW.weightsEach P ts ds).all (· ≤ reachBytes) = true) {j : Nat} {t : TypeId} {d : DataW H} (ht : ts[j]? = some t) (hd : ds[j]? = some d) : (d.weights P t).all (· ≤ reachBytes) = true :=
  List.all_eq_true.2 fun n hn => List.all_eq_true.1 h n (DataW.weights_mem_each ht hd n hn)

end Go.Proofs.Ytkjgibdbbklejaa.Rd
