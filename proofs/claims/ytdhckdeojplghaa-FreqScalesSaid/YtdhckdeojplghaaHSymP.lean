/- The stable sort only moves things; no memory in sight. -/
import Derived.Test.YtdhckdeojplghaaHSymE
namespace Go.Proofs.Ytdhckdeojplghaa.PA
open Go.Sort
set_option linter.unusedVariables false
set_option linter.unusedSimpArgs false
/-- The same things, in whatever order. -/
def Pm {α : Type} (d d' : Array α) : Prop := d'.size = d.size ∧ d'.toList.Perm d.toList
theorem Pm.refl {α : Type} (d : Array α) : Pm d d := ⟨rfl, List.Perm.refl _⟩
theorem Pm.trans {α : Type} {a b c : Array α} (h : Pm a b) (k : Pm b c) : Pm a c := ⟨k.1.trans h.1, k.2.trans h.2⟩
variable {α : Type} [Inhabited α]
theorem pm_swp (d : Array α) (i j : Nat) (hi : i < d.size) (hj : j < d.size) : Pm d (swp d i j) := by
  obtain ⟨h1, _, h3⟩ := swp_permIn d 0 d.size i j (Nat.zero_le _) hi (Nat.zero_le _) hj (Nat.le_refl _)
  refine ⟨h1, ?_⟩
  rw [show (swp d i j).extract 0 d.size = swp d i j by rw [← h1]; simp, show d.extract 0 d.size = d by simp] at h3
  exact h3
theorem pm_swpR (a b : Nat) (m : Nat) : ∀ (i : Nat) (d : Array α), a + i + m ≤ d.size → b + i + m ≤ d.size → Pm d (swpR a b i m d) := by
  induction m with
  | zero => exact fun i d _ _ => Pm.refl d
  | succ m ih =>
    intro i d h1 h2
    rw [swpR]
    exact (pm_swp d (a + i) (b + i) (by omega) (by omega)).trans (ih (i + 1) _ (by rw [size_swp]; omega) (by rw [size_swp]; omega))
theorem pm_rot (m : Nat) (k : Nat) : ∀ (i j : Nat) (d : Array α), 1 ≤ i → 1 ≤ j → i ≤ m → m + j ≤ d.size → i + j ≤ k → Pm d (rot m k i j d) := by
  induction k with
  | zero => intro i j d h1 h2 h3 h4 h5; omega
  | succ k ih =>
    intro i j d h1 h2 h3 h4 h5
    rw [rot]
    split
    · rename_i e
      exact pm_swpR _ _ _ _ _ (by omega) (by omega)
    · split
      · exact (pm_swpR (m - i) m j 0 d (by omega) (by omega)).trans (ih (i - j) j _ (by omega) h2 (by omega) (by rw [size_swpR]; omega) (by omega))
      · exact (pm_swpR (m - i) (m + j - i) i 0 d (by omega) (by omega)).trans (ih i (j - i) _ h1 (by omega) h3 (by rw [size_swpR]; omega) (by omega))
theorem pm_shU (n : Nat) : ∀ (k : Nat) (d : Array α), n = 0 ∨ k + n < d.size → Pm d (shU n k d) := by
  induction n with
  | zero => exact fun k d _ => Pm.refl d
  | succ n ih =>
    intro k d h
    rw [shU]
    exact (pm_swp d k (k + 1) (by omega) (by omega)).trans (ih (k + 1) _ (by rw [size_swp]; omega))
theorem pm_shD (n : Nat) : ∀ (k : Nat) (d : Array α), k < d.size → n ≤ k → Pm d (shD n k d) := by
  induction n with
  | zero => exact fun k d _ _ => Pm.refl d
  | succ n ih =>
    intro k d h h2
    rw [shD]
    exact (pm_swp d k (k - 1) (by omega) (by omega)).trans (ih (k - 1) _ (by rw [size_swp]; omega) (by omega))
theorem pm_symA (cf : α → α → Int) (a m b : Nat) (d : Array α) (h1 : a < m) (h2 : m < b) (h3 : b ≤ d.size) : Pm d (symA cf a m b d) := by
  have h := bs_range (fun h => decide (cf d[h]! d[a]! < 0)) (b - m) m b (by omega)
  exact pm_shU _ _ _ (by omega)
theorem pm_symB (cf : α → α → Int) (a m : Nat) (d : Array α) (h1 : a < m) (h3 : m < d.size) : Pm d (symB cf a m d) := by
  have h := bs_range (fun h => !decide (cf d[m]! d[h]! < 0)) (m - a) a m (by omega)
  exact pm_shD _ _ _ h3 (by omega)
theorem symS_range (cf : α → α → Int) (a m b : Nat) (d : Array α) (h1 : a < m) (h2 : m < b) : a ≤ symS cf a m b d ∧ (a + b) / 2 + m - symS cf a m b d ≤ b ∧ symS cf a m b d ≤ (a + b) / 2 + m := by
  unfold symS
  split
  · rename_i e
    have h := bs_range (fun c => !decide (cf d[(a + b) / 2 + m - 1 - c]! d[c]! < 0)) ((a + b) / 2 - ((a + b) / 2 + m - b)) ((a + b) / 2 + m - b) ((a + b) / 2) (by omega)
    omega
  · rename_i e
    have h := bs_range (fun c => !decide (cf d[(a + b) / 2 + m - 1 - c]! d[c]! < 0)) (m - a) a m (by omega)
    omega
theorem pm_symR (m n st : Nat) (d : Array α) (h : n - st ≤ d.size) : Pm d (symR m n st d) := by
  unfold symR
  split
  · rename_i e
    exact pm_rot _ _ _ _ _ (by omega) (by omega) (by omega) (by omega) (by omega)
  · exact Pm.refl d
theorem pm_sym (cf : α → α → Int) (k : Nat) : ∀ (a m b : Nat) (d : Array α), a < m → m < b → b ≤ d.size → Pm d (sym cf k a m b d) := by
  induction k with
  | zero => exact fun a m b d _ _ _ => Pm.refl d
  | succ k ih =>
    intro a m b d h1 h2 h3
    rw [sym]
    dsimp only
    split
    · exact pm_symA cf a m b d h1 h2 h3
    · split
      · rename_i e1 e2
        exact pm_symB cf a m d h1 (by omega)
      · obtain ⟨r1, r2, r3⟩ := symS_range cf a m b d h1 h2
        generalize symS cf a m b d = st at r1 r2 r3 ⊢
        have p1 := pm_symR m ((a + b) / 2 + m) st d (by omega)
        have p2 : Pm d (if a < st ∧ st < (a + b) / 2 then sym cf k a st ((a + b) / 2) (symR m ((a + b) / 2 + m) st d) else symR m ((a + b) / 2 + m) st d) := by
          split
          · rename_i e
            exact p1.trans (ih a st ((a + b) / 2) _ e.1 e.2 (by rw [p1.1]; omega))
          · exact p1
        generalize (if a < st ∧ st < (a + b) / 2 then sym cf k a st ((a + b) / 2) (symR m ((a + b) / 2 + m) st d) else symR m ((a + b) / 2 + m) st d) = d2 at p2 ⊢
        split
        · rename_i e
          exact p2.trans (ih _ _ b _ e.1 e.2 (by rw [p2.1]; exact h3))
        · exact p2
theorem pm_mrg (cf : α → α → Int) (n z : Nat) (hz : 0 < z) (k : Nat) : ∀ (a : Nat) (d : Array α), d.size = n → Pm d (mrg cf n z k a d) := by
  induction k with
  | zero =>
    intro a d hd
    rw [mrg]
    split
    · exact pm_sym cf _ a (a + z) n d (by omega) (by omega) (by omega)
    · exact Pm.refl d
  | succ k ih =>
    intro a d hd
    rw [mrg]
    split
    · rename_i e
      have p := pm_sym cf (2 * z) a (a + z) (a + 2 * z) d (by omega) (by omega) (by omega)
      exact p.trans (ih _ _ (by rw [p.1]; exact hd))
    · split
      · exact pm_sym cf _ a (a + z) n d (by omega) (by omega) (by omega)
      · exact Pm.refl d
theorem pm_stb (cf : α → α → Int) (n : Nat) (k : Nat) : ∀ (z : Nat) (d : Array α), 0 < z → d.size = n → Pm d (stb cf n k z d) := by
  induction k with
  | zero => exact fun z d _ _ => Pm.refl d
  | succ k ih =>
    intro z d hz hd
    rw [stb]
    split
    · have p := pm_mrg cf n z hz n 0 d hd
      exact p.trans (ih _ _ (by omega) (by rw [p.1]; exact hd))
    · exact Pm.refl d
theorem pm_insInner (lt : α → α → Bool) (a : Nat) : ∀ (j : Nat) (d : Array α), j < d.size → Pm d (insInner lt a j d) := by
  intro j
  induction j with
  | zero => exact fun d _ => Pm.refl d
  | succ j ih =>
    intro d h
    rw [insInner]
    split
    · exact (pm_swp d (j + 1) j h (by omega)).trans (ih _ (by rw [size_swp]; omega))
    · exact Pm.refl d
theorem pm_insOuter (lt : α → α → Bool) (a b : Nat) (q : Nat) : ∀ (i : Nat) (d : Array α), b ≤ d.size → b - i ≤ q → Pm d (insOuter lt a b i d) := by
  induction q with
  | zero => intro i d hb h; rw [insOuter_stop _ _ _ _ _ (by omega)]; exact Pm.refl d
  | succ q ih =>
    intro i d hb h
    by_cases hi : i < b
    · rw [insOuter_go _ _ _ _ _ hi]
      have p := pm_insInner lt a i d (by omega)
      exact p.trans (ih _ _ (by rw [p.1]; exact hb) (by omega))
    · rw [insOuter_stop _ _ _ _ _ hi]; exact Pm.refl d
theorem pm_ins (lt : α → α → Bool) (d : Array α) (a b : Nat) (hb : b ≤ d.size) : Pm d (Sort.insertionSort lt d a b) := pm_insOuter lt a b _ _ d hb (Nat.le_refl _)
theorem pm_insB (cf : α → α → Int) (n : Nat) (k : Nat) : ∀ (a : Nat) (d : Array α), d.size = n → Pm d (insB cf n k a d) := by
  induction k with
  | zero => exact fun a d hd => pm_ins _ _ _ _ (by omega)
  | succ k ih =>
    intro a d hd
    rw [insB]
    split
    · have p := pm_ins (ltOf cf) d a (a + 20) (by omega)
      exact p.trans (ih _ _ (by rw [p.1]; exact hd))
    · exact pm_ins _ _ _ _ (by omega)
theorem pm_stableL (cf : α → α → Int) (n : Nat) (d : Array α) (h : d.size = n) : Pm d (stableL cf n d) := by
  have p := pm_insB cf n n 0 d h
  exact p.trans (pm_stb cf n n 20 _ (by decide) (by rw [p.1]; exact h))
theorem srt_some {lost ord : List Int} (h0 : 0 < ord.length) (h1 : ord.length ≤ 65535) (h2 : lost.length ≤ 65536) (h3 : ∀ i ∈ ord, 0 ≤ i ∧ i < lost.length) : ∃ ys, srt_stable lost ord = some ys ∧ ys.Perm ord := by
  refine ⟨srtL lost ord, if_pos ⟨h0, h1, h2, h3⟩, ?_⟩
  cases lost with
  | nil =>
    cases ord with
    | nil => simp at h0
    | cons i r => have := h3 i (by simp); simp at this; omega
  | cons x rr =>
    show ((stableL _ ord.length (ord.map fun i => (Fin.ofNat (rr.length + 1) i.toNat)).toArray).toList.map fun i => (i.val : Int)).Perm ord
    have p := pm_stableL (cfL (n := rr.length) fun i => (x :: rr)[i.val]!) ord.length (ord.map fun i => (Fin.ofNat (rr.length + 1) i.toNat)).toArray (by simp)
    have q := p.2.map (fun i : Fin (rr.length + 1) => (i.val : Int))
    refine q.trans ?_
    rw [List.map_map]
    have e : ord.map ((fun i : Fin (rr.length + 1) => (i.val : Int)) ∘ fun i => (Fin.ofNat (rr.length + 1) i.toNat)) = ord := by
      have : ∀ i ∈ ord, ((fun i : Fin (rr.length + 1) => (i.val : Int)) ∘ fun i => (Fin.ofNat (rr.length + 1) i.toNat)) i = i := by
        intro i hi
        have h4 := h3 i hi
        simp at h4
        simp [Fin.ofNat]
        have h6 : max i 0 = i := by omega
        rw [h6]
        exact Int.emod_eq_of_lt h4.1 (by omega)
      rw [List.map_congr_left this, List.map_id']
    rw [e]
end Go.Proofs.Ytdhckdeojplghaa.PA
