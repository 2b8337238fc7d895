/- The plain statement of JitterGaps: gaps and packets together are all numbers; a packet for a gap closes it; for all states. -/
import Derived.Test.YtkjgibdbbklejaaJtP
import Derived.Test.YtkjgibdbbklejaaJtM
import Derived.Test.YtkjgibdbbklejaaHLive
import Derived.Test.YtkjgibdbbklejaaPAx9
set_option linter.unusedVariables false
set_option linter.unusedSimpArgs false
namespace Go.Proofs.Ytkjgibdbbklejaa.Jt
open Go.RowKit Go.Proofs.Ytkjgibdbbklejaa.PA Go.Proofs.YtkjgibdbbklejaaW.PrintWords Go.Proofs.YtkjgibdbbklejaaW.PrintLast Go.Proofs.YtkjgibdbbklejaaW.PrintMore

/-- What the document's test says of the packet at an index. -/
def Adj (on : Bool) (nx : Int) (q : List S41) (j : Nat) : Prop := ∀ h : j < q.length, gd q[j] = true ∧ (∀ _ : 0 < j, (q[j - 1]'(by omega)).f0 < q[j].f0) ∧ (if on = true then nx ≤ q[j].f0 ∧ q[j].f0 < nx + 64 else q[j].f0 < (q[0]'(by omega)).f0 + 64)
theorem rchk_l0 (on : Bool) (nx dp dr : Int) (q : List S41) (hq : q.length ≤ 4611686018427387904) (hn : 0 ≤ nx ∧ nx ≤ 2199023255552) : ∀ (d k i : Nat), i + d = q.length → 2 * d < k → (∀ _ : 0 < i, ∀ h : 0 < q.length, gd q[0] = true) → ∃ c : Int, squelchref13_Check.l0 k q (q.length : Int) (i : Int) on nx dp dr q = some c ∧ (c = 0 → ∀ j, i ≤ j → Adj on nx q j) := by
  intro d
  induction d with
  | zero =>
    intro k i hi hk h0
    obtain ⟨k, rfl⟩ := some_of k 1 (by omega)
    exact ⟨0, by rw [squelchref13_Check.l0, if_neg (by omega)], fun _ j hj h => by omega⟩
  | succ d ih =>
    intro k i hi hk h0
    obtain ⟨k, rfl⟩ := some_of k 2 (by omega)
    have hil : i < q.length := by omega
    rw [squelchref13_Check.l0, if_pos (show (i : Int) < (q.length : Int) by omega), if_pos (by omega), if_pos (show (i : Int) < (q.length : Int) by omega), rd_at q i hil, may_f, Option.bind_some]
    have hbad : ∀ b : Bool, b = true → ∃ c : Int, squelchref13_Check.j2 (k + 1) q (q.length : Int) (i : Int) b on nx dp dr q q[i].f0 q[i].f1 = some c ∧ (c = 0 → ∀ j, i ≤ j → Adj on nx q j) := fun b hb => ⟨1, by rw [squelchref13_Check.j2, if_pos hb], fun h => by omega⟩
    by_cases h1 : gd q[i] = true
    · rw [if_pos h1]
      have hg := (gd_iff _).1 h1
      have hgz : gd (q[0]'(by omega)) = true := by
        rcases Nat.eq_zero_or_pos i with h | h
        · subst h; exact h1
        · exact h0 h (by omega)
      have hz := (gd_iff _).1 hgz
      have good : ∀ b : Bool, b = false → (∀ _ : 0 < i, (q[i - 1]'(by omega)).f0 < q[i].f0) → ∃ c : Int, squelchref13_Check.j2 (k + 1) q (q.length : Int) (i : Int) b on nx dp dr q q[i].f0 q[i].f1 = some c ∧ (c = 0 → ∀ j, i ≤ j → Adj on nx q j) := fun b hb hadj => by
        rw [squelchref13_Check.j2, if_neg (by rw [hb]; decide)]
        obtain ⟨c, hc, hc2⟩ := ih k (i + 1) (by omega) (by omega) (fun _ _ => hgz)
        have fin : (if on = true then nx ≤ q[i].f0 ∧ q[i].f0 < nx + 64 else q[i].f0 < (q[0]'(by omega)).f0 + 64) → ∃ c : Int, squelchref13_Check.l0 k q (q.length : Int) (wrap64 ((i : Int) + 1)) on nx dp dr q = some c ∧ (c = 0 → ∀ j, i ≤ j → Adj on nx q j) := fun hr => by
          refine ⟨c, by rw [w64 _ (by omega) (by omega), show (i : Int) + 1 = ((i + 1 : Nat) : Int) by omega]; exact hc, fun h j hj => ?_⟩
          rcases Nat.eq_or_lt_of_le hj with h2 | h2
          · subst h2
            exact fun _ => ⟨h1, hadj, hr⟩
          · exact hc2 h j h2
        by_cases hon : on = true
        · rw [if_pos hon]
          by_cases h2 : q[i].f0 < nx
          · rw [if_pos h2]; exact ⟨1, rfl, fun h => by omega⟩
          · rw [if_neg h2, w64 (nx + 64) (by omega) (by omega)]
            by_cases h3 : q[i].f0 ≥ nx + 64
            · rw [if_pos h3]; exact ⟨1, rfl, fun h => by omega⟩
            · rw [if_neg h3]
              exact fin (by rw [if_pos hon]; omega)
        · rw [if_neg hon, if_pos (by omega), show (0 : Int) = ((0 : Nat) : Int) from rfl, rd_at q 0 (by omega), w64 (q[0].f0 + 64) (by omega) (by omega)]
          by_cases h3 : q[i].f0 ≥ (q[0]'(by omega)).f0 + 64
          · rw [if_pos h3]; exact ⟨1, rfl, fun h => by omega⟩
          · rw [if_neg h3]
            exact fin (by rw [if_neg hon]; omega)
      by_cases h2 : 0 < i
      · have e : wrap64 ((i : Int) - 1) = ((i - 1 : Nat) : Int) := by rw [w64 _ (by omega) (by omega)]; omega
        rw [if_pos (by omega), e, if_pos (by omega), if_pos (by omega), rd_at q (i - 1) (by omega)]
        by_cases h3 : (q[i - 1]'(by omega)).f0 ≥ q[i].f0
        · exact hbad _ (decide_eq_true h3)
        · exact good _ (decide_eq_false h3) (fun _ => by omega)
      · rw [if_neg (by omega)]
        exact good _ rfl (fun h => absurd h h2)
    · rw [if_neg h1]
      exact hbad _ rfl
theorem rchk_f (on : Bool) (nx dp dr : Int) (q : List S41) (hq : q.length ≤ 4611686018427387904) (k : Nat) (hk : 2 * q.length + 5 ≤ k) : ∃ c : Int, squelchref13_Check.f k on nx dp dr q = some c ∧ (c = 0 → OK on nx dp dr q) := by
  obtain ⟨k, rfl⟩ := some_of k 1 (by omega)
  have bad : ∀ b : Bool, b = true → ∃ c : Int, squelchref13_Check.j0 (k + 1) b on nx dp dr q = some c ∧ (c = 0 → OK on nx dp dr q) := fun b hb => ⟨1, by rw [squelchref13_Check.j0, if_pos hb], fun h => by omega⟩
  unfold squelchref13_Check.f
  by_cases h1 : dp < 1
  · rw [if_pos h1]; exact bad _ rfl
  rw [if_neg h1]
  by_cases h2 : dp > 16
  · rw [if_pos h2]; exact bad _ rfl
  rw [if_neg h2]
  by_cases h3 : nx < 0
  · rw [if_pos h3]; exact bad _ rfl
  rw [if_neg h3]
  by_cases h4 : nx > 2199023255552
  · rw [if_pos h4]; exact bad _ rfl
  rw [if_neg h4]
  by_cases h5 : dr < 0
  · rw [if_pos h5]; exact bad _ rfl
  rw [if_neg h5]
  by_cases h6 : dr ≥ 12
  · rw [if_pos h6]; exact bad _ rfl
  rw [if_neg h6]
  have good : ∀ b : Bool, b = false → (on = true ∨ nx + dr ≤ 0) → ∃ c : Int, squelchref13_Check.j0 (k + 1) b on nx dp dr q = some c ∧ (c = 0 → OK on nx dp dr q) := fun b hb hor => by
    rw [squelchref13_Check.j0, if_neg (by rw [hb]; decide)]
    obtain ⟨c, hc, hc2⟩ := rchk_l0 on nx dp dr q hq ⟨by omega, by omega⟩ q.length k 0 (by omega) (by omega) (fun h => absurd h (by omega))
    refine ⟨c, hc, fun h => ?_⟩
    have ha := fun j => hc2 h j (Nat.zero_le j)
    have hlt : ∀ b a (hab : a < b) (hb : b < q.length), (q[a]'(by omega)).f0 < q[b].f0 := by
      intro b
      induction b with
      | zero => intro a hab _; omega
      | succ b ihb =>
        intro a hab hb
        have h7 := (ha (b + 1) hb).2.1 (by omega)
        rw [show (q[b + 1 - 1]'(by omega)) = q[b] from rfl] at h7
        rcases Nat.eq_or_lt_of_le (Nat.le_of_lt_succ hab) with h8 | h8
        · subst h8; exact h7
        · have := ihb a h8 (by omega); omega
    have hinc : Inc q := List.pairwise_iff_getElem.2 fun a b _ hb hab => hlt b a hab hb
    refine ⟨by omega, by omega, by omega, by omega, by omega, by omega, hor, hinc, fun p hp => ?_, fun p hp => ?_, fun p hp => ?_⟩
    all_goals obtain ⟨j, hj, rfl⟩ := List.mem_iff_getElem.1 hp
    · exact (ha j hj).1
    · have h9 := (ha j hj).2.2
      unfold frm
      by_cases hon : on = true
      · rw [if_pos hon] at h9 ⊢; exact h9.1
      · rw [if_neg hon, show (0 : Int) = ((0 : Nat) : Int) from rfl, rd_at q 0 (by omega)]
        rcases Nat.eq_zero_or_pos j with h10 | h10
        · subst h10; exact Int.le_refl _
        · exact Int.le_of_lt (hlt j 0 h10 hj)
    · have h9 := (ha j hj).2.2
      unfold frm
      by_cases hon : on = true
      · rw [if_pos hon] at h9 ⊢; exact h9.2
      · rw [if_neg hon] at h9
        rw [if_neg hon, show (0 : Int) = ((0 : Nat) : Int) from rfl, rd_at q 0 (by omega)]
        exact h9
  by_cases hon : on = true
  · rw [if_pos hon]; exact good _ rfl (.inl hon)
  · rw [if_neg hon]
    by_cases h7 : nx = 0
    · rw [if_pos h7]
      by_cases h8 : dr = 0
      · exact good _ (by rw [h8]; rfl) (.inr (by omega))
      · exact bad _ (by simpa using h8)
    · rw [if_neg h7]; exact bad _ rfl
theorem few_l0 (on : Bool) (nx dp dr : Int) (q y : List S41) (hy : y.length ≤ 4611686018427387904) : ∀ (d k i : Nat), i + d = y.length → d < k → ∃ b : Bool, squelchlaw13_few.l0 k ([] : List S41) y (y.length : Int) (i : Int) on nx dp dr q = some b ∧ (b = true → q.length ≤ 100) := by
  intro d
  induction d with
  | zero =>
    intro k i hi hk
    obtain ⟨k, rfl⟩ := some_of k 1 (by omega)
    rw [squelchlaw13_few.l0, if_neg (by omega)]
    by_cases h : (q.length : Int) ≤ 100
    · rw [if_pos h]; exact ⟨_, rfl, fun _ => by omega⟩
    · rw [if_neg h]; exact ⟨_, rfl, fun h => by cases h⟩
  | succ d ih =>
    intro k i hi hk
    obtain ⟨k, rfl⟩ := some_of k 1 (by omega)
    rw [squelchlaw13_few.l0, if_pos (by omega), if_pos (by omega), if_pos (by omega)]
    by_cases h : (((rd_T41 y (i : Int)).f1).length : Int) > 1000
    · rw [if_pos h]; exact ⟨_, rfl, fun h => by cases h⟩
    · rw [if_neg h, w64 _ (by omega) (by omega), show (i : Int) + 1 = ((i + 1 : Nat) : Int) by omega]
      exact ih k (i + 1) (by omega) (by omega)
theorem few_f (on : Bool) (nx dp dr : Int) (q : List S41) (hq : q.length < 4398046511104) (k : Nat) (hk : q.length < k) : ∃ b : Bool, squelchlaw13_few.f k on nx dp dr q ([] : List S41) = some b ∧ (b = true → q.length ≤ 100) := by
  unfold squelchlaw13_few.f
  rw [if_pos (by simpa using hq), Option.bind_some]
  simp only [List.nil_append, List.append_nil, List.length_nil, Nat.add_zero]
  rw [if_pos hq, Option.bind_some]
  exact few_l0 on nx dp dr q q (by omega) q.length k 0 (by omega) hk
theorem has_l0 (x : Int) (l : List Int) (hl : l.length ≤ 4611686018427387904) : ∀ (d k i : Nat), i + d = l.length → d < k → squelchlaw13_has.l0 k x l (l.length : Int) (i : Int) = some (decide (x ∈ l.drop i)) := by
  intro d
  induction d with
  | zero =>
    intro k i hi hk
    obtain ⟨k, rfl⟩ := some_of k 1 (by omega)
    rw [squelchlaw13_has.l0, if_neg (by omega), List.drop_eq_nil_of_le (by omega)]
    rfl
  | succ d ih =>
    intro k i hi hk
    obtain ⟨k, rfl⟩ := some_of k 1 (by omega)
    have hil : i < l.length := by omega
    have e : rd l (i : Int) = l[i] := by
      unfold rd
      rw [Int.toNat_natCast, List.getD_eq_getElem?_getD, List.getElem?_eq_getElem hil]
      rfl
    rw [squelchlaw13_has.l0, if_pos (by omega), if_pos (by omega), if_pos (by omega), e, List.drop_eq_getElem_cons hil]
    by_cases h : l[i] = x
    · rw [if_pos h, decide_eq_true (by rw [h]; exact List.mem_cons_self)]
    · rw [if_neg h, w64 _ (by omega) (by omega), show (i : Int) + 1 = ((i + 1 : Nat) : Int) by omega, ih k (i + 1) (by omega) (by omega)]
      congr 1
      rw [Bool.eq_iff_iff, decide_eq_true_iff, decide_eq_true_iff, List.mem_cons]
      exact ⟨fun h2 => .inr h2, fun h2 => h2.resolve_left (fun h3 => h h3.symm)⟩
theorem has_f (x : Int) (l : List Int) (hl : l.length ≤ 4611686018427387904) (k : Nat) (hk : l.length < k) : squelchlaw13_has.f k l x = some (decide (x ∈ l)) := by
  unfold squelchlaw13_has.f
  have := has_l0 x l hl l.length k 0 (by omega) hk
  rw [List.drop_zero] at this
  exact this
theorem gapl_len {L : S41} : ∀ {q : List S41} {a : Int}, Inc q → (∀ p ∈ q, a ≤ p.f0) → L ∈ q → (∀ p ∈ q, p.f0 ≤ L.f0) → ((gapl a q).length : Int) + (q.length : Int) = L.f0 - a + 1 := by
  intro q
  induction q with
  | nil => intro a _ _ h; cases h
  | cons p q ih =>
    intro a hi ha hL hM
    obtain ⟨h1, h2⟩ := List.pairwise_cons.1 hi
    have h3 := ha p List.mem_cons_self
    rw [gapl, List.length_append, List.length_map, List.length_range, show max a p.f0 + 1 = p.f0 + 1 by omega, List.length_cons]
    cases q with
    | nil =>
      have : L = p := by simpa using hL
      subst this
      simp [gapl]
      omega
    | cons p' q =>
      have hL' : L ∈ p' :: q := by
        rcases List.mem_cons.1 hL with h4 | h4
        · have h5 := h1 p' List.mem_cons_self
          have h6 := hM p' (List.mem_cons_of_mem _ List.mem_cons_self)
          rw [h4] at h6
          omega
        · exact h4
      have h7 := ih (a := p.f0 + 1) h2 (fun x hx => by have := h1 x hx; omega) hL' (fun x hx => hM x (List.mem_cons_of_mem _ hx))
      omega
theorem gapl_mem {g : Int} : ∀ {q : List S41} {a : Int}, Inc q → (∀ p ∈ q, a ≤ p.f0) → g ∈ gapl a q → a ≤ g ∧ (∃ p ∈ q, g < p.f0) ∧ ¬ ∃ p ∈ q, p.f0 = g := by
  intro q
  induction q with
  | nil => intro a _ _ h; cases h
  | cons p q ih =>
    intro a hi ha hg
    obtain ⟨h1, h2⟩ := List.pairwise_cons.1 hi
    have h3 := ha p List.mem_cons_self
    rw [gapl, List.mem_append, show max a p.f0 + 1 = p.f0 + 1 by omega] at hg
    rcases hg with hg | hg
    · obtain ⟨n, hn, hn2⟩ := List.mem_map.1 hg
      rw [List.mem_range] at hn
      refine ⟨by omega, ⟨p, List.mem_cons_self, by omega⟩, ?_⟩
      rintro ⟨x, hx, e⟩
      rcases List.mem_cons.1 hx with rfl | hx
      · omega
      · have := h1 x hx; omega
    · obtain ⟨h4, ⟨x, hx, h5⟩, h6⟩ := ih h2 (fun x hx => by have := h1 x hx; omega) hg
      refine ⟨by omega, ⟨x, List.mem_cons_of_mem _ hx, h5⟩, ?_⟩
      rintro ⟨y, hy, e⟩
      rcases List.mem_cons.1 hy with rfl | hy
      · omega
      · exact h6 ⟨y, hy, e⟩
theorem inc_head {q : List S41} (hi : Inc q) (hq : q ≠ []) : rd_T41 q 0 ∈ q ∧ ∀ p ∈ q, (rd_T41 q 0).f0 ≤ p.f0 := by
  cases q with
  | nil => exact absurd rfl hq
  | cons p q =>
    have e : rd_T41 (p :: q) 0 = p := rfl
    rw [e]
    refine ⟨List.mem_cons_self, fun x hx => ?_⟩
    rcases List.mem_cons.1 hx with rfl | hx
    · exact Int.le_refl _
    · exact Int.le_of_lt ((List.pairwise_cons.1 hi).1 x hx)
theorem inc_last {q : List S41} (hi : Inc q) (hq : q ≠ []) : rd_T41 q ((q.length : Int) - 1) ∈ q ∧ ∀ p ∈ q, p.f0 ≤ (rd_T41 q ((q.length : Int) - 1)).f0 := by
  have hl := List.length_pos_iff.2 hq
  have e : (q.length : Int) - 1 = ((q.length - 1 : Nat) : Int) := by omega
  rw [e, rd_at q _ (by omega)]
  refine ⟨List.getElem_mem _, fun p hp => ?_⟩
  obtain ⟨j, hj, rfl⟩ := List.mem_iff_getElem.1 hp
  rcases Nat.eq_or_lt_of_le (show j ≤ q.length - 1 by omega) with h | h
  · subst h; exact Int.le_refl _
  · exact Int.le_of_lt (inc_lt hi h (by omega))
theorem head_eq {q q' : List S41} (hi : Inc q) (hi' : Inc q') (hq : q ≠ []) (hs : ∀ x ∈ q, x ∈ q') (hm : ∀ x ∈ q', (rd_T41 q 0).f0 ≤ x.f0) : (rd_T41 q' 0).f0 = (rd_T41 q 0).f0 := by
  obtain ⟨a1, a2⟩ := inc_head hi hq
  have hq' : q' ≠ [] := fun h => by have := hs _ a1; rw [h] at this; cases this
  obtain ⟨b1, b2⟩ := inc_head hi' hq'
  have := b2 _ (hs _ a1)
  have := hm _ b1
  omega
/-- A packet for a gap is taken, and closes that gap. -/
theorem put_gap {on : Bool} {nx dp dr : Int} {q : List S41} (h : OK on nx dp dr q) (hq : q ≠ []) {g : Int} (hg : g ∈ gapl (frm on nx q) q) (b : List Int) (hb : b.length = 1) :
    gd ⟨g, b⟩ = true ∧ put1 on nx q ⟨g, b⟩ = (insq q ⟨g, b⟩, 0) ∧ OK on nx dp dr (insq q ⟨g, b⟩) ∧ ((gapl (frm on nx (insq q ⟨g, b⟩)) (insq q ⟨g, b⟩)).length : Int) = ((gapl (frm on nx q) q).length : Int) - 1 ∧ g ∉ gapl (frm on nx (insq q ⟨g, b⟩)) (insq q ⟨g, b⟩) := by
  obtain ⟨f0, f1⟩ := frm_b h hq
  obtain ⟨g1, ⟨x, hx, g2⟩, g3⟩ := gapl_mem h.inc h.lo hg
  have hxg := (gd_iff x).1 (h.gds x hx)
  have hxh := h.hi x hx
  have hgd : gd ⟨g, b⟩ = true := (gd_iff _).2 ⟨by show 0 ≤ g; omega, by show g ≤ _; omega, by show 0 < b.length; omega, by show b.length ≤ 40; omega⟩
  obtain ⟨a1, a2⟩ := inc_head h.inc hq
  obtain ⟨l1, l2⟩ := inc_last h.inc hq
  have hi' : Inc (insq q ⟨g, b⟩) := insq_inc h.inc g3
  have hfr : frm on nx (insq q ⟨g, b⟩) = frm on nx q := by
    unfold frm
    by_cases hon : on = true
    · rw [if_pos hon, if_pos hon]
    · rw [if_neg hon, if_neg hon]
      refine head_eq h.inc hi' hq (fun y hy => (insq_mem _ _ _).2 (.inr hy)) (fun y hy => ?_)
      rcases (insq_mem _ _ _).1 hy with rfl | hy
      · unfold frm at g1
        rw [if_neg hon] at g1
        exact g1
      · exact a2 y hy
  have hlo : ∀ p ∈ insq q ⟨g, b⟩, frm on nx q ≤ p.f0 := fun p hp => by
    rcases (insq_mem _ _ _).1 hp with rfl | hp
    · exact g1
    · exact h.lo p hp
  have hok : OK on nx dp dr (insq q ⟨g, b⟩) := by
    refine ⟨h.d1, h.d2, h.n1, h.n2, h.y1, h.y2, h.off, hi', fun p hp => ?_, fun p hp => ?_, fun p hp => ?_⟩
    · rcases (insq_mem _ _ _).1 hp with rfl | hp
      · exact hgd
      · exact h.gds p hp
    · rw [hfr]; exact hlo p hp
    · rw [hfr]
      rcases (insq_mem _ _ _).1 hp with rfl | hp
      · show g < _; omega
      · exact h.hi p hp
  refine ⟨hgd, ?_, hok, ?_, fun hc => ?_⟩
  · unfold put1
    have hn : ¬ (on = true ∧ g < nx) := by
      rintro ⟨hon, hlt⟩
      unfold frm at g1
      rw [if_pos hon] at g1
      omega
    rw [if_neg hn, if_neg g3]
    have hf : ¬ farb on nx q g = true := by
      unfold farb
      by_cases hon : on = true
      · rw [if_pos hon, decide_eq_true_iff]
        unfold frm at hxh
        rw [if_pos hon] at hxh
        omega
      · rw [if_neg hon, if_neg hq, decide_eq_true_iff]
        have h2 := h.hi _ l1
        have h3 := a2 _ l1
        have h4 := l2 x hx
        unfold frm at h2 g1
        rw [if_neg hon] at h2 g1
        generalize (rd_T41 q ((q.length : Int) - 1)).f0 = y at *
        generalize (rd_T41 q 0).f0 = z at *
        unfold mx mn
        split <;> split <;> omega
    rw [if_neg hf]
  · have e1 := gapl_len h.inc h.lo l1 l2
    have e2 := gapl_len (L := rd_T41 q ((q.length : Int) - 1)) hi' hlo ((insq_mem _ _ _).2 (.inr l1)) (fun p hp => by
      rcases (insq_mem _ _ _).1 hp with rfl | hp
      · have := l2 x hx
        show g ≤ _
        omega
      · exact l2 p hp)
    rw [insq_len] at e2
    rw [hfr]
    omega
  · rw [hfr] at hc
    exact (gapl_mem hi' hlo hc).2.2 ⟨_, (insq_mem _ _ _).2 (.inl rfl), rfl⟩
theorem gaps_pure : squelchlaw13_JitterGaps.Pure := by
  intro on nx dp dr q a1 w1 w2 w3 hwq w4
  obtain ⟨hq1, hq2, hq3⟩ := hwq
  refine ⟨2 * q.length + 300000, ?_⟩
  generalize hk : 2 * q.length + 300000 = kk
  unfold squelchlaw13_JitterGaps.f
  rw [live_true, Option.bind_some]
  obtain ⟨b, hb, hb2⟩ := few_f on nx dp dr q (by omega) kk (by omega)
  rw [hb, Option.bind_some]
  have skip : ∀ c : Bool, c = true → squelchlaw13_JitterGaps.j0 kk a1 true c on nx dp dr q = some true := fun c hc => by
    obtain ⟨k, rfl⟩ := some_of kk 1 (by omega)
    rw [squelchlaw13_JitterGaps.j0, if_pos hc]
  by_cases hbt : b = true
  rotate_left
  · rw [if_neg hbt]; exact skip _ rfl
  rw [if_pos hbt]
  have hql := hb2 hbt
  obtain ⟨c, hc, hc2⟩ := rchk_f on nx dp dr q (by omega) kk (by omega)
  rw [hc, Option.bind_some]
  by_cases hc0 : c = 0
  rotate_left
  · rw [if_neg hc0]; exact skip _ rfl
  rw [if_pos hc0]
  have h := hc2 hc0
  by_cases hq : q = []
  · exact skip _ (by rw [hq]; rfl)
  have hl := List.length_pos_iff.2 hq
  obtain ⟨k, rfl⟩ := some_of kk 2 (by omega)
  rw [squelchlaw13_JitterGaps.j0, if_neg (by simpa using hq), if_pos (by omega)]
  obtain ⟨f0, f1⟩ := frm_b h hq
  obtain ⟨l1, l2⟩ := inc_last h.inc hq
  have hlen := gapl_len h.inc h.lo l1 l2
  have hlast := (gd_iff _).1 (h.gds _ l1)
  have hlhi := h.hi _ l1
  have key : ∀ fr : Int, fr = frm on nx q → squelchlaw13_JitterGaps.j1 (k + 1) a1 true fr on nx dp dr q = some true := fun fr hfr => by
    have e : wrap64 ((q.length : Int) - 1) = (q.length : Int) - 1 := w64 _ (by omega) (by omega)
    rw [squelchlaw13_JitterGaps.j1, gaps_f h (by omega) k (by omega), Option.bind_some, if_neg hq, e, if_pos (by omega), if_pos (by omega)]
    rw [← hfr] at hlen hlhi f0 f1
    have hmem : ∀ y ∈ gapl fr q, y ∈ gapl (frm on nx q) q := fun y hy => by rw [← hfr]; exact hy
    have hgl : gapl (frm on nx q) q = gapl fr q := by rw [hfr]
    rw [hgl]
    generalize hG : gapl fr q = G at *
    rw [w64 ((G.length : Int) + (q.length : Int)) (by omega) (by omega), w64 ((rd_T41 q ((q.length : Int) - 1)).f0 - fr) (by omega) (by omega), w64 _ (by omega) (by omega), if_pos hlen]
    by_cases hg0 : (G.length : Int) = 0
    · rw [if_pos hg0]
    rw [if_neg hg0]
    obtain ⟨m0, m1⟩ := tmod_pos (a := a1) (m := (G.length : Int)) (by omega) (by omega)
    generalize Int.tmod (wrap64 (Int.tmod a1 (G.length : Int) + (G.length : Int))) (G.length : Int) = m at *
    rw [if_pos m0, if_pos m1]
    have hgm : rd G m ∈ G := by
      obtain ⟨n, rfl⟩ := Int.eq_ofNat_of_zero_le m0
      have hn : n < G.length := by omega
      have e : rd G (n : Int) = G[n] := by
        unfold rd
        rw [Int.toNat_natCast, List.getD_eq_getElem?_getD, List.getElem?_eq_getElem hn]
        rfl
      rw [e]
      exact List.getElem_mem hn
    generalize rd G m = g at *
    obtain ⟨p1, p2, p3, p4, p5⟩ := put_gap h hq (hmem g hgm) [1] rfl
    have hlen' := insq_len q ⟨g, [1]⟩
    rw [put_f h (by simpa using p1) (by omega) (by simp) k (by omega), Option.bind_some]
    have e3 : putl on nx q [⟨g, [1]⟩] = (insq q ⟨g, [1]⟩, [0]) := by
      simp only [putl, p2]
    rw [e3]
    dsimp only
    rw [gaps_f p3 (by omega) k (by omega), Option.bind_some, if_neg (show ¬ insq q ⟨g, [1]⟩ = [] by intro h0; rw [h0] at hlen'; simp at hlen'), if_pos rfl, if_pos rfl]
    have e4 : squelchref03_Equal.f k ([0] : List Int) ([0] : List Int) = some true := by
      obtain ⟨k, rfl⟩ := some_of k 2 (by omega)
      unfold squelchref03_Equal.f
      rw [if_pos rfl, squelchref03_Equal.l0, if_pos (by decide), if_pos (by decide), if_pos (by decide), if_pos (by decide), if_pos rfl, squelchref03_Equal.l0, w64 _ (by decide) (by decide), if_neg (by decide)]
    rw [e4, Option.bind_some, if_pos rfl]
    rw [hgl] at p4
    rw [w64 ((G.length : Int) - 1) (by omega) (by omega), if_pos p4, has_f g _ (by omega) k (by omega), Option.bind_some, decide_eq_false p5]
    rfl
  by_cases hon : on = true
  · rw [if_pos hon]
    exact key nx (by unfold frm; rw [if_pos hon])
  · rw [if_neg hon]
    exact key _ (by unfold frm; rw [if_neg hon])

end Go.Proofs.Ytkjgibdbbklejaa.Jt
namespace Go.Proofs.Ytkjgibdbbklejaa.Pure
theorem JitterGaps : Go.Proofs.Ytkjgibdbbklejaa.PA.squelchlaw13_JitterGaps.Pure := Go.Proofs.Ytkjgibdbbklejaa.Jt.gaps_pure
end Go.Proofs.Ytkjgibdbbklejaa.Pure
