/- What is put and pulled keeps a state one that may be; the document's own test of it: in plain lists. -/
import Derived.Test.YtkjgibdbbklejaaJtQ
import Derived.Test.YtkjgibdbbklejaaPAx5
set_option linter.unusedVariables false
set_option linter.unusedSimpArgs false
namespace Go.Proofs.Ytkjgibdbbklejaa.Jt
open Go.RowKit Go.Proofs.Ytkjgibdbbklejaa.PA Go.Proofs.YtkjgibdbbklejaaW.PrintWords Go.Proofs.YtkjgibdbbklejaaW.PrintLast Go.Proofs.YtkjgibdbbklejaaW.PrintMore
/-! ### How long a state's row is -/
theorem inc_room : ∀ {q : List S41} {a b : Int}, Inc q → (∀ p ∈ q, a ≤ p.f0) → (∀ p ∈ q, p.f0 < b) → a ≤ b → (q.length : Int) ≤ b - a := by
  intro q
  induction q with
  | nil => intro a b _ _ _ h; simp; omega
  | cons p q ih =>
    intro a b hi lo hu hab
    obtain ⟨h1, h2⟩ := List.pairwise_cons.1 hi
    have ha := lo p (List.mem_cons_self ..)
    have hb := hu p (List.mem_cons_self ..)
    have := ih (a := p.f0 + 1) (b := b) h2 (fun x hx => by have := h1 x hx; omega) (fun x hx => hu x (List.mem_cons_of_mem _ hx)) (by omega)
    rw [List.length_cons]; push_cast; omega
theorem OK.len {on : Bool} {nx dp dr : Int} {q : List S41} (h : OK on nx dp dr q) : q.length ≤ 64 := by
  have := inc_room h.inc h.lo h.hi (by omega)
  omega
theorem inc_head {q : List S41} (hi : Inc q) (hq : q ≠ []) : rd_T41 q 0 ∈ q ∧ ∀ p ∈ q, (rd_T41 q 0).f0 ≤ p.f0 := by
  cases q with
  | nil => exact absurd rfl hq
  | cons x r =>
    obtain ⟨h1, _⟩ := List.pairwise_cons.1 hi
    refine ⟨List.mem_cons_self .., fun p hp => ?_⟩
    rcases List.mem_cons.1 hp with rfl | hp
    · exact Int.le_refl _
    · exact Int.le_of_lt (h1 p hp)
theorem inc_last {q : List S41} (hi : Inc q) (hq : q ≠ []) : ∀ p ∈ q, p.f0 ≤ (rd_T41 q ((q.length : Int) - 1)).f0 := by
  have hl : 0 < q.length := List.length_pos_iff.2 hq
  have e : (q.length : Int) - 1 = ((q.length - 1 : Nat) : Int) := by omega
  rw [e, rd_at q (q.length - 1) (by omega)]
  intro p hp
  obtain ⟨j, hj, rfl⟩ := List.mem_iff_getElem.1 hp
  rcases Nat.lt_or_ge j (q.length - 1) with h | h
  · exact Int.le_of_lt (inc_lt hi h (by omega))
  · obtain rfl : j = q.length - 1 := by omega
    exact Int.le_refl _
/-! ### A packet that is put -/
theorem put1_ok {on : Bool} {nx dp dr : Int} {q : List S41} {p : S41} (h : OK on nx dp dr q) (hp : gd p = true) : OK on nx dp dr (put1 on nx q p).1 := by
  have hk := put1_keep (on := on) (nx := nx) h.inc h.gds hp
  have hpg := (gd_iff p).1 hp
  refine ⟨h.d1, h.d2, h.n1, h.n2, h.y1, h.y2, h.off, hk.1, hk.2.1, ?_, ?_⟩
  all_goals unfold put1
  · split
    · exact h.lo
    · rename_i h1
      split
      · exact h.lo
      · split
        · exact h.lo
        · intro x hx
          by_cases hon : on = true
          · have := h.lo
            unfold frm at this ⊢
            rw [if_pos hon] at this ⊢
            rcases (insq_mem q p x).1 hx with rfl | hx
            · have : ¬ x.f0 < nx := fun hh => h1 ⟨hon, hh⟩
              omega
            · exact this x hx
          · unfold frm
            rw [if_neg hon]
            exact (inc_head (insq_inc h.inc (by assumption)) (by intro e; rw [e] at hx; cases hx)).2 x hx
  · split
    · exact h.hi
    · rename_i h1
      split
      · exact h.hi
      · rename_i h2
        split
        · exact h.hi
        · rename_i h3
          intro x hx
          have hf : farb on nx q p.f0 = false := by simpa using h3
          unfold farb at hf
          by_cases hon : on = true
          · have hh := h.hi
            unfold frm at hh ⊢
            rw [if_pos hon] at hh hf ⊢
            have hf2 := of_decide_eq_false hf
            rcases (insq_mem q p x).1 hx with rfl | hx
            · omega
            · exact hh x hx
          · unfold frm
            rw [if_neg hon] at hf ⊢
            show x.f0 < (rd_T41 (insq q p) 0).f0 + 64
            have hne : insq q p ≠ [] := by intro e; rw [e] at hx; cases hx
            have hhd := (inc_head (insq_inc h.inc h2) hne).1
            by_cases hq : q = []
            · subst hq
              have e1 : ∀ y ∈ insq [] p, y = p := fun y hy => by
                rcases (insq_mem [] p y).1 hy with e | e
                · exact e
                · cases e
              rw [e1 x hx, e1 _ hhd]; omega
            · rw [if_neg hq] at hf
              have hf2 := of_decide_eq_false hf
              unfold mx mn at hf2
              have a1 := inc_last h.inc hq
              have a2 := (inc_head h.inc hq).2
              have b1 : x.f0 = p.f0 ∨ x.f0 ≤ (rd_T41 q ((q.length : Int) - 1)).f0 := by
                rcases (insq_mem q p x).1 hx with rfl | hx
                · exact .inl rfl
                · exact .inr (a1 x hx)
              have b2 : (rd_T41 (insq q p) 0).f0 = p.f0 ∨ (rd_T41 q 0).f0 ≤ (rd_T41 (insq q p) 0).f0 := by
                rcases (insq_mem q p _).1 hhd with e | e
                · exact .inl (by rw [e])
                · exact .inr (a2 _ e)
              split at hf2 <;> split at hf2 <;> omega
theorem putl_ok {on : Bool} {nx dp dr : Int} : ∀ {l q : List S41}, OK on nx dp dr q → (∀ p ∈ l, gd p = true) → OK on nx dp dr (putl on nx q l).1 := by
  intro l
  induction l with
  | nil => intro q h _; exact h
  | cons p l ih => intro q h hl; rw [putl]; exact ih (put1_ok h (hl p (List.mem_cons_self ..))) (fun x hx => hl x (List.mem_cons_of_mem _ hx))
theorem putl_len {on : Bool} {nx : Int} : ∀ (l q : List S41), (putl on nx q l).2.length = l.length := by
  intro l
  induction l with
  | nil => intro q; rfl
  | cons p l ih => intro q; rw [putl, List.length_cons, List.length_cons, ih]
/-- Put, for whatever packets. -/
theorem put_any {on : Bool} {nx dp dr : Int} {q l : List S41} (h : OK on nx dp dr q) (hll : l.length ≤ 1000) : ∃ r1 r2 r3 r4 r5 r6 r7, jitter_Put.f 10000 on nx dp dr q l = some (r1, r2, r3, r4, r5, r6, r7) ∧ (r7 = 0 → r1 = on ∧ r2 = nx ∧ r3 = dp ∧ r4 = dr ∧ OK on nx dp dr r5 ∧ r6.length = l.length) := by
  have hq := h.len
  by_cases hl : ∀ p ∈ l, gd p = true
  · exact ⟨_, _, _, _, _, _, _, put_f h hl (by omega) hll 10000 (Nat.le_refl _), fun _ => ⟨rfl, rfl, rfl, rfl, putl_ok h hl, putl_len l q⟩⟩
  · refine ⟨false, 0, 0, 0, [], [], 1, ?_, fun h => by cases h⟩
    have hex : (∃ p ∈ l, gd p = false) := by
      refine Classical.byContradiction fun hc => hl fun p hp => ?_
      cases hb : gd p with
      | true => rfl
      | false => exact absurd ⟨p, hp, hb⟩ hc
    unfold jitter_Put.f
    rw [check_f on nx dp dr q (by omega) 10000 (by omega), if_pos (ok_to h), Option.bind_some, if_pos rfl, cont_f l (by omega) 10000 (by omega), decide_eq_true hex, Option.bind_some, jitter_Put.j0, if_pos rfl]
/-! ### A state that is pulled -/
theorem drop_inc {q : List S41} (h : Inc q) (n : Nat) : Inc (q.drop n) := h.sublist (List.drop_sublist _ _)
theorem drop_head {q : List S41} (hi : Inc q) (hq : q ≠ []) : ∀ p ∈ q.drop 1, (rd_T41 q 0).f0 < p.f0 := by
  cases q with
  | nil => exact absurd rfl hq
  | cons x r => exact (List.pairwise_cons.1 hi).1
/-- What a pull comes to. -/
structure Pulled (on : Bool) (nx dp dr : Int) (q : List S41) (on' : Bool) (nx' dr' : Int) (q' : List S41) (c : Int) (b : List Int) : Prop where
  ok : OK on' nx' dp dr' q'
  way : (c = 0 ∧ on = false ∧ (q.length : Int) < dp ∧ on' = on ∧ nx' = nx ∧ dr' = dr ∧ q' = q ∧ b = []) ∨ (c = 1 ∧ q ≠ [] ∧ (on = true → (rd_T41 q 0).f0 = nx) ∧ nx' = (rd_T41 q 0).f0 + 1 ∧ b = (rd_T41 q 0).f1 ∧ on' = true ∧ q' = q.drop 1) ∨ (c = 2 ∧ on' = true ∧ on = true ∧ nx' = nx + 1 ∧ b = [] ∧ q' = q) ∨ (c = 3 ∧ on' = false ∧ q' = [] ∧ dr = 11 ∧ b = [])
theorem pull_any {on : Bool} {nx dp dr : Int} {q : List S41} (h : OK on nx dp dr q) (hn : nx ≤ 2199023255551) : ∃ on' nx' dr' q' c b, jitter_Pull.f 10000 on nx dp dr q = some (on', nx', dp, dr', q', c, b, 0) ∧ Pulled on nx dp dr q on' nx' dr' q' c b := by
  have hlen := h.len
  rw [pull_f h (by omega) 10000 (Nat.le_refl _)]
  have d1 := h.d1
  have d2 := h.d2
  have n1 := h.n1
  have y1 := h.y1
  have y2 := h.y2
  unfold pull
  split
  · rename_i h1
    exact ⟨_, _, _, _, _, _, rfl, h, .inl ⟨rfl, h1.1, h1.2, rfl, rfl, rfl, rfl, rfl⟩⟩
  · rename_i h1
    have hne : on = false → q ≠ [] := fun e hq => h1 ⟨e, by rw [hq]; simp; omega⟩
    split
    · rename_i h2
      have hhd := inc_head h.inc h2.1
      have hg := (gd_iff _).1 (h.gds _ hhd.1)
      have hdh := drop_head h.inc h2.1
      refine ⟨_, _, _, _, _, _, rfl, ⟨d1, d2, by omega, by omega, by omega, by omega, .inl rfl, drop_inc h.inc 1, fun p hp => h.gds p (List.mem_of_mem_drop hp), fun p hp => ?_, fun p hp => ?_⟩, .inr (.inl ⟨rfl, h2.1, fun e => ?_, by rw [h2.2], rfl, rfl, rfl⟩)⟩
      · show frm true _ _ ≤ _
        unfold frm
        rw [if_pos rfl]
        have := hdh p hp
        have e := h2.2
        unfold frm at e
        omega
      · have := h.hi p (List.mem_of_mem_drop hp)
        show p.f0 < frm true (frm on nx q + 1) _ + 64
        have e2 : frm true (frm on nx q + 1) (q.drop 1) = frm on nx q + 1 := by unfold frm; rw [if_pos rfl]
        rw [e2]; omega
      · have e2 := h2.2
        unfold frm at e2
        rw [if_pos e] at e2
        exact e2
    · rename_i h2
      have hon : on = true := by
        cases on with
        | true => rfl
        | false => exact absurd ⟨hne rfl, by unfold frm; rw [if_neg (by decide)]⟩ h2
      subst hon
      have hfr : frm true nx q = nx := by unfold frm; rw [if_pos rfl]
      split
      · rename_i h3
        exact ⟨_, _, _, _, _, _, rfl, ⟨d1, d2, by omega, by omega, by omega, by omega, .inr (by omega), List.Pairwise.nil, fun p hp => (by cases hp), fun p hp => (by cases hp), fun p hp => (by cases hp)⟩, .inr (.inr (.inr ⟨rfl, rfl, rfl, by omega, rfl⟩))⟩
      · rename_i h3
        rw [hfr]
        refine ⟨_, _, _, _, _, _, rfl, ⟨d1, d2, by omega, by omega, by omega, by omega, .inl rfl, h.inc, h.gds, fun p hp => ?_, fun p hp => ?_⟩, .inr (.inr (.inl ⟨rfl, rfl, rfl, rfl, rfl, rfl⟩))⟩
        · show frm true _ _ ≤ _
          unfold frm
          rw [if_pos rfl]
          have hq : q ≠ [] := by intro e; rw [e] at hp; cases hp
          have a1 := h.lo _ (inc_head h.inc hq).1
          have a2 := (inc_head h.inc hq).2 p hp
          rw [hfr] at a1
          have a3 : (rd_T41 q 0).f0 ≠ nx := fun e => h2 ⟨hq, by rw [hfr]; exact e⟩
          omega
        · show p.f0 < frm true _ _ + 64
          have := h.hi p hp
          rw [hfr] at this
          unfold frm
          rw [if_pos rfl]
          omega
theorem fewl_l0 (x y : List S41) (hy : y.length ≤ 4611686018427387904) : ∀ (d k i : Nat), i + d = y.length → d < k → ∃ b : Bool, squelchlaw13_few.l0 k x y (y.length : Int) (i : Int) false 0 0 0 ([] : List S41) = some b ∧ (b = true → x.length ≤ 100) := by
  intro d
  induction d with
  | zero =>
    intro k i hi hk
    obtain ⟨k, rfl⟩ := some_of k 1 (by omega)
    rw [squelchlaw13_few.l0, if_neg (by omega), if_pos (by decide)]
    exact ⟨_, rfl, fun h => by have := of_decide_eq_true h; omega⟩
  | succ d ih =>
    intro k i hi hk
    obtain ⟨k, rfl⟩ := some_of k 1 (by omega)
    rw [squelchlaw13_few.l0, if_pos (by omega), if_pos (by omega), if_pos (by omega)]
    by_cases h : (((rd_T41 y (i : Int)).f1).length : Int) > 1000
    · rw [if_pos h]; exact ⟨_, rfl, fun h => by cases h⟩
    · rw [if_neg h, w64 _ (by omega) (by omega), show (i : Int) + 1 = ((i + 1 : Nat) : Int) by omega]
      exact ih k (i + 1) (by omega) (by omega)
theorem fewl_f (l : List S41) (hl : l.length < 4398046511104) : ∃ b : Bool, squelchlaw13_few.f (l.length + 1) false 0 0 0 ([] : List S41) l = some b ∧ (b = true → l.length ≤ 100) := by
  unfold squelchlaw13_few.f
  rw [if_pos (by decide), Option.bind_some]
  simp only [List.nil_append, List.append_nil, List.length_nil, Nat.zero_add]
  rw [if_pos hl, Option.bind_some]
  exact fewl_l0 l l (by omega) l.length (l.length + 1) 0 (by omega) (by omega)
theorem new_f {d : Int} (h1 : 1 ≤ d) (h2 : d ≤ 16) : jitter_New.f d = some (false, 0, d, 0, [], 0) := by
  unfold jitter_New.f
  first | rw [if_neg (by omega), if_neg (by omega)] | (simp [show ¬ d < 1 by omega, show ¬ d > 16 by omega])
theorem ok_new {d : Int} (h1 : 1 ≤ d) (h2 : d ≤ 16) : OK false 0 d 0 [] := ⟨h1, h2, Int.le_refl _, by decide, Int.le_refl _, by decide, .inr (by decide), List.Pairwise.nil, fun p hp => (by cases hp), fun p hp => (by cases hp), fun p hp => (by cases hp)⟩
end Go.Proofs.Ytkjgibdbbklejaa.Jt
