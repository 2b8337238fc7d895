/- Packets put in whatever order: the same row. -/
import Derived.Test.YtkjgibdbbklejaaJtR
import Derived.Test.YtkjgibdbbklejaaPAx80
set_option linter.unusedVariables false
set_option linter.unusedSimpArgs false
namespace Go.Proofs.Ytkjgibdbbklejaa.Jt
open Go.RowKit Go.Proofs.Ytkjgibdbbklejaa.PA Go.Proofs.YtkjgibdbbklejaaW.PrintWords Go.Proofs.YtkjgibdbbklejaaW.PrintLast Go.Proofs.YtkjgibdbbklejaaW.PrintMore
theorem inc_ext : ∀ {a b : List S41}, Inc a → Inc b → (∀ x, x ∈ a ↔ x ∈ b) → a = b := by
  intro a
  induction a with
  | nil => intro b _ _ h; cases b with
    | nil => rfl
    | cons y b => exact absurd ((h y).2 (List.mem_cons_self ..)) (by simp)
  | cons x a ih =>
    intro b ha hb h
    cases b with
    | nil => exact absurd ((h x).1 (List.mem_cons_self ..)) (by simp)
    | cons y b =>
      obtain ⟨a1, a2⟩ := List.pairwise_cons.1 ha
      obtain ⟨b1, b2⟩ := List.pairwise_cons.1 hb
      have hxy : x = y := by
        rcases List.mem_cons.1 ((h x).1 (List.mem_cons_self ..)) with e | e
        · exact e
        · rcases List.mem_cons.1 ((h y).2 (List.mem_cons_self ..)) with e2 | e2
          · exact e2.symm
          · have := a1 y e2; have := b1 x e; omega
      subst hxy
      congr 1
      refine ih a2 b2 fun z => ⟨fun hz => ?_, fun hz => ?_⟩
      · rcases List.mem_cons.1 ((h z).1 (List.mem_cons_of_mem _ hz)) with e | e
        · have := a1 z hz; rw [e] at this; omega
        · exact e
      · rcases List.mem_cons.1 ((h z).2 (List.mem_cons_of_mem _ hz)) with e | e
        · have := b1 z hz; rw [e] at this; omega
        · exact e
def Dis (l : List S41) : Prop := l.Pairwise fun a b => a.f0 ≠ b.f0
/-- What is in a row after packets of different numbers were put, none of them too far. -/
theorem putl_mem {on : Bool} {nx : Int} : ∀ {l q : List S41}, Dis l → ¬ (3 : Int) ∈ (putl on nx q l).2 → ∀ x, x ∈ (putl on nx q l).1 ↔ (x ∈ q ∨ (x ∈ l ∧ ¬ (on = true ∧ x.f0 < nx) ∧ ¬ ∃ y ∈ q, y.f0 = x.f0)) := by
  intro l
  induction l with
  | nil => intro q _ _ x; simp [putl]
  | cons p l ih =>
    intro q hd hf x
    obtain ⟨d1, d2⟩ := List.pairwise_cons.1 hd
    rw [putl] at hf ⊢
    have hf1 : ¬ (put1 on nx q p).2 = 3 := fun e => hf (by rw [e]; exact List.mem_cons_self ..)
    have hf2 : ¬ (3 : Int) ∈ (putl on nx (put1 on nx q p).1 l).2 := fun e => hf (List.mem_cons_of_mem _ e)
    have H := ih d2 hf2 x
    rw [H]
    unfold put1 at hf1 ⊢
    by_cases h1 : on = true ∧ p.f0 < nx
    · rw [if_pos h1]
      constructor
      · rintro (h | ⟨h, h2⟩)
        · exact .inl h
        · exact .inr ⟨List.mem_cons_of_mem _ h, h2⟩
      · rintro (h | ⟨h, h2⟩)
        · exact .inl h
        · rcases List.mem_cons.1 h with e | e
          · exact absurd (by rw [e]; exact h1) h2.1
          · exact .inr ⟨e, h2⟩
    · rw [if_neg h1] at hf1 ⊢
      by_cases h2 : ∃ y ∈ q, y.f0 = p.f0
      · rw [if_pos h2]
        constructor
        · rintro (h | ⟨h, h3⟩)
          · exact .inl h
          · exact .inr ⟨List.mem_cons_of_mem _ h, h3⟩
        · rintro (h | ⟨h, h3⟩)
          · exact .inl h
          · rcases List.mem_cons.1 h with e | e
            · exact absurd (by rw [e]; exact h2) h3.2
            · exact .inr ⟨e, h3⟩
      · rw [if_neg h2] at hf1 ⊢
        by_cases h3 : farb on nx q p.f0 = true
        · rw [if_pos h3] at hf1; exact absurd rfl hf1
        · rw [if_neg h3]
          constructor
          · rintro (h | ⟨h, h4, h5⟩)
            · rcases (insq_mem q p x).1 h with e | e
              · exact .inr ⟨by rw [e]; exact List.mem_cons_self .., by rw [e]; exact h1, by rw [e]; exact h2⟩
              · exact .inl e
            · exact .inr ⟨List.mem_cons_of_mem _ h, h4, fun ⟨y, hy, e⟩ => h5 ⟨y, (insq_mem q p y).2 (.inr hy), e⟩⟩
          · rintro (h | ⟨h, h4, h5⟩)
            · exact .inl ((insq_mem q p x).2 (.inr h))
            · rcases List.mem_cons.1 h with e | e
              · exact .inl ((insq_mem q p x).2 (.inl e))
              · refine .inr ⟨e, h4, fun ⟨y, hy, e2⟩ => ?_⟩
                rcases (insq_mem q p y).1 hy with e3 | e3
                · exact d1 x e (by rw [← e2, e3])
                · exact h5 ⟨y, e3, e2⟩
theorem putl_perm {on : Bool} {nx dp dr : Int} {q l l' : List S41} (h : OK on nx dp dr q) (hg : ∀ p ∈ l, gd p = true) (hd : Dis l) (hp : l'.Perm l) (h3 : ¬ (3 : Int) ∈ (putl on nx q l).2) (h3' : ¬ (3 : Int) ∈ (putl on nx q l').2) : (putl on nx q l').1 = (putl on nx q l).1 := by
  have hd' : Dis l' := (hp.pairwise_iff (fun {a b} hab e => hab e.symm)).2 hd
  refine inc_ext (putl_ok h (fun p hpl => hg p (hp.mem_iff.1 hpl))).inc (putl_ok h hg).inc fun x => ?_
  rw [putl_mem hd' h3', putl_mem hd h3, hp.mem_iff]
/-- Both puts. -/
theorem put_both {on : Bool} {nx dp dr : Int} {q l l' : List S41} (h : OK on nx dp dr q) (hll : l.length ≤ 1000) (hd : Dis l) (hp : l'.Perm l) :
    (∃ b, jitter_Put.f 10000 on nx dp dr q l = some (false, 0, 0, 0, [], [], 1) ∧ jitter_Put.f 10000 on nx dp dr q l' = some (false, 0, 0, 0, [], [], 1) ∧ b = true) ∨
    (∃ q1 q2 p1 p2, jitter_Put.f 10000 on nx dp dr q l = some (on, nx, dp, dr, q1, p1, 0) ∧ jitter_Put.f 10000 on nx dp dr q l' = some (on, nx, dp, dr, q2, p2, 0) ∧ (¬ (3 : Int) ∈ p1 → ¬ (3 : Int) ∈ p2 → q2 = q1 ∧ OK on nx dp dr q1) ∧ p1.length ≤ 1000 ∧ p2.length ≤ 1000) := by
  have hq := h.len
  have hll' : l'.length ≤ 1000 := by rw [hp.length_eq]; exact hll
  have hbad : ∀ l : List S41, l.length ≤ 1000 → ¬ (∀ p ∈ l, gd p = true) → jitter_Put.f 10000 on nx dp dr q l = some (false, 0, 0, 0, [], [], 1) := by
    intro l hll hl
    have hex : (∃ p ∈ l, gd p = false) := by
      refine Classical.byContradiction fun hc => hl fun p hp => ?_
      cases hb : gd p with
      | true => rfl
      | false => exact absurd ⟨p, hp, hb⟩ hc
    unfold jitter_Put.f
    rw [check_f on nx dp dr q (by omega) 10000 (by omega), if_pos (ok_to h), Option.bind_some, if_pos rfl, cont_f l (by omega) 10000 (by omega), decide_eq_true hex, Option.bind_some, jitter_Put.j0, if_pos rfl]
  by_cases hl : ∀ p ∈ l, gd p = true
  · have hl' : ∀ p ∈ l', gd p = true := fun p hpl => hl p (hp.mem_iff.1 hpl)
    exact .inr ⟨_, _, _, _, put_f h hl (by omega) hll 10000 (Nat.le_refl _), put_f h hl' (by omega) hll' 10000 (Nat.le_refl _), fun a b => ⟨putl_perm h hl hd hp a b, putl_ok h hl⟩, by rw [putl_len]; exact hll, by rw [putl_len]; exact hll'⟩
  · exact .inl ⟨true, hbad l hll hl, hbad l' hll' (fun hc => hl fun p hpl => hc p (hp.mem_iff.2 hpl)), rfl⟩
theorem has_l0 (x : Int) (l : List Int) (hl : l.length ≤ 4611686018427387904) : ∀ (d k i : Nat), i + d = l.length → d < k → squelchlaw13_has.l0 k x l (l.length : Int) (i : Int) = some (decide (x ∈ l.drop i)) := by
  intro d
  induction d with
  | zero =>
    intro k i hi hk
    obtain ⟨k, rfl⟩ := some_of k 1 (by omega)
    rw [squelchlaw13_has.l0, if_neg (by omega), List.drop_eq_nil_of_le (by omega)]
    rfl
  | succ d ih =>
    intro k i hi hk
    obtain ⟨k, rfl⟩ := some_of k 1 (by omega)
    have hil : i < l.length := by omega
    have e : rd l (i : Int) = l[i] := by
      unfold rd
      rw [Int.toNat_natCast, List.getD_eq_getElem?_getD, List.getElem?_eq_getElem hil]
      rfl
    rw [squelchlaw13_has.l0, if_pos (by omega), if_pos (by omega), if_pos (by omega), e, List.drop_eq_getElem_cons hil]
    by_cases h : l[i] = x
    · rw [if_pos h, decide_eq_true (by rw [h]; exact List.mem_cons_self)]
    · rw [if_neg h, w64 _ (by omega) (by omega), show (i : Int) + 1 = ((i + 1 : Nat) : Int) by omega, ih k (i + 1) (by omega) (by omega)]
      congr 1
      rw [Bool.eq_iff_iff, decide_eq_true_iff, decide_eq_true_iff, List.mem_cons]
      exact ⟨fun h2 => .inr h2, fun h2 => h2.resolve_left (fun h3 => h h3.symm)⟩
theorem has_f (x : Int) (l : List Int) (hl : l.length ≤ 4611686018427387904) (k : Nat) (hk : l.length < k) : squelchlaw13_has.f k l x = some (decide (x ∈ l)) := by
  unfold squelchlaw13_has.f
  have := has_l0 x l hl l.length k 0 (by omega) hk
  rw [List.drop_zero] at this
  exact this
/-- Whether numbers stand twice, so far. -/
theorem dis_all {l : List S41} (h : ∀ a b, (hab : a < b) → (hb : b < l.length) → (l[a]'(by omega)).f0 ≠ l[b].f0) : Dis l := List.pairwise_iff_getElem.2 fun a b _ hb hab => h a b hab hb
end Go.Proofs.Ytkjgibdbbklejaa.Jt
