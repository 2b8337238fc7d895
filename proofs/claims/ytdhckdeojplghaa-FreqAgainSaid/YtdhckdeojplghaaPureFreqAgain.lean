/- A table's own frequencies, scaled to twice their total and as many as there are symbols, are what they were, twice, and one; an even table is that of ones; for all counts. -/
import Derived.Test.YtdhckdeojplghaaPAx14
import Derived.Test.YtdhckdeojplghaaFtS
set_option linter.unusedVariables false
set_option linter.unusedSimpArgs false
namespace Go.Proofs.Ytdhckdeojplghaa.Pure
open Go.RowKit Go.Sort Go.Proofs.Ytdhckdeojplghaa.PA Go.Proofs.YtdhckdeojplghaaW.PrintWords Go.Proofs.YtdhckdeojplghaaW.PrintLast Go.Proofs.Ytdhckdeojplghaa.FT

theorem ones_sum' (n : Nat) : (List.replicate n (1 : Int)).sum = (n : Int) := by
  induction n with
  | zero => rfl
  | succ n ih => rw [List.replicate_succ, List.sum_cons, ih]; omega
theorem fits_ones' {n : Nat} (h1 : 1 ≤ n) (h2 : n ≤ 256) : Fits (List.replicate n 1) := ⟨by simpa using h1, by simpa using h2, fun m hm => by rw [List.eq_of_mem_replicate hm]; decide, by rw [ones_sum']; omega⟩
theorem even_ev' {n : Nat} (h1 : 1 ≤ n) (h2 : n ≤ 256) : Ev (fun k => freq_Even.f k (n : Int)) (ps 0 (List.replicate n 1), 0) := by
  unfold freq_Even.f
  refine Ev.congr (f := fun k => freq_Even.j0 k (n : Int) false) (fun k => by rw [if_neg (by omega), decide_eq_false (by omega)]) ?_
  refine Ev.step (f := fun k => (freq_New.f k (List.replicate n 1)).bind fun bt293 => (some (bt293.1, bt293.2))) (fun k => ?_) ?_
  · have e : slices_Repeat_int_int.f [1] (n : Int) = some (List.replicate n 1) := by
      unfold slices_Repeat_int_int.f
      rw [if_pos ⟨rfl, by omega, by omega⟩, Int.toNat_natCast]
      rfl
    rw [freq_Even.j0, if_neg Bool.false_ne_true, e, Option.bind_some]
  · refine Ev.bind (new_ev _) ?_
    rw [show new_ (List.replicate n 1) = _ from if_pos (fits_ones' h1 h2)]
    exact Ev.now _

theorem again_l0 (l out : List Int) (hf : Fits l) (ho : Fits out) (hlen : out.length = l.length) (hv : ∀ s (hs : s < l.length), rd out (s : Int) = 1 + 2 * l[s]) (d : Nat) :
    ∀ i : Nat, i + d = l.length → Ev (fun k => squelchlaw03_FreqAgain.l0 k l true l (l.length : Int) (i : Int) (ps 0 out)) true := by
  have hc : (ps 0 out).length ≤ 9223372036854775807 := by rw [ps_length]; have := ho.2.1; omega
  have h256 := hf.2.1
  induction d with
  | zero =>
    intro i hi
    refine Ev.step (fun k => (squelchlaw03_FreqAgain.l0.eq_2 ..).trans (if_neg (by omega))) ?_
    have h1 := fits_ones' (n := l.length) hf.1 hf.2.1
    refine Ev.bind (even_ev' hf.1 hf.2.1) ?_
    refine Ev.congr (fun k => by rw [if_pos rfl, if_pos rfl]) ?_
    refine Ev.bind (total_ev _ (by rw [ps_length, List.length_replicate]; omega)) ?_
    rw [tot_ps h1, ones_sum']
    exact Ev.congr (fun k => by rw [beq_self_eq_true]) (Ev.now _)
  | succ d ih =>
    intro i hi
    have hl : i < l.length := by omega
    have hlo : i < out.length := by omega
    have hs := sum_take_succ out i hlo
    have hvi := hv i hl
    rw [rdI out i hlo] at hvi
    have hb := sum_take_le ho.2.2.1 i
    have hb2 := sum_take_le ho.2.2.1 (i + 1)
    have h16 := ho.2.2.2
    refine Ev.step (fun k => (squelchlaw03_FreqAgain.l0.eq_2 ..).trans ((if_pos (by omega)).trans ((if_pos (by omega)).trans (if_pos (by omega))))) ?_
    refine Ev.bind (span_ev _ hc _) ?_
    rw [spn_ps ho i hlo]
    refine Ev.congr (fun k => ?_) (ih (i + 1) (by omega))
    dsimp only
    rw [rdI l i hl, hs, w64' _ (by omega) (by omega), w64' (2 * l[i]) (by omega) (by omega), w64' (2 * l[i] + 1) (by omega) (by omega), if_pos (by omega), if_pos rfl, cast1, w64' _ (by omega) (by omega)]

theorem FreqAgain : squelchlaw03_FreqAgain.Pure := by
  intro l hl
  refine Ev.rounds (g := fun k => squelchlaw03_FreqAgain.f k l) ?_
  unfold squelchlaw03_FreqAgain.f
  refine Ev.bind live_ev ?_
  refine Ev.congr (fun k => by rw [if_pos rfl]) ?_
  refine Ev.bind (new_ev l) ?_
  have bad : ∀ c, Ev (fun k => squelchlaw03_FreqAgain.j0 k l true true c) true := fun c => Ev.step (f := fun _ => some true) (fun k => by rw [squelchlaw03_FreqAgain.j0, if_pos rfl]) (Ev.now _)
  by_cases h : Fits l
  · rw [show new_ l = _ from if_pos h]
    refine Ev.congr (fun k => by rw [if_pos rfl]) ?_
    have hc : (ps 0 l).length ≤ 9223372036854775807 := by rw [ps_length]; have := h.2.1; omega
    refine Ev.bind (total_ev _ hc) ?_
    rw [tot_ps h]
    by_cases h8 : l.sum > 8000
    · rw [decide_eq_true h8]
      exact bad _
    · rw [decide_eq_false h8]
      have h1 := h.1
      have h256 := h.2.1
      have hpos := h.2.2.1
      have hcnt : Cnt l := fun c hm => by
        have := hpos c hm
        have h9 : c ≤ l.sum := by
          have : ∀ l' : List Int, (∀ m ∈ l', 1 ≤ m) → ∀ m ∈ l', m ≤ l'.sum := by
            intro l'
            induction l' with
            | nil => intro _ m hm; cases hm
            | cons n r ih =>
              intro hp m hm
              have s1 := sum_nonneg (l := r) (fun q hq => hp q (List.mem_cons_of_mem _ hq))
              have s2 := hp n List.mem_cons_self
              rw [List.sum_cons]
              rcases List.mem_cons.1 hm with rfl | hm
              · omega
              · have := ih (fun q hq => hp q (List.mem_cons_of_mem _ hq)) m hm
                omega
          exact this l hpos c hm
        omega
      have hsp : 1 ≤ l.sum := by
        have : ∀ l' : List Int, (∀ m ∈ l', 1 ≤ m) → 1 ≤ l'.length → 1 ≤ l'.sum := by
          intro l' hp hl1
          cases l' with
          | nil => simp at hl1
          | cons n r =>
            have s1 := sum_nonneg (l := r) (fun q hq => hp q (List.mem_cons_of_mem _ hq))
            have s2 := hp n List.mem_cons_self
            rw [List.sum_cons]
            omega
        exact this l hpos h1
      obtain ⟨out, o1, o2, o3, o4, q, e, o5, o6, o7⟩ := scale_ev (2 * l.sum + l.length) l h1 h256 (by omega) (by omega) hcnt
      have hrest : 2 * l.sum + (l.length : Int) - l.length = 2 * l.sum := by omega
      rw [hrest] at o6 o7
      have hpt : ∀ c, pt l.sum (2 * l.sum) c = 2 * c := fun c => by
        rw [pt, if_neg (by omega), show c * (2 * l.sum) = 2 * c * l.sum by rw [← Int.mul_assoc, Int.mul_comm c 2], Int.mul_ediv_cancel _ (by omega)]
      have hsum2 : (l.map (pt l.sum (2 * l.sum))).sum = 2 * l.sum := by
        rw [show (pt l.sum (2 * l.sum)) = fun c => 2 * c from funext hpt]
        have : ∀ l' : List Int, (l'.map fun c => 2 * c).sum = 2 * l'.sum := by
          intro l'
          induction l' with
          | nil => rfl
          | cons n r ih => rw [List.map_cons, List.sum_cons, ih, List.sum_cons]; omega
        exact this l
      obtain ⟨q0, e0⟩ := o7 hsum2
      refine Ev.step (fun k => (squelchlaw03_FreqAgain.j0.eq_2 ..).trans (if_neg Bool.false_ne_true)) ?_
      refine Ev.bind (total_ev _ hc) ?_
      rw [tot_ps h, w64' (2 * l.sum) (by omega) (by omega), w64' (2 * l.sum + l.length) (by omega) (by omega)]
      refine Ev.bind o4 ?_
      refine Ev.congr (fun k => by rw [if_pos rfl]) ?_
      exact again_l0 l out h o2 o1 (fun s hs => by rw [o6 s hs, hpt, q0, e0 s hs]; omega) l.length 0 (by omega)
  · rw [show new_ l = _ from if_neg h]
    exact Ev.congr (fun k => by rw [if_neg (by decide)]) (bad _)
end Go.Proofs.Ytdhckdeojplghaa.Pure
