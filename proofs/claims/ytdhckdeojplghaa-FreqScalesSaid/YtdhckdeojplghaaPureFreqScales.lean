/- Scaled, the total is just that; each symbol has one at least; one with more has no less, but for one; for all counts. -/
import Derived.Test.YtdhckdeojplghaaPAx13
import Derived.Test.YtdhckdeojplghaaFtS
set_option linter.unusedVariables false
set_option linter.unusedSimpArgs false
namespace Go.Proofs.Ytdhckdeojplghaa.Pure
open Go.RowKit Go.Sort Go.Proofs.Ytdhckdeojplghaa.PA Go.Proofs.YtdhckdeojplghaaW.PrintWords Go.Proofs.YtdhckdeojplghaaW.PrintLast Go.Proofs.Ytdhckdeojplghaa.FT

theorem scales_l1 (l out : List Int) (hlen : out.length = l.length) (ho : Fits out) (hmono : ∀ s t (hs : s < l.length) (ht : t < l.length), (l[s] > l[t] → rd out (s : Int) ≥ rd out (t : Int) - 1) ∧ (l[s] = l[t] → rd out (s : Int) ≤ rd out (t : Int) + 1 ∧ rd out (t : Int) ≤ rd out (s : Int) + 1))
    (s : Nat) (hs : s < l.length) (hn : Ev (fun k => squelchlaw03_FreqScales.l0 k l true (l.length : Int) ((s + 1 : Nat) : Int) (ps 0 out)) true) (d : Nat) :
    ∀ t : Nat, t + d = l.length → Ev (fun k => squelchlaw03_FreqScales.l1 k l true (s : Int) (l.length : Int) (s : Int) (l.length : Int) (t : Int) (ps 0 out)) true := by
  have h256 := ho.2.1
  have hso : s < out.length := by omega
  have h16 := ho.2.2.2
  induction d with
  | zero =>
    intro t ht
    refine Ev.step (fun k => ?_) hn
    rw [squelchlaw03_FreqScales.l1, if_neg (by omega), cast1, w64' _ (by omega) (by omega)]
  | succ d ih =>
    intro t ht
    have htl : t < l.length := by omega
    have hto : t < out.length := by omega
    have o1 := ho.2.2.1 out[s] (List.getElem_mem hso)
    have o2 := ho.2.2.1 out[t] (List.getElem_mem hto)
    have o3 : out[s] ≤ 16384 ∧ out[t] ≤ 16384 := by
      have e1 := sum_take_succ out s hso
      have b1 := sum_take_le ho.2.2.1 s
      have b2 := sum_take_le ho.2.2.1 (s + 1)
      have e2 := sum_take_succ out t hto
      have b3 := sum_take_le ho.2.2.1 t
      have b4 := sum_take_le ho.2.2.1 (t + 1)
      exact ⟨by omega, by omega⟩
    have hpl := ps_length out 0
    have hd1 : t + 1 + d = l.length := by omega
    have g1 : (t : Int) < (l.length : Int) := by omega
    have g2 : (0 : Int) ≤ ((s + 1 : Nat) : Int) := by omega
    have g3 : ((s + 1 : Nat) : Int) < ((ps 0 out).length : Int) := by omega
    have g4 : (0 : Int) ≤ (s : Int) := by omega
    have g5 : (s : Int) < ((ps 0 out).length : Int) := by omega
    have g6 : (0 : Int) ≤ ((t + 1 : Nat) : Int) := by omega
    have g7 : ((t + 1 : Nat) : Int) < ((ps 0 out).length : Int) := by omega
    have g8 : (0 : Int) ≤ (t : Int) := by omega
    have g9 : (t : Int) < ((ps 0 out).length : Int) := by omega
    have ga : (s : Int) < (l.length : Int) := by omega
    have v1 : wrap64 (out[t] - 1) = out[t] - 1 := w64' _ (by omega) (by omega)
    have v2 : wrap64 (out[t] + 1) = out[t] + 1 := w64' _ (by omega) (by omega)
    have v3 : wrap64 (out[s] + 1) = out[s] + 1 := w64' _ (by omega) (by omega)
    have hx : wrap64 (rd (ps 0 out) ((s + 1 : Nat) : Int) - rd (ps 0 out) (s : Int)) = out[s] := by
      have e1 := sum_take_succ out s hso
      have b1 := sum_take_le ho.2.2.1 s
      have b2 := sum_take_le ho.2.2.1 (s + 1)
      rw [rd_ps out 0 _ (by omega), rd_ps out 0 _ (by omega), w64' _ (by omega) (by omega)]; omega
    have hy : wrap64 (rd (ps 0 out) ((t + 1 : Nat) : Int) - rd (ps 0 out) (t : Int)) = out[t] := by
      have e2 := sum_take_succ out t hto
      have b3 := sum_take_le ho.2.2.1 t
      have b4 := sum_take_le ho.2.2.1 (t + 1)
      rw [rd_ps out 0 _ (by omega), rd_ps out 0 _ (by omega), w64' _ (by omega) (by omega)]; omega
    have ws : wrap64 ((s : Int) + 1) = ((s + 1 : Nat) : Int) := by rw [cast1, w64' _ (by omega) (by omega)]
    have wt : wrap64 ((t : Int) + 1) = ((t + 1 : Nat) : Int) := by rw [cast1, w64' _ (by omega) (by omega)]
    refine Ev.step (fun k => ?_) (ih (t + 1) hd1)
    rw [squelchlaw03_FreqScales.l1, if_pos g1, ws, wt, hx, hy, if_pos g2, if_pos g3, if_pos g4, if_pos g5, if_pos g6, if_pos g7, if_pos g8, if_pos g9, if_pos ga, if_pos g1, rdI l s hs, rdI l t htl, v1, v2, v3]
    clear hx hy ws wt v1 v2 v3 g1 g2 g3 g4 g5 g6 g7 g8 g9 ga
    have m := hmono s t hs htl
    rw [rdI out s hso, rdI out t hto] at m
    obtain ⟨m1, m2⟩ := m
    by_cases c1 : l[s] > l[t]
    · rw [if_pos c1, if_neg (by have := m1 c1; omega), if_neg (by omega)]
    · rw [if_neg c1]
      by_cases c2 : l[s] = l[t]
      · have := m2 c2
        rw [if_pos c2, if_neg (by omega), if_neg (by omega)]
      · rw [if_neg c2]
theorem scales_l0 (l out : List Int) (hlen : out.length = l.length) (ho : Fits out) (hmono : ∀ s t (hs : s < l.length) (ht : t < l.length), (l[s] > l[t] → rd out (s : Int) ≥ rd out (t : Int) - 1) ∧ (l[s] = l[t] → rd out (s : Int) ≤ rd out (t : Int) + 1 ∧ rd out (t : Int) ≤ rd out (s : Int) + 1)) (d : Nat) :
    ∀ s : Nat, s + d = l.length → Ev (fun k => squelchlaw03_FreqScales.l0 k l true (l.length : Int) (s : Int) (ps 0 out)) true := by
  induction d with
  | zero =>
    intro s hs
    exact Ev.step (f := fun _ => some true) (fun k => by rw [squelchlaw03_FreqScales.l0, if_neg (by omega)]) (Ev.now _)
  | succ d ih =>
    intro s hs
    refine Ev.step (fun k => ?_) (scales_l1 l out hlen ho hmono s (by omega) (ih (s + 1) (by omega)) l.length 0 (by omega))
    rw [squelchlaw03_FreqScales.l0, if_pos (by omega)]
    rfl
theorem FreqScales : squelchlaw03_FreqScales.Pure := by
  intro t l _ hl
  refine Ev.rounds (g := fun k => squelchlaw03_FreqScales.f k t l) ?_
  unfold squelchlaw03_FreqScales.f
  refine Ev.bind live_ev ?_
  refine Ev.congr (fun k => by rw [if_pos rfl]) ?_
  by_cases h3 : (l.length : Int) > 300
  · exact Ev.congr (fun k => by rw [if_pos h3]) (Ev.now _)
  refine Ev.congr (fun k => by rw [if_neg h3]) ?_
  by_cases h : 1 ≤ l.length ∧ l.length ≤ 256 ∧ (l.length : Int) ≤ t ∧ t ≤ 16384 ∧ Cnt l
  · obtain ⟨h1, h256, h4, h5, hc⟩ := h
    obtain ⟨out, o1, o2, o3, o4, q, e, o5, o6, _⟩ := scale_ev t l h1 h256 h4 h5 hc
    have hp : (ps 0 out).length ≤ 9223372036854775807 := by rw [ps_length]; omega
    have hsum := cnt_sum hc
    refine Ev.bind o4 ?_
    refine Ev.congr (fun k => by rw [if_pos rfl]) ?_
    refine Ev.bind (rcheck_ev _ hp) ?_
    rw [ok1_t (good_ps o2)]
    refine Ev.congr (fun k => by rw [if_pos rfl]) ?_
    refine Ev.bind (total_ev _ hp) ?_
    rw [tot_ps o2, o3]
    refine Ev.congr (f := fun k => squelchlaw03_FreqScales.j0 k l true false (ps 0 out)) (fun k => ?_) ?_
    · rw [if_pos rfl]
      have : (((ps 0 out).length : Int) != wrap64 ((l.length : Int) + 1)) = false := by
        rw [ps_length, w64' _ (by omega) (by omega), o1]
        simp
      dsimp only
      rw [this]
    refine Ev.step (fun k => (squelchlaw03_FreqScales.j0.eq_2 ..).trans (if_neg Bool.false_ne_true)) ?_
    refine scales_l0 l out o1 o2 (fun s u hs hu => ⟨fun hgt => ?_, fun heq => ?_⟩) l.length 0 (by omega)
    · rw [o6 s hs, o6 u hu]
      have p := pt_mono (all := l.sum) (rest := t - l.length) hsum.1 (show l[u] ≤ l[s] by omega) (by omega)
      have e1 := o5 s
      have e2 := o5 u
      omega
    · rw [o6 s hs, o6 u hu, heq]
      have e1 := o5 s
      have e2 := o5 u
      omega
  · refine Ev.bind (scale_no t l (by omega) h) ?_
    exact Ev.congr (fun k => by rw [if_neg (by decide)]; rfl) (Ev.now _)
end Go.Proofs.Ytdhckdeojplghaa.Pure
