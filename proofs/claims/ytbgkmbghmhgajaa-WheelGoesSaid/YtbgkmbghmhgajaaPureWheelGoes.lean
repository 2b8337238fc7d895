/- Turned in several goes, the same ring, in the same order; for all wheels. -/
import Derived.Test.YtbgkmbghmhgajaaPAx14
import Derived.Test.YtbgkmbghmhgajaaWt
set_option linter.unusedVariables false
set_option linter.unusedSimpArgs false
namespace Go.Proofs.Ytbgkmbghmhgajaa.Pure
open Go.RowKit Go.Proofs.Ytbgkmbghmhgajaa.PA Go.Proofs.YtbgkmbghmhgajaaW.PrintWords Go.Proofs.YtbgkmbghmhgajaaW.PrintLast Go.Proofs.Ytbgkmbghmhgajaa.WT

theorem drop_drop (c d : Int) (h : c ≤ d) (l : List S33) : (l.dropWhile (isDue c)).dropWhile (isDue d) = l.dropWhile (isDue d) := by
  induction l with
  | nil => rfl
  | cons x r ih =>
    by_cases hx : isDue c x = true
    · have hd : isDue d x = true := decide_eq_true (by have := of_decide_eq_true hx; omega)
      rw [List.dropWhile_cons, if_pos hx, ih, List.dropWhile_cons, if_pos hd]
    · rw [List.dropWhile_cons, if_neg hx]
theorem take_take (c d : Int) (h : c ≤ d) (l : List S33) : l.takeWhile (isDue c) ++ (l.dropWhile (isDue c)).takeWhile (isDue d) = l.takeWhile (isDue d) := by
  induction l with
  | nil => rfl
  | cons x r ih =>
    by_cases hx : isDue c x = true
    · have hd : isDue d x = true := decide_eq_true (by have := of_decide_eq_true hx; omega)
      rw [List.takeWhile_cons, if_pos hx, List.dropWhile_cons, if_pos hx, List.takeWhile_cons, if_pos hd, List.cons_append, ih]
    · rw [List.takeWhile_cons, if_neg hx, List.dropWhile_cons, if_neg hx]
      rfl
theorem tm_range (g : Int) : 0 ≤ Int.tmod (wrap64 (Int.tmod g 100 + 100)) 100 ∧ Int.tmod (wrap64 (Int.tmod g 100 + 100)) 100 < 100 := by
  have h1 := Int.tmod_lt_of_pos g (show (0 : Int) < 100 by decide)
  have h2 : -100 < Int.tmod g 100 := Int.lt_tmod_of_pos g (by decide)
  rw [w64' _ (by omega) (by omega)]
  exact ⟨Int.tmod_nonneg _ (by omega), Int.tmod_lt_of_pos _ (by decide)⟩
theorem same_l0 (l : List S33) (hl : l.length ≤ 256) (d : Nat) : ∀ i : Nat, i + d = l.length → Ev (fun k => squelchref16_SameTimers.l0 k l l (l.length : Int) (i : Int)) true := by
  induction d with
  | zero => exact fun i hi => Ev.step (f := fun _ => some true) (fun k => by rw [squelchref16_SameTimers.l0, if_neg (by omega)]) (Ev.now _)
  | succ d ih =>
    intro i hi
    have hil : i < l.length := by omega
    refine Ev.step (fun k => ?_) (ih (i + 1) (by omega))
    rw [squelchref16_SameTimers.l0, if_pos (by omega), if_pos (by omega), if_pos (by omega), if_pos (by omega), if_neg (by simp), sx i (by omega)]
theorem same_ev (l : List S33) (hl : l.length ≤ 256) : Ev (fun k => squelchref16_SameTimers.f k l l) true := by
  unfold squelchref16_SameTimers.f
  simp only [if_true]
  exact same_l0 l hl l.length 0 (Nat.zero_add _)
theorem equal_l0 (l : List S33) (hl : l.length ≤ 256) (d : Nat) : ∀ i : Nat, i + d = l.length → Ev (fun k => api_Timer_21.l0 k l l (l.length : Int) (i : Int)) true := by
  induction d with
  | zero => exact fun i hi => Ev.step (f := fun _ => some true) (fun k => by rw [api_Timer_21.l0, if_neg (by omega)]) (Ev.now _)
  | succ d ih =>
    intro i hi
    have hil : i < l.length := by omega
    refine Ev.step (fun k => ?_) (ih (i + 1) (by omega))
    rw [api_Timer_21.l0, if_pos (by omega), if_pos (by omega), if_pos (by omega), if_pos (by omega), if_neg (by simp), sx i (by omega)]
theorem wsame_ev {a : Int} {l : List S33} (h : Valid a l) : Ev (fun k => wheel_Same.f k a l a l) true := by
  unfold wheel_Same.f api_Timer_21.f
  simp only [if_true]
  refine Ev.bind (equal_l0 l h.len l.length 0 (Nat.zero_add _)) ?_
  simp only [if_true]
  refine Ev.bind (check_ev h) ?_
  exact Ev.now _

theorem goes_l0 {a : Int} {l : List S33} (h : Valid a l) (g : List Int) (hg : g.length ≤ 50) (d : Nat) : ∀ (i : Nat) (all : Int), i + d = g.length → 0 ≤ all → all ≤ 100 * (i : Int) → a + all ≤ 1099511627776 →
    Ev (fun k => squelchlaw16_WheelGoes.l0 k true all (l.takeWhile (isDue (a + all))) g (g.length : Int) (i : Int) a l (a + all) (l.dropWhile (isDue (a + all)))) true := by
  have ha := h.a0
  have hln := h.len
  have htl : ∀ c, (l.takeWhile (isDue c)).length ≤ 256 := fun c => Nat.le_trans (List.takeWhile_sublist _).length_le hln
  induction d with
  | zero =>
    intro i all hi h0 hi2 hx
    have hT := turn_ev h all (by omega) (by omega)
    rw [if_neg (by omega)] at hT
    refine Ev.step (f := fun k => (wheel_Turn.f k a l all).bind fun bt304 => (if bt304.2.2.2 = 0 then ((squelchref16_SameTimers.f k bt304.2.2.1 (l.takeWhile (isDue (a + all)))).bind fun t313 => (if t313 = true then ((wheel_Same.f k (a + all) (l.dropWhile (isDue (a + all))) bt304.1 bt304.2.1).bind fun t314 => (some t314)) else (some false))) else (some false))) (fun k => ?_) ?_
    · rw [squelchlaw16_WheelGoes.l0, if_neg (by omega)]
      simp only [if_true]
    · refine Ev.bind hT ?_
      simp only [if_true]
      refine Ev.bind (same_ev _ (htl _)) ?_
      simp only [if_true]
      exact Ev.bind (wsame_ev (h.later all h0 hx)) (Ev.now _)
  | succ d ih =>
    intro i all hi h0 hi2 hx
    have hil : i < g.length := by omega
    obtain ⟨m0, m1⟩ := tm_range g[i]
    obtain ⟨m, hm⟩ : ∃ m, Int.tmod (wrap64 (Int.tmod g[i] 100 + 100)) 100 = m := ⟨_, rfl⟩
    rw [hm] at m0 m1
    have hV := h.later all h0 hx
    have hT := turn_ev hV m (by omega) (by omega)
    have hstep : ∀ q, Ev (fun k => (wheel_Turn.f k (a + all) (l.dropWhile (isDue (a + all))) m).bind fun bt292 => (if bt292.2.2.2 = 0 then (if (l.takeWhile (isDue (a + all))).length + bt292.2.2.1.length < 8796093022208 then (squelchlaw16_WheelGoes.l0 k true (all + m) (l.takeWhile (isDue (a + all)) ++ bt292.2.2.1) g (g.length : Int) ((i + 1 : Nat) : Int) a l bt292.1 bt292.2.1) else (none)) else (some (decide (a + all + m > 1099511627776))))) q → Ev (fun k => squelchlaw16_WheelGoes.l0 k true all (l.takeWhile (isDue (a + all))) g (g.length : Int) (i : Int) a l (a + all) (l.dropWhile (isDue (a + all)))) q := by
      intro q hq
      refine Ev.step (fun k => ?_) hq
      rw [squelchlaw16_WheelGoes.l0, if_pos (by omega), if_pos (by omega), if_pos (by omega), rdI g i hil, hm, w64' (all + m) (by omega) (by omega), w64' (a + all) (by omega) (by omega), w64' (a + all + m) (by omega) (by omega), sx i (by omega)]
      simp only [if_true]
    refine hstep true ?_
    by_cases hc : m < 0 ∨ 1099511627776 - (a + all) < m
    · rw [if_pos hc] at hT
      refine Ev.bind hT ?_
      simp only [if_neg (show ¬ ((1 : Int) = 0) by decide), decide_eq_true (show a + all + m > 1099511627776 by omega)]
      exact Ev.now _
    · rw [if_neg hc, drop_drop (a + all) (a + all + m) (by omega)] at hT
      refine Ev.bind hT ?_
      have q1 := htl (a + all)
      have q2 : ((l.dropWhile (isDue (a + all))).takeWhile (isDue (a + all + m))).length ≤ 256 := Nat.le_trans (List.takeWhile_sublist _).length_le hV.len
      simp only [if_true, if_pos (show (l.takeWhile (isDue (a + all))).length + ((l.dropWhile (isDue (a + all))).takeWhile (isDue (a + all + m))).length < 8796093022208 by omega), take_take (a + all) (a + all + m) (by omega)]
      have := ih (i + 1) (all + m) (by omega) (by omega) (by omega) (by omega)
      rw [← Int.add_assoc] at this
      exact this

theorem WheelGoes : squelchlaw16_WheelGoes.Pure := by
  intro a l g _ _ _
  refine Ev.rounds (g := fun k => squelchlaw16_WheelGoes.f k a l g) ?_
  unfold squelchlaw16_WheelGoes.f
  refine Ev.bind live_ev ?_
  simp only [if_true]
  obtain ⟨r, hr, hv⟩ := ref_ev a l
  refine Ev.bind hr ?_
  by_cases hr0 : r = 0
  · have h := hv hr0
    simp only [if_pos hr0]
    by_cases hg : (g.length : Int) > 50
    · simp only [decide_eq_true hg]
      exact Ev.step (f := fun _ => some true) (fun k => by rw [squelchlaw16_WheelGoes.j0, if_pos rfl]) (Ev.now _)
    · simp only [decide_eq_false hg]
      have hnone : ∀ t ∈ l, isDue a t = false := fun t ht => decide_eq_false (by have := h.each t ht; omega)
      have e1 : l.dropWhile (isDue a) = l := by
        cases l with
        | nil => rfl
        | cons x q => rw [List.dropWhile_cons, if_neg (by rw [hnone x (by simp)]; decide)]
      have e2 : l.takeWhile (isDue a) = [] := by
        cases l with
        | nil => rfl
        | cons x q => rw [List.takeWhile_cons, if_neg (by rw [hnone x (by simp)]; decide)]
      have hG := goes_l0 h g (by omega) g.length 0 0 (Nat.zero_add _) (by omega) (by omega) (by have := h.a1; omega)
      rw [Int.add_zero, e1, e2] at hG
      refine Ev.step (fun k => ?_) hG
      rw [squelchlaw16_WheelGoes.j0, if_neg (by decide)]
      rfl
  · simp only [if_neg hr0]
    exact Ev.step (f := fun _ => some true) (fun k => by rw [squelchlaw16_WheelGoes.j0, if_pos rfl]) (Ev.now _)
end Go.Proofs.Ytbgkmbghmhgajaa.Pure
