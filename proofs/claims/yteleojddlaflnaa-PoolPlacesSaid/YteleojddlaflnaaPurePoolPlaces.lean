/- Each datagram is among those to whom it is; one taken away, all others stay in their order; for all pools. -/
import Derived.Test.YteleojddlaflnaaPAx7
import Derived.Test.YteleojddlaflnaaPt
set_option linter.unusedVariables false
set_option linter.unusedSimpArgs false
namespace Go.Proofs.Yteleojddlaflnaa.Pure
open Go.RowKit Go.Proofs.Yteleojddlaflnaa.PA Go.Proofs.YteleojddlaflnaaW.PrintWords Go.Proofs.YteleojddlaflnaaW.PrintLast Go.Proofs.Yteleojddlaflnaa.PT

theorem squelchlaw21_PoolPlaces.j0_e (k : Nat) (x1 : Int) (x5 : Bool) (x30 : Bool) (x219000 : Int) (x219001 : List (S31)) : squelchlaw21_PoolPlaces.j0 (k + 1) x1 x5 x30 x219000 x219001 = (if x30 = true then (some x5) else (if (x219001.length : Int) = 0 then (none) else (if 0 ≤ (Int.tmod (wrap64 ((Int.tmod x1 (x219001.length : Int)) + (x219001.length : Int))) (x219001.length : Int)) then (if (Int.tmod (wrap64 ((Int.tmod x1 (x219001.length : Int)) + (x219001.length : Int))) (x219001.length : Int)) < (x219001.length : Int) then ((pool_To.f k x219000 x219001 ((rd_T31 x219001 (Int.tmod (wrap64 ((Int.tmod x1 (x219001.length : Int)) + (x219001.length : Int))) (x219001.length : Int))).f0)).bind fun t223 => (squelchlaw21_PoolPlaces.l0 k (Int.tmod (wrap64 ((Int.tmod x1 (x219001.length : Int)) + (x219001.length : Int))) (x219001.length : Int)) x5 ((rd_T31 x219001 (Int.tmod (wrap64 ((Int.tmod x1 (x219001.length : Int)) + (x219001.length : Int))) (x219001.length : Int))).f0) t223 0 x219001 (x219001.length : Int) 0 x219000 x219001)) else (none)) else (none)))) := rfl
theorem squelchlaw21_PoolPlaces.l0_e (k : Nat) (x1 : Int) (x5 : Bool) (x6 : Int) (x7 : List Int) (x8 : Int) (x55 : List (S31)) (x56 : Int) (x57 : Int) (x219000 : Int) (x219001 : List (S31)) : squelchlaw21_PoolPlaces.l0 (k + 1) x1 x5 x6 x7 x8 x55 x56 x57 x219000 x219001 = (if x57 < x56 then (if 0 ≤ x57 then (if x57 < (x55.length : Int) then (if ((rd_T31 x55 x57).f0) = x6 then (if x8 ≥ (x7.length : Int) then (some false) else (if 0 ≤ x8 then (if x8 < (x7.length : Int) then (if (rd x7 x8) = x57 then (squelchlaw21_PoolPlaces.l0 k x1 x5 x6 x7 (wrap64 (x8 + 1)) x55 x56 (wrap64 (x57 + 1)) x219000 x219001) else (some false)) else (none)) else (none))) else (squelchlaw21_PoolPlaces.l0 k x1 x5 x6 x7 x8 x55 x56 (wrap64 (x57 + 1)) x219000 x219001)) else (none)) else (none)) else ((pool_Take.f k x219000 x219001 x1).bind fun bt229 => (if bt229.2.2.2.2 = 0 then (if x8 = (x7.length : Int) then (if 0 ≤ x1 then (if x1 < (x219001.length : Int) then ((squelchref21_SameGram.f bt229.2.2.1 bt229.2.2.2.1 ((rd_T31 x219001 x1).f0) ((rd_T31 x219001 x1).f1)).bind fun t241 => (if t241 = true then (squelchlaw21_PoolPlaces.j2 k x1 x5 x6 x8 ((bt229.2.1.length : Int) != (wrap64 ((x219001.length : Int) - 1))) x219000 x219001 bt229.1 bt229.2.1) else (squelchlaw21_PoolPlaces.j2 k x1 x5 x6 x8 true x219000 x219001 bt229.1 bt229.2.1))) else (none)) else (none)) else (squelchlaw21_PoolPlaces.j2 k x1 x5 x6 x8 true x219000 x219001 bt229.1 bt229.2.1)) else (squelchlaw21_PoolPlaces.j2 k x1 x5 x6 x8 true x219000 x219001 bt229.1 bt229.2.1)))) := rfl
theorem squelchlaw21_PoolPlaces.j2_e (k : Nat) (x1 : Int) (x5 : Bool) (x6 : Int) (x8 : Int) (x115 : Bool) (x219000 : Int) (x219001 : List (S31)) (x239000 : Int) (x239001 : List (S31)) : squelchlaw21_PoolPlaces.j2 (k + 1) x1 x5 x6 x8 x115 x219000 x219001 x239000 x239001 = (if x115 = true then (some false) else (squelchlaw21_PoolPlaces.l1 k x1 x5 x6 x8 (x239001.length : Int) 0 x219000 x219001 x239000 x239001)) := rfl
theorem squelchlaw21_PoolPlaces.l1_e (k : Nat) (x1 : Int) (x5 : Bool) (x6 : Int) (x8 : Int) (x118 : Int) (x119 : Int) (x219000 : Int) (x219001 : List (S31)) (x239000 : Int) (x239001 : List (S31)) : squelchlaw21_PoolPlaces.l1 (k + 1) x1 x5 x6 x8 x118 x119 x219000 x219001 x239000 x239001 = (if x119 < x118 then (if x119 ≥ x1 then (if 0 ≤ x119 then (if x119 < (x239001.length : Int) then (if 0 ≤ (wrap64 (x119 + 1)) then (if (wrap64 (x119 + 1)) < (x219001.length : Int) then ((squelchref21_SameGram.f ((rd_T31 x239001 x119).f0) ((rd_T31 x239001 x119).f1) ((rd_T31 x219001 (wrap64 (x119 + 1))).f0) ((rd_T31 x219001 (wrap64 (x119 + 1))).f1)).bind fun t247 => (if t247 = true then (squelchlaw21_PoolPlaces.l1 k x1 x5 x6 x8 x118 (wrap64 (x119 + 1)) x219000 x219001 x239000 x239001) else (some false))) else (none)) else (none)) else (none)) else (none)) else (if 0 ≤ x119 then (if x119 < (x239001.length : Int) then (if x119 < (x219001.length : Int) then ((squelchref21_SameGram.f ((rd_T31 x239001 x119).f0) ((rd_T31 x239001 x119).f1) ((rd_T31 x219001 x119).f0) ((rd_T31 x219001 x119).f1)).bind fun t250 => (if t250 = true then (squelchlaw21_PoolPlaces.l1 k x1 x5 x6 x8 x118 (wrap64 (x119 + 1)) x219000 x219001 x239000 x239001) else (some false))) else (none)) else (none)) else (none))) else (if x5 = true then ((pool_To.f k x239000 x239001 x6).bind fun t242 => (some ((t242.length : Int) == (wrap64 (x8 - 1))))) else (some false))) := rfl

theorem live_ev : Ev (fun k => squelchlaw21_live.f k) true := Ev.of squelchlaw21_live.mono (k := 8) (by decide +kernel)
theorem w_succ (j : Nat) (h : j ≤ 1000000) : wrap64 ((j : Int) + 1) = ((j + 1 : Nat) : Int) := by rw [w64' _ (by omega) (by omega)]; rfl
theorem places_l1 (i : Nat) (who x8 : Int) (m : Int) (l : List S31) (h : Ok m l) (hi : i < l.length) (ht : l[i].f0 = who) (h8 : x8 = ((pls l who l.length).length : Int)) (d : Nat) :
    ∀ j : Nat, j + d = (l.eraseIdx i).length → Ev (fun k => squelchlaw21_PoolPlaces.l1 k (i : Int) true who x8 ((l.eraseIdx i).length : Int) (j : Int) m l m (l.eraseIdx i)) true := by
  have hlen : l.length ≤ 256 := by obtain ⟨_, h2, h3, _⟩ := h; omega
  have hel := List.length_eraseIdx_of_lt hi
  induction d with
  | zero =>
    intro j hj
    refine Ev.step (f := fun k => (pool_To.f k m (l.eraseIdx i) who).bind fun t => some ((t.length : Int) == wrap64 (x8 - 1))) (fun k => ?_) ?_
    · rw [squelchlaw21_PoolPlaces.l1_e, if_neg (by omega), if_pos rfl]
    · refine Ev.bind (to_ok (erase_ok h i hi) who) ?_
      have hc := erase_count l i hi
      have hp := pls_le l who l.length
      rw [ht] at hc
      have : ((pls (l.eraseIdx i) who (l.eraseIdx i).length).length : Int) = wrap64 (x8 - 1) := by rw [w64' _ (by omega) (by omega)]; omega
      simp only [this, beq_self_eq_true]
      exact Ev.now _
  | succ d ih =>
    intro j hj
    have hjl : j < (l.eraseIdx i).length := by omega
    refine Ev.step (fun k => ?_) (ih (j + 1) (by omega))
    rw [squelchlaw21_PoolPlaces.l1_e, if_pos (by omega)]
    by_cases hji : (j : Int) ≥ (i : Int)
    · rw [if_pos hji, if_pos (by omega), if_pos (by omega), w_succ j (by omega), if_pos (by omega), if_pos (by omega), rdT _ j hjl, rdT l (j + 1) (by omega)]
      have e : (l.eraseIdx i)[j] = l[j + 1]'(by omega) := by rw [List.getElem_eraseIdx, dif_neg (by omega)]
      rw [e, same_f]
      simp
    · rw [if_neg hji, if_pos (by omega), if_pos (by omega), if_pos (by omega), rdT _ j hjl, rdT l j (by omega)]
      have e : (l.eraseIdx i)[j] = l[j]'(by omega) := by rw [List.getElem_eraseIdx, dif_pos (by omega)]
      rw [e, same_f, w_succ j (by omega)]
      simp
theorem places_l0 (i : Nat) (who : Int) (m : Int) (l : List S31) (h : Ok m l) (hi : i < l.length) (ht : l[i].f0 = who) (d : Nat) :
    ∀ j : Nat, j + d = l.length → Ev (fun k => squelchlaw21_PoolPlaces.l0 k (i : Int) true who (pls l who l.length) ((pls l who j).length : Int) l (l.length : Int) (j : Int) m l) true := by
  have hlen : l.length ≤ 256 := by obtain ⟨_, h2, h3, _⟩ := h; omega
  have hel := List.length_eraseIdx_of_lt hi
  induction d with
  | zero =>
    intro j hj
    obtain rfl : j = l.length := by omega
    refine Ev.step (f := fun k => (pool_Take.f k m l (i : Int)).bind fun bt229 => _) (fun k => by rw [squelchlaw21_PoolPlaces.l0_e, if_neg (by omega)]) ?_
    refine Ev.bind (take_ok h i hi) ?_
    simp only [if_true]
    refine Ev.congr (f := fun k => squelchlaw21_PoolPlaces.j2 k (i : Int) true who ((pls l who l.length).length : Int) false m l m (l.eraseIdx i)) (fun k => ?_) (Ev.step (fun k => ?_) (places_l1 i who _ m l h hi ht rfl (l.eraseIdx i).length 0 (by omega)))
    · rw [if_pos (by omega), if_pos (by omega), rdT l i hi, same_f]
      simp only [Option.bind_some, if_true]
      have : (((l.eraseIdx i).length : Int) != wrap64 ((l.length : Int) - 1)) = false := by rw [w64' _ (by omega) (by omega), bne_eq_false_iff_eq]; omega
      rw [this]
    · rw [squelchlaw21_PoolPlaces.j2_e]; simp
  | succ d ih =>
    intro j hj
    have hjl : j < l.length := by omega
    refine Ev.step (fun k => ?_) (ih (j + 1) (by omega))
    have hple := pls_le l who j
    rw [squelchlaw21_PoolPlaces.l0_e, if_pos (by omega), if_pos (by omega), if_pos (by omega), rdT l j hjl, w_succ j (by omega)]
    have hs := pls_succ l who j
    rw [rdT l j hjl] at hs
    by_cases hg : l[j].f0 = who
    · rw [if_pos hg] at hs
      obtain ⟨r, hr⟩ := pls_prefix l who (j + 1) d
      rw [show j + 1 + d = l.length by omega] at hr
      have hpl : (pls l who j).length < (pls l who l.length).length := by rw [hr, hs]; simp
      have hat : (pls l who l.length)[(pls l who j).length]'hpl = (j : Int) := by
        have : (pls l who l.length)[(pls l who j).length]? = some (j : Int) := by
          rw [hr, hs, List.append_assoc, List.getElem?_append_right (Nat.le_refl _), Nat.sub_self]; rfl
        rw [List.getElem?_eq_getElem hpl] at this
        exact Option.some.inj this
      rw [if_pos hg, if_neg (by omega), if_pos (by omega), if_pos (by omega), rdI _ _ hpl, hat, if_pos rfl, w64' _ (by omega) (by omega), hs, List.length_append]
      rfl
    · rw [if_neg hg] at hs
      rw [if_neg hg, hs]
theorem places_j0T (m : Int) (l : List S31) (a1 : Int) : Ev (fun k => squelchlaw21_PoolPlaces.j0 k a1 true true m l) true :=
  Ev.step (f := fun _ => some true) (fun k => by rw [squelchlaw21_PoolPlaces.j0_e, if_pos rfl]) (Ev.now _)
theorem places_j0F (m : Int) (l : List S31) (a1 : Int) (h : Ok m l) (hne : l ≠ []) : Ev (fun k => squelchlaw21_PoolPlaces.j0 k a1 true false m l) true := by
  have hlen : l.length ≤ 256 := by obtain ⟨_, h2, h3, _⟩ := h; omega
  have hpos : 0 < l.length := List.length_pos_iff.2 hne
  have hp : (0 : Int) < (l.length : Int) := by omega
  have h1 : -(l.length : Int) < Int.tmod a1 (l.length : Int) := by have := Int.tmod_lt_of_pos (-a1) hp; rw [Int.neg_tmod] at this; omega
  have h2 : Int.tmod a1 (l.length : Int) < (l.length : Int) := Int.tmod_lt_of_pos a1 hp
  have h3 : Int.tmod (wrap64 (Int.tmod a1 (l.length : Int) + (l.length : Int))) (l.length : Int) < (l.length : Int) := Int.tmod_lt_of_pos _ hp
  have h4 : 0 ≤ Int.tmod (wrap64 (Int.tmod a1 (l.length : Int) + (l.length : Int))) (l.length : Int) := by
    rw [w64' _ (by omega) (by omega)]
    exact Int.tmod_nonneg _ (by omega)
  obtain ⟨i, hi⟩ := Int.eq_ofNat_of_zero_le h4
  rw [hi] at h3 h4
  have hil : i < l.length := by omega
  refine Ev.step (f := fun k => (pool_To.f k m l l[i].f0).bind fun t => squelchlaw21_PoolPlaces.l0 k (i : Int) true l[i].f0 t 0 l (l.length : Int) 0 m l) (fun k => ?_) ?_
  · rw [squelchlaw21_PoolPlaces.j0_e, if_neg (by simp), if_neg (by omega)]
    simp only [hi]
    rw [if_pos (by omega), if_pos (by omega), rdT l i hil]
  · refine Ev.bind (to_ok h _) ?_
    exact places_l0 i _ m l h hil rfl l.length 0 (by omega)
theorem PoolPlaces : squelchlaw21_PoolPlaces.Pure := by
  intro m l a1 h1 h2 h3
  refine Ev.rounds ?_
  obtain ⟨hl, _, _⟩ := h2
  unfold squelchlaw21_PoolPlaces.f
  refine Ev.bind live_ev ?_
  obtain ⟨b, hb⟩ := few_any m l (by omega)
  refine Ev.bind hb ?_
  by_cases hbt : b = true
  · simp only [if_pos hbt]
    obtain ⟨c, hc, h0⟩ := rcheck m l (by omega)
    refine Ev.bind hc ?_
    by_cases hc0 : c = 0
    · simp only [if_pos hc0]
      by_cases hn : l = []
      · subst hn
        exact places_j0T m [] a1
      · have : ((l.length : Int) == 0) = false := by
          have := List.length_pos_iff.2 hn
          rw [beq_eq_false_iff_ne]; omega
        rw [this]
        exact places_j0F m l a1 (h0 hc0) hn
    · simp only [if_neg hc0]
      exact places_j0T m l a1
  · simp only [if_neg hbt]
    exact places_j0T m l a1
end Go.Proofs.Yteleojddlaflnaa.Pure
