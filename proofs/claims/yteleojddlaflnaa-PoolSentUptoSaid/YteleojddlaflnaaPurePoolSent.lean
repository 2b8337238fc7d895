/- Nothing is in a pool that was not sent; for all scripts whose sendings are no more than 1,048,576. -/
import Derived.Test.YteleojddlaflnaaPAx14
import Derived.Test.YteleojddlaflnaaPt
set_option linter.unusedVariables false
set_option linter.unusedSimpArgs false
namespace Go.Proofs.Yteleojddlaflnaa.Pure
open Go.RowKit Go.Proofs.Yteleojddlaflnaa.PA Go.Proofs.YteleojddlaflnaaW.PrintWords Go.Proofs.YteleojddlaflnaaW.PrintLast Go.Proofs.Yteleojddlaflnaa.PT

theorem squelchlaw21_PoolSent.l0_e (k : Nat) (x5 : Bool) (x8 : List (S31)) (x35 : List (S42)) (x36 : Int) (x37 : Int) (x437000 : Int) (x437001 : List (S31)) : squelchlaw21_PoolSent.l0 (k + 1) x5 x8 x35 x36 x37 x437000 x437001 = (if x37 < x36 then (if 0 ≤ x37 then (if x37 < (x35.length : Int) then ((squelchlaw21_few.f k x437000 x437001 ((rd_T42 x35 x37).f3)).bind fun t439 => (if t439 = true then (if ((rd_T42 x35 x37).f0) = 5 then (squelchlaw21_PoolSent.l0 k x5 x8 x35 x36 (wrap64 (x37 + 1)) x437000 x437001) else ((squelchlaw21_body.f k x437000 x437001 ((rd_T42 x35 x37).f0) ((rd_T42 x35 x37).f1) ((rd_T42 x35 x37).f2) ((rd_T42 x35 x37).f3)).bind fun bt440 => (if bt440.2.2.2.2.2 = 0 then (if ((rd_T42 x35 x37).f0) = 0 then (if (bt440.2.2.2.2.1.length : Int) = 1 then (if 0 < (bt440.2.2.2.2.1.length : Int) then (if (rd bt440.2.2.2.2.1 0) < 0 then (some false) else (if (rd bt440.2.2.2.2.1 0) > (((rd_T42 x35 x37).f3).length : Int) then (some false) else (if (bt440.2.1.length : Int) = (wrap64 ((x437001.length : Int) + (rd bt440.2.2.2.2.1 0))) then (if 0 ≤ (rd bt440.2.2.2.2.1 0) then (if (rd bt440.2.2.2.2.1 0) ≤ (((rd_T42 x35 x37).f3).length : Int) then ((some (((rd_T42 x35 x37).f3).take ((rd bt440.2.2.2.2.1 0) : Int).toNat : List (S31))).bind fun y458 => (if x8.length + y458.length < 4398046511104 then (squelchlaw21_PoolSent.j1 k x5 (x8 ++ y458) x35 x36 x37 ((rd_T42 x35 x37).f0) ((rd_T42 x35 x37).f1) ((rd_T42 x35 x37).f2) ((rd_T42 x35 x37).f3) bt440.1 bt440.2.1 bt440.2.2.1 bt440.2.2.2.1) else (none))) else (none)) else (none)) else (some false)))) else (none)) else (some false)) else (squelchlaw21_PoolSent.j1 k x5 x8 x35 x36 x37 ((rd_T42 x35 x37).f0) ((rd_T42 x35 x37).f1) ((rd_T42 x35 x37).f2) ((rd_T42 x35 x37).f3) bt440.1 bt440.2.1 bt440.2.2.1 bt440.2.2.2.1)) else (squelchlaw21_PoolSent.l0 k x5 x8 x35 x36 (wrap64 (x37 + 1)) x437000 x437001)))) else (some x5))) else (none)) else (none)) else (some x5)) := rfl
theorem squelchlaw21_PoolSent.j1_e (k : Nat) (x5 : Bool) (x8 : List (S31)) (x35 : List (S42)) (x36 : Int) (x37 : Int) (x439000 : Int) (x439001 : Int) (x439002 : Int) (x439003 : List (S31)) (x453000 : Int) (x453001 : List (S31)) (x454000 : Int) (x454001 : List Int) : squelchlaw21_PoolSent.j1 (k + 1) x5 x8 x35 x36 x37 x439000 x439001 x439002 x439003 x453000 x453001 x454000 x454001 = (if x439000 = 1 then ((squelchlaw21_among.f k x8 x454000 x454001).bind fun t466 => (squelchlaw21_PoolSent.j2 k x5 x8 x35 x36 x37 (!t466) x453000 x453001)) else (squelchlaw21_PoolSent.j2 k x5 x8 x35 x36 x37 false x453000 x453001)) := rfl
theorem squelchlaw21_PoolSent.j2_e (k : Nat) (x5 : Bool) (x8 : List (S31)) (x35 : List (S42)) (x36 : Int) (x37 : Int) (x110 : Bool) (x453000 : Int) (x453001 : List (S31)) : squelchlaw21_PoolSent.j2 (k + 1) x5 x8 x35 x36 x37 x110 x453000 x453001 = (if x110 = true then (some false) else (squelchlaw21_PoolSent.l1 k x5 x8 x35 x36 x37 x453001 (x453001.length : Int) 0 x453000 x453001)) := rfl
theorem squelchlaw21_PoolSent.l1_e (k : Nat) (x5 : Bool) (x8 : List (S31)) (x35 : List (S42)) (x36 : Int) (x37 : Int) (x112 : List (S31)) (x113 : Int) (x114 : Int) (x453000 : Int) (x453001 : List (S31)) : squelchlaw21_PoolSent.l1 (k + 1) x5 x8 x35 x36 x37 x112 x113 x114 x453000 x453001 = (if x114 < x113 then (if 0 ≤ x114 then (if x114 < (x112.length : Int) then ((squelchlaw21_among.f k x8 ((rd_T31 x112 x114).f0) ((rd_T31 x112 x114).f1)).bind fun t469 => (if t469 = true then (squelchlaw21_PoolSent.l1 k x5 x8 x35 x36 x37 x112 x113 (wrap64 (x114 + 1)) x453000 x453001) else (some false))) else (none)) else (none)) else (if (x453001.length : Int) > x453000 then (some false) else (squelchlaw21_PoolSent.l0 k x5 x8 x35 x36 (wrap64 (x37 + 1)) x453000 x453001))) := rfl

theorem live_ev : Ev (fun k => squelchlaw21_live.f k) true := Ev.of squelchlaw21_live.mono (k := 100) (by decide +kernel)
theorem w_succ (j : Nat) (h : j ≤ 1000000000) : wrap64 ((j : Int) + 1) = ((j + 1 : Nat) : Int) := by rw [w64' _ (by omega) (by omega)]; rfl
theorem good_at {m : Int} {l : List S31} (h : Ok m l) (i : Nat) (hi : i < l.length) : 0 < l[i].f1.length ∧ l[i].f1.length ≤ 200 := by
  have := (goodB_iff _ _).1 (h.2.2.2 _ (List.getElem_mem hi))
  exact ⟨this.2.2.1, this.2.2.2⟩
theorem len_le {m : Int} {l : List S31} (h : Ok m l) : l.length ≤ 256 := by obtain ⟨_, h2, h3, _⟩ := h; omega
theorem set_ok {m : Int} {l : List S31} (h : Ok m l) (i : Nat) (x : S31) (hx : goodB x.f0 x.f1 = true) : Ok m (l.set i x) := by
  obtain ⟨h1, h2, h3, h4⟩ := h
  refine ⟨h1, h2, by rw [List.length_set]; exact h3, fun g hg => ?_⟩
  rcases List.mem_or_eq_of_mem_set hg with hg | rfl
  · exact h4 g hg
  · exact hx
/-- At whatever places: a pool of its own, or that there is none. -/
theorem at_l0_any {m : Int} {l : List S31} (h : Ok m l) (ps : List Int) (hs : ps.length ≤ 100) (d : Nat) : ∀ i : Nat, i + d = ps.length → (∀ j (hj : j < ps.length), j < i → 0 ≤ ps[j] ∧ ps[j] < (l.length : Int)) →
    ∃ r, Ev (fun k => pool_at.l0 k ps (ps.length : Int) (i : Int) m l) r ∧ (r = (0, [], 4) ∨ (r = (m, l, 0) ∧ ∀ p ∈ ps, 0 ≤ p ∧ p < (l.length : Int))) := by
  induction d with
  | zero =>
    intro i hi hp
    refine ⟨(m, l, 0), Ev.step (f := fun k => (pool_owned.f k m l).bind fun bt => some (bt.1, bt.2, 0)) (fun k => by rw [pool_at.l0, if_neg (by omega)]) (Ev.bind (owned_ok h) (Ev.now _)), .inr ⟨rfl, fun p hp' => ?_⟩⟩
    obtain ⟨j, hj, rfl⟩ := List.getElem_of_mem hp'
    exact hp j hj (by omega)
  | succ d ih =>
    intro i hi hp
    have hil : i < ps.length := by omega
    by_cases h1 : ps[i] < 0
    · refine ⟨_, Ev.step (f := fun _ => some (0, [], 4)) (fun k => ?_) (Ev.now _), .inl rfl⟩
      rw [pool_at.l0, if_pos (by omega), if_pos (by omega), if_pos (by omega), rdI ps i hil, if_pos h1]
    by_cases h2 : ps[i] ≥ (l.length : Int)
    · refine ⟨_, Ev.step (f := fun _ => some (0, [], 4)) (fun k => ?_) (Ev.now _), .inl rfl⟩
      rw [pool_at.l0, if_pos (by omega), if_pos (by omega), if_pos (by omega), rdI ps i hil, if_neg h1, if_pos h2]
    obtain ⟨r, hr, hr2⟩ := ih (i + 1) (by omega) (fun j hj hji => by
      rcases Nat.lt_or_ge j i with h3 | h3
      · exact hp j hj h3
      · obtain rfl : j = i := by omega
        omega)
    refine ⟨r, Ev.step (fun k => ?_) hr, hr2⟩
    rw [pool_at.l0, if_pos (by omega), if_pos (by omega), if_pos (by omega), rdI ps i hil, if_neg h1, if_neg h2, w64' _ (by omega) (by omega)]
    rfl
theorem at_any {m : Int} {l : List S31} (h : Ok m l) (ps : List Int) (hs : ps.length ≤ 100) : ∃ r, Ev (fun k => pool_at.f k m l ps) r ∧ (r = (0, [], 4) ∨ (r = (m, l, 0) ∧ ∀ p ∈ ps, 0 ≤ p ∧ p < (l.length : Int))) := by
  obtain ⟨r, hr, h2⟩ := at_l0_any h ps hs ps.length 0 (by omega) (fun j _ hj => by omega)
  refine ⟨r, ?_, h2⟩
  unfold pool_at.f
  refine Ev.bind (check_ok h) ?_
  exact Ev.congr (fun k => if_pos rfl) hr
theorem nat_of {i : Int} {n : Nat} (h : 0 ≤ i ∧ i < (n : Int)) : ∃ j : Nat, i = (j : Int) ∧ j < n := ⟨i.toNat, by omega, by omega⟩
theorem take_any {m : Int} {l : List S31} (h : Ok m l) (i : Int) : ∃ r, Ev (fun k => pool_Take.f k m l i) r ∧ (r.2.2.2.2 ≠ 0 ∨ ∃ j, ∃ hj : j < l.length, r = (m, l.eraseIdx j, l[j].f0, l[j].f1, 0)) := by
  obtain ⟨r, hr, h2⟩ := at_any h [i] (by simp)
  rcases h2 with rfl | ⟨rfl, h2⟩
  · refine ⟨(0, [], 0, [], 4), ?_, .inl (show (4 : Int) ≠ 0 by decide)⟩
    unfold pool_Take.f
    refine Ev.bind hr ?_
    exact Ev.congr (fun k => if_neg (by decide)) (Ev.now _)
  · obtain ⟨j, rfl, hj⟩ := nat_of (h2 i (by simp))
    exact ⟨_, take_ok h j hj, .inr ⟨j, hj, rfl⟩⟩
theorem drop_any {m : Int} {l : List S31} (h : Ok m l) (i : Int) : ∃ r, Ev (fun k => pool_Drop.f k m l i) r ∧ (r.2.2 ≠ 0 ∨ ∃ j, ∃ hj : j < l.length, r = (m, l.eraseIdx j, 0)) := by
  obtain ⟨r, hr, h2⟩ := take_any h i
  refine ⟨(r.1, r.2.1, r.2.2.2.2), ?_, ?_⟩
  · unfold pool_Drop.f
    exact Ev.bind hr (Ev.now _)
  · rcases h2 with h2 | ⟨j, hj, rfl⟩
    · exact .inl h2
    · exact .inr ⟨j, hj, rfl⟩
theorem double_any {m : Int} {l : List S31} (h : Ok m l) (i : Int) : ∃ r, Ev (fun k => pool_Double.f k m l i) r ∧ (r.2.2 ≠ 0 ∨ ∃ j, ∃ hj : j < l.length, r = (m, l ++ [l[j]], 0) ∧ (l.length : Int) < m) := by
  have hlen := len_le h
  obtain ⟨r, hr, h2⟩ := at_any h [i] (by simp)
  rcases h2 with rfl | ⟨rfl, h2⟩
  · refine ⟨(0, [], 4), ?_, .inl (show (4 : Int) ≠ 0 by decide)⟩
    unfold pool_Double.f
    refine Ev.bind hr ?_
    exact Ev.congr (fun k => if_neg (by decide)) (Ev.now _)
  · obtain ⟨j, rfl, hj⟩ := nat_of (h2 i (by simp))
    have hg := good_at h j hj
    by_cases hm : (l.length : Int) ≥ m
    · refine ⟨(0, [], 2), ?_, .inl (show (2 : Int) ≠ 0 by decide)⟩
      unfold pool_Double.f
      refine Ev.bind hr (Ev.congr (fun k => ?_) (Ev.now _))
      dsimp only
      rw [if_pos rfl, if_pos hm]
    · refine ⟨(m, l ++ [l[j]], 0), ?_, .inr ⟨j, hj, rfl, by omega⟩⟩
      unfold pool_Double.f
      refine Ev.bind hr (Ev.congr (fun k => ?_) (Ev.now _))
      dsimp only
      rw [if_pos rfl, if_neg hm, if_pos (by omega), if_pos (by omega), rdT l j hj, letter_f _ _ hg.2, Option.bind_some, if_pos (by omega)]
theorem swap_any {m : Int} {l : List S31} (h : Ok m l) (i i' : Int) : ∃ r, Ev (fun k => pool_Swap.f k m l i i') r ∧ (r.2.2 ≠ 0 ∨ ∃ j j', ∃ hj : j < l.length, ∃ hj' : j' < l.length, r = (m, (l.set j l[j']).set j' l[j], 0)) := by
  obtain ⟨r, hr, h2⟩ := at_any h [i, i'] (by simp)
  rcases h2 with rfl | ⟨rfl, h2⟩
  · refine ⟨(0, [], 4), ?_, .inl (show (4 : Int) ≠ 0 by decide)⟩
    unfold pool_Swap.f
    refine Ev.bind hr ?_
    exact Ev.congr (fun k => if_neg (by decide)) (Ev.now _)
  · obtain ⟨j, rfl, hj⟩ := nat_of (h2 i (by simp))
    obtain ⟨j', rfl, hj'⟩ := nat_of (h2 i' (by simp))
    refine ⟨(m, (l.set j l[j']).set j' l[j], 0), ?_, .inr ⟨j, j', hj, hj', rfl⟩⟩
    unfold pool_Swap.f
    refine Ev.bind hr (Ev.congr (fun k => ?_) (Ev.now _))
    dsimp only
    rw [if_pos rfl, if_pos (by omega), rdT l j hj, rdT l j' hj', Int.toNat_natCast, Int.toNat_natCast]
theorem send_l1 (m : Int) (l y : List S31) (n : Int) (hl : l.length ≤ 256) (hy : y.length ≤ 1048576) (hg : ∀ g ∈ y, goodB g.f0 g.f1 = true) (d : Nat) : ∀ i : Nat, i + d = y.length → Ev (fun k => pool_Send.l1 k n y (y.length : Int) (i : Int) m (l ++ y.take i)) (m, l ++ y, n, 0) := by
  induction d with
  | zero =>
    intro i hi
    obtain rfl : i = y.length := by omega
    exact Ev.step (f := fun _ => some (m, l ++ y, n, 0)) (fun k => by rw [pool_Send.l1, if_neg (by omega), List.take_length]) (Ev.now _)
  | succ d ih =>
    intro i hi
    have hil : i < y.length := by omega
    refine Ev.step (fun k => ?_) (ih (i + 1) (by omega))
    have h1 := (goodB_iff _ _).1 (hg _ (List.getElem_mem hil))
    rw [pool_Send.l1, if_pos (by omega), if_pos (by omega), if_pos (by omega), rdT y i hil, letter_f _ _ h1.2.2.2, w_succ i (by omega)]
    simp only [Option.bind_some]
    rw [if_pos (by rw [List.length_append, List.length_take]; omega), List.take_succ_eq_append_getElem hil, List.append_assoc]
theorem send_l0 {m : Int} {l : List S31} (h : Ok m l) (L : List S31) (hL : L.length ≤ 1048576) (d : Nat) : ∀ i : Nat, i + d = L.length → (∀ j (hj : j < L.length), j < i → goodB L[j].f0 L[j].f1 = true) →
    ∃ r, Ev (fun k => pool_Send.l0 k L L (L.length : Int) (i : Int) m l) r ∧ (r.2.2.2 ≠ 0 ∨ ∃ c : Nat, c ≤ L.length ∧ r = (m, l ++ L.take c, (c : Int), 0) ∧ Ok m (l ++ L.take c)) := by
  have hlen := len_le h
  obtain ⟨h1, h2, h3, h4⟩ := h
  induction d with
  | zero =>
    intro i hi hp
    have hg : ∀ g ∈ L, goodB g.f0 g.f1 = true := fun g hg => by
      obtain ⟨j, hj, rfl⟩ := List.getElem_of_mem hg
      exact hp j hj (by omega)
    obtain ⟨c, hc, hc2, hc3⟩ : ∃ c : Nat, mn (L.length : Int) (wrap64 (m - (l.length : Int))) = (c : Int) ∧ c ≤ L.length ∧ (l.length : Int) + (c : Int) ≤ m := by
      rw [w64' _ (by omega) (by omega)]
      refine ⟨(mn (L.length : Int) (m - (l.length : Int))).toNat, ?_, ?_, ?_⟩
      all_goals
        unfold mn
        split <;> omega
    have hgt : ∀ g ∈ L.take c, goodB g.f0 g.f1 = true := fun g hg' => hg g (List.mem_of_mem_take hg')
    have hct : (L.take c).length = c := by rw [List.length_take]; omega
    have hs := send_l1 m l (L.take c) (c : Int) hlen (by omega) hgt (L.take c).length 0 (by omega)
    rw [List.take_zero, List.append_nil] at hs
    refine ⟨(m, l ++ L.take c, (c : Int), 0), Ev.step (f := fun k => (pool_owned.f k m l).bind fun bt => pool_Send.l1 k (c : Int) (L.take c) ((L.take c).length : Int) 0 bt.1 bt.2) (fun k => ?_) (Ev.bind (owned_ok ⟨h1, h2, h3, h4⟩) hs), .inr ⟨c, hc2, rfl, h1, h2, ?_, fun g hg' => ?_⟩⟩
    · rw [pool_Send.l0, if_neg (by omega)]
      congr 1
      funext bt
      rw [hc, if_pos (by omega), if_pos (by omega), Int.toNat_natCast, Option.bind_some]
    · rw [List.length_append, hct]; omega
    · rcases List.mem_append.1 hg' with hg' | hg'
      · exact h4 g hg'
      · exact hgt g hg'
  | succ d ih =>
    intro i hi hp
    have hil : i < L.length := by omega
    by_cases hgi : goodB L[i].f0 L[i].f1 = true
    · obtain ⟨r, hr, hr2⟩ := ih (i + 1) (by omega) (fun j hj hji => by
        rcases Nat.lt_or_ge j i with h5 | h5
        · exact hp j hj h5
        · obtain rfl : j = i := by omega
          exact hgi)
      refine ⟨r, Ev.step (fun k => ?_) hr, hr2⟩
      rw [pool_Send.l0, if_pos (by omega), if_pos (by omega), if_pos (by omega), rdT L i hil, good_f, Option.bind_some, if_pos hgi, w_succ i (by omega)]
    · refine ⟨(0, [], 0, 1), Ev.step (f := fun _ => some (0, [], 0, 1)) (fun k => ?_) (Ev.now _), .inl (show (1 : Int) ≠ 0 by decide)⟩
      rw [pool_Send.l0, if_pos (by omega), if_pos (by omega), if_pos (by omega), rdT L i hil, good_f, Option.bind_some, if_neg hgi]
theorem send_any {m : Int} {l : List S31} (h : Ok m l) (L : List S31) (hL : L.length ≤ 1048576) : ∃ r, Ev (fun k => pool_Send.f k m l L) r ∧ (r.2.2.2 ≠ 0 ∨ ∃ c : Nat, c ≤ L.length ∧ r = (m, l ++ L.take c, (c : Int), 0) ∧ Ok m (l ++ L.take c)) := by
  obtain ⟨r, hr, h2⟩ := send_l0 h L hL L.length 0 (by omega) (fun j _ hj => by omega)
  refine ⟨r, ?_, h2⟩
  unfold pool_Send.f
  refine Ev.bind (check_ok h) ?_
  exact Ev.congr (fun k => if_pos rfl) hr
/-- What is done, but for spoiling: nothing else comes in than what is sent. -/
theorem body_any {m : Int} {l : List S31} (h : Ok m l) (D I K : Int) (L : List S31) (hL : L.length ≤ 1048576) (hD : D ≠ 5) : ∃ r, Ev (fun k => squelchlaw21_body.f k m l D I K L) r ∧ (r.2.2.2.2.2 ≠ 0 ∨ (r.2.2.2.2.2 = 0 ∧ r.1 = m ∧ Ok m r.2.1 ∧
    (D = 0 → ∃ c : Nat, c ≤ L.length ∧ r.2.1 = l ++ L.take c ∧ r.2.2.2.2.1 = [(c : Int)]) ∧ (D = 1 → (⟨r.2.2.1, r.2.2.2.1⟩ : S31) ∈ l) ∧ (D ≠ 0 → ∀ x ∈ r.2.1, x ∈ l))) := by
  have hlen := len_le h
  by_cases d0 : D = 0
  · obtain ⟨r, hr, h2⟩ := send_any h L hL
    refine ⟨(r.1, r.2.1, 0, [], [r.2.2.1], r.2.2.2), ?_, ?_⟩
    · unfold squelchlaw21_body.f
      exact Ev.congr (fun k => if_pos d0) (Ev.bind hr (Ev.now _))
    · rcases h2 with h2 | ⟨c, hc, rfl, hok⟩
      · exact .inl h2
      · exact .inr ⟨rfl, rfl, hok, fun _ => ⟨c, hc, rfl, rfl⟩, fun h1 => by omega, fun h1 => absurd d0 h1⟩
  by_cases d1 : D = 1
  · obtain ⟨r, hr, h2⟩ := take_any h I
    refine ⟨(r.1, r.2.1, r.2.2.1, r.2.2.2.1, [], r.2.2.2.2), ?_, ?_⟩
    · unfold squelchlaw21_body.f
      exact Ev.congr (fun k => (if_neg d0).trans (if_pos d1)) (Ev.bind hr (Ev.now _))
    · rcases h2 with h2 | ⟨j, hj, rfl⟩
      · exact .inl h2
      · exact .inr ⟨rfl, rfl, erase_ok h j hj, fun h1 => absurd h1 d0, fun _ => List.getElem_mem hj, fun _ x hx => (List.eraseIdx_sublist l j).subset hx⟩
  by_cases d2 : D = 2
  · obtain ⟨r, hr, h2⟩ := drop_any h I
    refine ⟨(r.1, r.2.1, 0, [], [], r.2.2), ?_, ?_⟩
    · unfold squelchlaw21_body.f
      exact Ev.congr (fun k => (if_neg d0).trans ((if_neg d1).trans (if_pos d2))) (Ev.bind hr (Ev.now _))
    · rcases h2 with h2 | ⟨j, hj, rfl⟩
      · exact .inl h2
      · exact .inr ⟨rfl, rfl, erase_ok h j hj, fun h1 => absurd h1 d0, fun h1 => absurd h1 d1, fun _ x hx => (List.eraseIdx_sublist l j).subset hx⟩
  by_cases d3 : D = 3
  · obtain ⟨r, hr, h2⟩ := double_any h I
    refine ⟨(r.1, r.2.1, 0, [], [], r.2.2), ?_, ?_⟩
    · unfold squelchlaw21_body.f
      exact Ev.congr (fun k => (if_neg d0).trans ((if_neg d1).trans ((if_neg d2).trans (if_pos d3)))) (Ev.bind hr (Ev.now _))
    · rcases h2 with h2 | ⟨j, hj, rfl, hm⟩
      · exact .inl h2
      · have hmem : ∀ x ∈ l ++ [l[j]], x ∈ l := fun x hx => by
          rcases List.mem_append.1 hx with hx | hx
          · exact hx
          · rw [List.mem_singleton.1 hx]; exact List.getElem_mem hj
        exact .inr ⟨rfl, rfl, ⟨h.1, h.2.1, by show ((l ++ [l[j]]).length : Int) ≤ m; rw [List.length_append, List.length_singleton]; omega, fun g hg => h.2.2.2 g (hmem g hg)⟩, fun h1 => absurd h1 d0, fun h1 => absurd h1 d1, fun _ x hx => hmem x hx⟩
  by_cases d4 : D = 4
  · obtain ⟨r, hr, h2⟩ := swap_any h I K
    refine ⟨(r.1, r.2.1, 0, [], [], r.2.2), ?_, ?_⟩
    · unfold squelchlaw21_body.f
      exact Ev.congr (fun k => (if_neg d0).trans ((if_neg d1).trans ((if_neg d2).trans ((if_neg d3).trans (if_pos d4))))) (Ev.bind hr (Ev.now _))
    · rcases h2 with h2 | ⟨j, j', hj, hj', rfl⟩
      · exact .inl h2
      · refine .inr ⟨rfl, rfl, set_ok (set_ok h j _ (h.2.2.2 _ (List.getElem_mem hj'))) j' _ (h.2.2.2 _ (List.getElem_mem hj)), fun h1 => absurd h1 d0, fun h1 => absurd h1 d1, fun _ x hx => ?_⟩
        rcases List.mem_or_eq_of_mem_set hx with hx | rfl
        · rcases List.mem_or_eq_of_mem_set hx with hx | rfl
          · exact hx
          · exact List.getElem_mem hj'
        · exact List.getElem_mem hj
  · refine ⟨(m, l, 0, [], pls l I l.length, 0), ?_, .inr ⟨rfl, rfl, h, fun h1 => absurd h1 d0, fun h1 => absurd h1 d1, fun _ x hx => hx⟩⟩
    unfold squelchlaw21_body.f
    exact Ev.congr (fun k => (if_neg d0).trans ((if_neg d1).trans ((if_neg d2).trans ((if_neg d3).trans ((if_neg d4).trans (if_neg hD)))))) (Ev.bind (to_ok h I) (Ev.now _))
theorem among_l0 (S : List S31) (hS : S.length ≤ 1000000000) (x : S31) (d : Nat) : ∀ i : Nat, i + d = S.length → x ∈ S.drop i → Ev (fun k => squelchlaw21_among.l0 k S (S.length : Int) (i : Int) x.f0 x.f1) true := by
  induction d with
  | zero =>
    intro i hi hx
    rw [List.drop_eq_nil_of_le (by omega)] at hx
    cases hx
  | succ d ih =>
    intro i hi hx
    have hil : i < S.length := by omega
    rw [List.drop_eq_getElem_cons hil] at hx
    obtain ⟨c, hc⟩ : ∃ c, squelchref21_SameGram.f S[i].f0 S[i].f1 x.f0 x.f1 = some c := by
      unfold squelchref21_SameGram.f
      split <;> exact ⟨_, rfl⟩
    by_cases hct : c = true
    · refine Ev.step (f := fun _ => some true) (fun k => ?_) (Ev.now _)
      rw [squelchlaw21_among.l0, if_pos (by omega), if_pos (by omega), if_pos (by omega), rdT S i hil, hc, Option.bind_some, if_pos hct]
    · refine Ev.step (fun k => ?_) (ih (i + 1) (by omega) ?_)
      · rw [squelchlaw21_among.l0, if_pos (by omega), if_pos (by omega), if_pos (by omega), rdT S i hil, hc, Option.bind_some, if_neg hct, w_succ i (by omega)]
      · rcases List.mem_cons.1 hx with rfl | hx
        · rw [same_f] at hc
          exact absurd (Option.some.inj hc).symm hct
        · exact hx
theorem among_ev (S : List S31) (hS : S.length ≤ 1000000000) (x : S31) (hx : x ∈ S) : Ev (fun k => squelchlaw21_among.f k S x.f0 x.f1) true := by
  unfold squelchlaw21_among.f
  exact among_l0 S hS x S.length 0 (by omega) (by simpa using hx)
theorem few_up (m : Int) (p L : List S31) (hp : p.length ≤ 256) (hL : L.length ≤ 1048576) : ∃ b, Ev (fun k => squelchlaw21_few.f k m p L) b ∧ (b = true → L.length ≤ 300) := by
  have key : ∀ (d i : Nat), i + d = (p ++ L).length → ∃ b, Ev (fun k => squelchlaw21_few.l0 k L (p ++ L) ((p ++ L).length : Int) (i : Int) m p) b ∧ (b = true → L.length ≤ 300) := by
    intro d
    have hpl : (p ++ L).length ≤ 1048832 := by rw [List.length_append]; omega
    induction d with
    | zero =>
      intro i hi
      refine ⟨decide ((L.length : Int) ≤ 300), Ev.step (f := fun _ => some (decide ((L.length : Int) ≤ 300))) (fun k => by rw [squelchlaw21_few.l0, if_neg (by omega), if_pos (by omega)]) (Ev.now _), fun h => ?_⟩
      have := of_decide_eq_true h
      omega
    | succ d ih =>
      intro i hi
      by_cases h : (((rd_T31 (p ++ L) (i : Int)).f1).length : Int) > 1000
      · exact ⟨_, Ev.step (f := fun _ => some false) (fun k => by rw [squelchlaw21_few.l0, if_pos (by omega), if_pos (by omega), if_pos (by omega), if_pos h]) (Ev.now _), fun h => by cases h⟩
      · obtain ⟨b, hb, hb2⟩ := ih (i + 1) (by omega)
        refine ⟨b, Ev.step (fun k => ?_) hb, hb2⟩
        rw [squelchlaw21_few.l0, if_pos (by omega), if_pos (by omega), if_pos (by omega), if_neg h, w_succ i (by omega)]
  obtain ⟨b, hb, hb2⟩ := key (p ++ L).length 0 (by omega)
  refine ⟨b, Ev.congr (fun k => ?_) hb, hb2⟩
  rw [squelchlaw21_few.f, if_pos (by simp; omega)]
  simp only [List.nil_append, Option.bind_some]
  rw [if_pos (by omega)]
  rfl
theorem rdO (l : List S42) (j : Nat) (h : j < l.length) : rd_T42 l (j : Int) = l[j] := by
  unfold rd_T42
  rw [Int.toNat_natCast, List.getD_eq_getElem?_getD, List.getElem?_eq_getElem h]; rfl
theorem sent_l1 (S : List S31) (hS : S.length ≤ 1000000000) (O : List S42) (n j m : Int) (l : List S31) (hm : (l.length : Int) ≤ m) (hl : l.length ≤ 256) (hsub : ∀ x ∈ l, x ∈ S) (hnext : Ev (fun k => squelchlaw21_PoolSent.l0 k true S O n (wrap64 (j + 1)) m l) true) (d : Nat) :
    ∀ i : Nat, i + d = l.length → Ev (fun k => squelchlaw21_PoolSent.l1 k true S O n j l (l.length : Int) (i : Int) m l) true := by
  induction d with
  | zero =>
    intro i hi
    refine Ev.step (fun k => ?_) hnext
    rw [squelchlaw21_PoolSent.l1_e, if_neg (by omega), if_neg (by omega)]
  | succ d ih =>
    intro i hi
    have hil : i < l.length := by omega
    refine Ev.step (f := fun k => (squelchlaw21_among.f k S l[i].f0 l[i].f1).bind fun t => if t = true then squelchlaw21_PoolSent.l1 k true S O n j l (l.length : Int) ((i + 1 : Nat) : Int) m l else some false) (fun k => ?_) (Ev.bind (among_ev S hS l[i] (hsub _ (List.getElem_mem hil))) (Ev.congr (fun k => if_pos rfl) (ih (i + 1) (by omega))))
    rw [squelchlaw21_PoolSent.l1_e, if_pos (by omega), if_pos (by omega), if_pos (by omega), rdT l i hil, w_succ i (by omega)]
theorem sent_j2 (S : List S31) (hS : S.length ≤ 1000000000) (O : List S42) (n j m : Int) (l : List S31) (hm : (l.length : Int) ≤ m) (hl : l.length ≤ 256) (hsub : ∀ x ∈ l, x ∈ S) (hnext : Ev (fun k => squelchlaw21_PoolSent.l0 k true S O n (wrap64 (j + 1)) m l) true) :
    Ev (fun k => squelchlaw21_PoolSent.j2 k true S O n j false m l) true :=
  Ev.step (fun k => (squelchlaw21_PoolSent.j2_e k true S O n j false m l).trans (if_neg (by decide))) (sent_l1 S hS O n j m l hm hl hsub hnext l.length 0 (by omega))
theorem sent_l0 (O : List S42) (hO : O.length ≤ 100) (hb : ∀ o ∈ O, o.f3.length ≤ 1048576) (d : Nat) : ∀ (j : Nat) (S : List S31) (m : Int) (l : List S31), j + d = O.length → Ok m l → (∀ x ∈ l, x ∈ S) → S.length ≤ 300 * j →
    Ev (fun k => squelchlaw21_PoolSent.l0 k true S O (O.length : Int) (j : Int) m l) true := by
  induction d with
  | zero =>
    intro j S m l hj _ _ _
    exact Ev.step (f := fun _ => some true) (fun k => by rw [squelchlaw21_PoolSent.l0_e, if_neg (by omega)]) (Ev.now _)
  | succ d ih =>
    intro j S m l hj hok hsub hSl
    have hjl : j < O.length := by omega
    have hlen := len_le hok
    have hoL := hb _ (List.getElem_mem hjl)
    obtain ⟨o, ho⟩ : ∃ o, o = O[j] := ⟨_, rfl⟩
    rw [← ho] at hoL
    obtain ⟨b, hb1, hb2⟩ := few_up m l o.f3 hlen hoL
    refine Ev.step (fun k => squelchlaw21_PoolSent.l0_e k true S O (O.length : Int) (j : Int) m l) ?_
    refine Ev.congr (fun k => (if_pos (by omega)).trans ((if_pos (by omega)).trans (if_pos (by omega)))) ?_
    simp only [rdO O j hjl, ← ho]
    refine Ev.bind hb1 ?_
    by_cases hbt : b = true
    rotate_left
    · exact Ev.congr (fun k => if_neg hbt) (Ev.now _)
    refine Ev.congr (fun k => if_pos hbt) ?_
    have hL300 := hb2 hbt
    have hstay : Ev (fun k => squelchlaw21_PoolSent.l0 k true S O (O.length : Int) (wrap64 ((j : Int) + 1)) m l) true := by
      rw [w_succ j (by omega)]
      exact ih (j + 1) S m l (by omega) hok hsub (by omega)
    by_cases h5 : o.f0 = 5
    · exact Ev.congr (fun k => if_pos h5) hstay
    refine Ev.congr (fun k => if_neg h5) ?_
    obtain ⟨r, hr, h2⟩ := body_any hok o.f0 o.f1 o.f2 o.f3 hoL h5
    refine Ev.bind hr ?_
    rcases h2 with h2 | ⟨e0, em, hok', c0, c1, cx⟩
    · exact Ev.congr (fun k => if_neg h2) hstay
    refine Ev.congr (fun k => if_pos e0) ?_
    obtain ⟨r0, l', g0, g1, n, e⟩ := r
    dsimp only at em hok' c0 c1 cx ⊢
    subst em
    have hlen' := len_le hok'
    have hm' := hok'.2.2.1
    by_cases d0 : o.f0 = 0
    · obtain ⟨c, hc, rfl, rfl⟩ := c0 d0
      have hct : (o.f3.take c).length = c := by rw [List.length_take]; omega
      have e1 : rd [(c : Int)] 0 = (c : Int) := rfl
      have hsub' : ∀ x ∈ l ++ o.f3.take c, x ∈ S ++ o.f3.take c := fun x hx => by
        rcases List.mem_append.1 hx with hx | hx
        · exact List.mem_append.2 (.inl (hsub x hx))
        · exact List.mem_append.2 (.inr hx)
      have hSl' : (S ++ o.f3.take c).length ≤ 300 * (j + 1) := by rw [List.length_append, hct]; omega
      have hnext : Ev (fun k => squelchlaw21_PoolSent.l0 k true (S ++ o.f3.take c) O (O.length : Int) (wrap64 ((j : Int) + 1)) r0 (l ++ o.f3.take c)) true := by
        rw [w_succ j (by omega)]
        exact ih (j + 1) _ _ _ (by omega) hok' hsub' hSl'
      have hj1 : Ev (fun k => squelchlaw21_PoolSent.j1 k true (S ++ o.f3.take c) O (O.length : Int) (j : Int) o.f0 o.f1 o.f2 o.f3 r0 (l ++ o.f3.take c) g0 g1) true := by
        refine Ev.step (fun k => squelchlaw21_PoolSent.j1_e k true (S ++ o.f3.take c) O (O.length : Int) (j : Int) o.f0 o.f1 o.f2 o.f3 r0 (l ++ o.f3.take c) g0 g1) ?_
        exact Ev.congr (fun k => if_neg (show ¬ o.f0 = 1 by omega)) (sent_j2 (S ++ o.f3.take c) (by omega) O (O.length : Int) (j : Int) r0 (l ++ o.f3.take c) hm' hlen' hsub' hnext)
      refine Ev.congr (fun k => ?_) hj1
      rw [if_pos d0, if_pos (by rfl), if_pos (by simp), e1, if_neg (by omega), if_neg (by omega), w64' _ (by omega) (by omega), if_pos (by rw [List.length_append, hct]; omega), if_pos (by omega), if_pos (by omega), Int.toNat_natCast, Option.bind_some, if_pos (by rw [hct]; omega)]
    · refine Ev.congr (fun k => if_neg d0) ?_
      have hsub' : ∀ x ∈ l', x ∈ S := fun x hx => hsub x (cx d0 x hx)
      have hnext : Ev (fun k => squelchlaw21_PoolSent.l0 k true S O (O.length : Int) (wrap64 ((j : Int) + 1)) r0 l') true := by
        rw [w_succ j (by omega)]
        exact ih (j + 1) _ _ _ (by omega) hok' hsub' (by omega)
      have hj2 := sent_j2 S (by omega) O (O.length : Int) (j : Int) r0 l' hm' hlen' hsub' hnext
      refine Ev.step (fun k => squelchlaw21_PoolSent.j1_e k true S O (O.length : Int) (j : Int) o.f0 o.f1 o.f2 o.f3 r0 l' g0 g1) ?_
      by_cases d1 : o.f0 = 1
      · exact Ev.congr (fun k => if_pos d1) (Ev.bind (among_ev S (by omega) ⟨g0, g1⟩ (hsub _ (c1 d1))) hj2)
      · exact Ev.congr (fun k => if_neg d1) hj2
theorem tmods {a n : Int} (h : 0 < n) (h2 : n ≤ 1000000) : 0 ≤ Int.tmod (wrap64 (Int.tmod a n + n)) n ∧ Int.tmod (wrap64 (Int.tmod a n + n)) n < n := by
  have h1 : -n < Int.tmod a n := by have := Int.tmod_lt_of_pos (-a) h; rw [Int.neg_tmod] at this; omega
  have h3 : Int.tmod a n < n := Int.tmod_lt_of_pos a h
  rw [w64' _ (by omega) (by omega)]
  exact ⟨Int.tmod_nonneg _ (by omega), Int.tmod_lt_of_pos _ h⟩
theorem PoolSent (a0 : Int) (O : List S42) (hb : ∀ o ∈ O, o.f3.length ≤ 1048576) : ∃ k, squelchlaw21_PoolSent.f k a0 O = some true := by
  refine Ev.rounds ?_
  unfold squelchlaw21_PoolSent.f
  refine Ev.bind live_ev ?_
  refine Ev.congr (fun k => if_pos rfl) ?_
  by_cases hO : (O.length : Int) > 100
  · exact Ev.congr (fun k => if_pos hO) (Ev.now _)
  refine Ev.congr (fun k => if_neg hO) ?_
  obtain ⟨t0, t1⟩ := tmods (a := a0) (n := 256) (by decide) (by decide)
  generalize Int.tmod (wrap64 (Int.tmod a0 256 + 256)) 256 = t at *
  rw [w64' (1 + t) (by omega) (by omega)]
  have hok : Ok (1 + t) [] := ⟨by omega, by omega, by simp; omega, by simp⟩
  have hnew : Ev (fun k => pool_New.f k (1 + t)) (1 + t, [], 0) := by
    unfold pool_New.f
    refine Ev.bind (check_ok hok) ?_
    exact Ev.congr (fun k => if_pos rfl) (Ev.now _)
  refine Ev.bind hnew ?_
  refine Ev.congr (fun k => if_pos rfl) ?_
  exact sent_l0 O (by omega) hb O.length 0 [] (1 + t) [] (by omega) hok (by simp) (by simp)
end Go.Proofs.Yteleojddlaflnaa.Pure
