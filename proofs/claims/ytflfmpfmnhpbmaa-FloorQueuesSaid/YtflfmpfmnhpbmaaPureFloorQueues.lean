/- FloorQueues: its plain law. -/
import Derived.Test.YtflfmpfmnhpbmaaPAx16
import Derived.Test.YtflfmpfmnhpbmaaFm
set_option linter.unusedVariables false
set_option linter.unusedSimpArgs false
namespace Go.Proofs.Ytflfmpfmnhpbmaa.Pure
open Go.RowKit Go.Proofs.Ytflfmpfmnhpbmaa.PA Go.Proofs.YtflfmpfmnhpbmaaW.PrintWords Go.Proofs.YtflfmpfmnhpbmaaW.PrintLast Go.Proofs.Ytflfmpfmnhpbmaa.FL
theorem few_f (l : List S32) : squelchlaw18_few.f 0 0 0 0 0 0 0 [] [] l = some (decide ((l.length : Int) ≤ 100)) := by
  unfold squelchlaw18_few.f
  rw [if_pos (by decide), if_pos (by decide)]
theorem rdD (x : S38) (l : List S38) : rd_T38 (x :: l) 0 = x := rfl
theorem sorted_get {l : List S43} (hs : l.Pairwise (fun a b => b.f1 ≤ a.f1)) (i j : Nat) (hi : i < j) (hj : j < l.length) : (l[j]).f1 ≤ (l[i]'(by omega)).f1 := List.pairwise_iff_getElem.1 hs i j (by omega) hj hi
theorem queues_l1 {E : Dk} (h : Ok E) (q : Nat) (hq : q < E.wait.length) (d : Nat) : ∀ i : Nat, i + d = E.wait.length → Ev (fun k => squelchlaw18_FloorQueues.l1 k true ((q : Int) + 1) E.wait (E.wait.length : Int) (i : Int) E.s E.e E.h E.p E.u E.l E.n E.wait E.mem) true := by
  have hwl := h.wl
  induction d with
  | zero => exact fun i hi => Ev.step (f := fun _ => some true) (fun k => by rw [squelchlaw18_FloorQueues.l1, if_neg (by omega)]) (Ev.now _)
  | succ d ih =>
    intro i hi
    have hil : i < E.wait.length := by omega
    have e1 : wrap64 ((q : Int) + 1 - 1) = (q : Int) := by rw [w64' _ (by omega) (by omega)]; omega
    refine Ev.step (fun k => ?_) (ih (i + 1) (by omega))
    rw [squelchlaw18_FloorQueues.l1, if_pos (by omega), if_pos (by omega), if_pos (by omega), e1, sx i (by omega), rdW _ i hil, rdW _ q hq]
    by_cases c1 : ((i + 1 : Nat) : Int) < (q : Int) + 1
    · have := sorted_get h.wok.sort i q (by omega) hq
      rw [if_pos c1, if_pos (by omega), if_pos (by omega), if_neg (by omega), if_neg (by omega)]
    · rw [if_neg c1]
      by_cases c2 : ((i + 1 : Nat) : Int) > (q : Int) + 1
      · have := sorted_get h.wok.sort q i (by omega) hil
        rw [if_pos c2, if_pos (by omega), if_pos (by omega), if_neg (by omega)]
      · rw [if_neg c2]
theorem queues_place {E : Dk} (h : Ok E) (who : Int) (hp : 0 < plc who E.wait) : Ev (fun k => squelchlaw18_FloorQueues.j2 k true (plc who E.wait) (decide (plc who E.wait < 1)) E.s E.e E.h E.p E.u E.l E.n E.wait E.mem) true := by
  obtain ⟨h0, h1⟩ := plc_le who E.wait
  obtain ⟨q, hq⟩ : ∃ q : Nat, plc who E.wait = (q : Int) + 1 := ⟨(plc who E.wait - 1).toNat, by omega⟩
  rw [hq] at h1 hp ⊢
  have := queues_l1 h q (by omega) E.wait.length 0 (Nat.zero_add _)
  exact Ev.step (fun k => by rw [squelchlaw18_FloorQueues.j2, if_neg (by rw [decide_eq_false (by omega)]; decide)]; rfl) this
/-- Someone who has a place is told of it. -/
theorem queues_seven {D E : Dk} (hE : Ok E) (who : Int) (x : S38) (r : List S38) (hx0 : x.f0 = 7) (hx3 : x.f3 = plc who E.wait) (hp : 0 < plc who E.wait) :
    Ev (fun k => squelchlaw18_FloorQueues.j1 k who true (x :: r) false D.s D.e D.h D.p D.u D.l D.n D.wait D.mem E.s E.e E.h E.p E.u E.l E.n E.wait E.mem) true := by
  refine Ev.step (fun k => ?_) (queues_place hE who hp)
  rw [squelchlaw18_FloorQueues.j1, if_neg (by decide), place_f hE, Option.bind_some, if_pos (by rw [List.length_cons]; omega), rdD, if_neg (by rw [hx0]; decide), if_pos hx0, if_pos hx3.symm]
theorem plc_put (who prio : Int) (l : List S43) (hs : l.Pairwise (fun a b => b.f1 ≤ a.f1)) (hn : ∀ x ∈ l, x.f0 ≠ who) : plc who (putW who prio l) = (posQ prio l : Int) + 1 := by
  have hle := (posQ_spec prio l hs).1
  have := (idx_dist (l.take (posQ prio l)) ⟨who, prio⟩ (l.drop (posQ prio l))).2 (fun y hy => hn y (List.mem_of_mem_take hy))
  unfold plc putW
  rw [this, List.length_take]
  omega
theorem do3 (D : Dk) (who prio : Int) : doD D ⟨3, who, prio, 0, 0⟩ = requestD D ⟨3, who, prio, 0, 0⟩ (decide (who ∈ D.mem)) := by simp [doD]
theorem out_one (x : S38) : ¬ ((([x] : List S38).length : Int) = 0) ∧ ¬ ((([x] : List S38).length : Int) > 2) ∧ (0 : Int) < (([x] : List S38).length : Int) := by simp
theorem out_two (x y : S38) : ¬ ((([x, y] : List S38).length : Int) = 0) ∧ ¬ ((([x, y] : List S38).length : Int) > 2) ∧ (0 : Int) < (([x, y] : List S38).length : Int) := by simp
/-- What is told of a request. -/
theorem queues_j1 {m : Int} {D : Dk} (h : Inv m D) (hm : m ≤ 1000) (who prio : Int) (hw1 : 0 < who) (hw2 : who ≤ 1073741824) (hp0 : 0 ≤ prio) (hp7 : prio ≤ 7) (E : Dk) (hE : E = doD (bareD D) ⟨3, who, prio, 0, 0⟩) (hOk : Ok E) :
    ∃ x r, E.out = x :: r ∧ (r = [] ∨ ∃ y, r = [y]) ∧ x.f1 = who ∧ Ev (fun k => squelchlaw18_FloorQueues.j1 k who true (x :: r) false D.s D.e D.h D.p D.u D.l D.n D.wait D.mem E.s E.e E.h E.p E.u E.l E.n E.wait E.mem) true := by
  have hw := h.ok.wl
  have hml := h.ok.ml
  have e0 := h.ok.e0
  have hfew := h.few
  have heq := eqF_ev D.s D.e D.h D.p D.u D.l D.n D.wait D.mem (by omega) (by omega)
  have hmem := member_ev h.ok who
  rw [do3] at hE
  unfold requestD at hE
  by_cases c1 : who ∈ D.mem
  rotate_left
  · rw [if_pos (decide_eq_false (show ¬ who ∈ (bareD D).mem from c1))] at hE
    subst hE
    refine ⟨⟨6, who, 0, 0⟩, [], rfl, .inl rfl, rfl, ?_⟩
    refine Ev.step (fun k => by rw [squelchlaw18_FloorQueues.j1, if_neg (by decide), place_f hOk, Option.bind_some, if_pos (by simp), rdD, if_pos rfl]) ?_
    refine Ev.bind hmem ?_
    simp only [decide_eq_false c1, Bool.false_eq_true, if_false]
    refine Ev.bind heq ?_
    simp only [if_true]
    exact Ev.now _
  rw [if_neg (by rw [decide_eq_true (show who ∈ (bareD D).mem from c1)]; decide)] at hE
  by_cases c2 : D.s = 0
  · rw [if_pos (show (bareD D).s = 0 from c2)] at hE
    subst hE
    refine ⟨⟨5, who, D.e + 1, 0⟩, [], rfl, .inl rfl, rfl, ?_⟩
    refine Ev.step (f := fun _ => some true) (fun k => ?_) (Ev.now _)
    rw [squelchlaw18_FloorQueues.j1, if_neg (by decide), place_f hOk, Option.bind_some, if_pos (by simp), rdD, if_neg (show ¬ (5 : Int) = 6 by decide), if_neg (show ¬ (5 : Int) = 7 by decide), if_pos rfl]
    rw [if_pos (show (grantD (bareD D) who prio).h = who from rfl), if_pos (show (grantD (bareD D) who prio).s = 1 from rfl), if_pos (show (grantD (bareD D) who prio).e = D.e + 1 from rfl), if_pos c2, if_pos (by rw [w64' _ (by omega) (by omega)]; rfl)]
  rw [if_neg (show ¬ (bareD D).s = 0 from c2)] at hE
  by_cases c3 : D.h = who
  · rw [if_pos (show (bareD D).h = who from c3)] at hE
    by_cases c4 : D.s = 1
    · rw [if_pos (show (bareD D).s = 1 from c4)] at hE
      subst hE
      refine ⟨⟨5, who, D.e, 0⟩, [], rfl, .inl rfl, rfl, ?_⟩
      refine Ev.step (f := fun _ => some true) (fun k => ?_) (Ev.now _)
      rw [squelchlaw18_FloorQueues.j1, if_neg (by decide), place_f hOk, Option.bind_some, if_pos (by simp), rdD, if_neg (show ¬ (5 : Int) = 6 by decide), if_neg (show ¬ (5 : Int) = 7 by decide), if_pos rfl]
      show (if D.h = who then (if D.s = 1 then (if D.e = D.e then (if D.s = 0 then _ else some true) else _) else _) else _) = _
      rw [if_pos c3, if_pos c4, if_pos rfl, if_neg c2]
    · rw [if_neg (show ¬ (bareD D).s = 1 from c4)] at hE
      subst hE
      have s0 := h.ok.s0
      have s2 := h.ok.s2
      refine ⟨⟨8, who, D.e, 0⟩, [], rfl, .inl rfl, rfl, ?_⟩
      refine Ev.step (f := fun _ => some true) (fun k => ?_) (Ev.now _)
      rw [squelchlaw18_FloorQueues.j1, if_neg (by decide), place_f hOk, Option.bind_some, if_pos (by simp), rdD, if_neg (show ¬ (8 : Int) = 6 by decide), if_neg (show ¬ (8 : Int) = 7 by decide), if_neg (show ¬ (8 : Int) = 5 by decide), if_pos rfl, if_pos (by omega), if_pos c3]
  rw [if_neg (show ¬ (bareD D).h = who from c3)] at hE
  by_cases c5 : 0 ≤ idxP (isWho who) D.wait 0
  · rw [if_pos (show 0 ≤ idxP (isWho who) (bareD D).wait 0 from c5)] at hE
    subst hE
    refine ⟨⟨7, who, 0, plc who D.wait⟩, [], rfl, .inl rfl, rfl, ?_⟩
    exact queues_seven hOk who _ _ rfl rfl (by show 0 < idxP (isWho who) D.wait 0 + 1; omega)
  rw [if_neg (show ¬ 0 ≤ idxP (isWho who) (bareD D).wait 0 from c5)] at hE
  by_cases c6 : 4 ≤ D.wait.length
  · rw [if_pos (show 4 ≤ (bareD D).wait.length from c6)] at hE
    subst hE
    refine ⟨⟨6, who, 0, 0⟩, [], rfl, .inl rfl, rfl, ?_⟩
    refine Ev.step (fun k => by rw [squelchlaw18_FloorQueues.j1, if_neg (by decide), place_f hOk, Option.bind_some, if_pos (by simp), rdD, if_pos rfl]) ?_
    refine Ev.bind hmem ?_
    simp only [decide_eq_true c1, if_true, if_neg (show ¬ (D.wait.length : Int) < 4 by omega)]
    refine Ev.bind heq ?_
    simp only [if_true]
    exact Ev.now _
  rw [if_neg (show ¬ 4 ≤ (bareD D).wait.length from c6)] at hE
  have hplc := plc_put who prio D.wait h.ok.wok.sort (idx_neg c5)
  unfold queueD at hE
  split at hE
  · subst hE
    refine ⟨⟨7, who, 0, (posQ prio D.wait : Int) + 1⟩, [⟨8, D.h, D.e, 0⟩], rfl, .inr ⟨_, rfl⟩, rfl, ?_⟩
    exact queues_seven hOk who _ _ rfl hplc.symm (by show 0 < plc who (putW who prio D.wait); rw [hplc]; omega)
  · subst hE
    refine ⟨⟨7, who, 0, (posQ prio D.wait : Int) + 1⟩, [], rfl, .inl rfl, rfl, ?_⟩
    exact queues_seven hOk who _ _ rfl hplc.symm (by show 0 < plc who (putW who prio D.wait); rw [hplc]; omega)
theorem queues_l0 (who prio : Int) (hw1 : 0 < who) (hw2 : who ≤ 1073741824) (hp0 : 0 ≤ prio) (hp7 : prio ≤ 7) (l : List S32) (hl : l.length ≤ 100) (d : Nat) : ∀ (i : Nat) (D : Dk), i + d = l.length → Inv (i : Int) D → Ev (fun k => squelchlaw18_FloorQueues.l0 k who prio true l (l.length : Int) (i : Int) D.s D.e D.h D.p D.u D.l D.n D.wait D.mem) true := by
  induction d with
  | zero =>
    intro i D hi h
    have hc : can D ⟨3, who, prio, 0, 0⟩ := ⟨⟨show (1 : Int) ≤ 3 by decide, show (3 : Int) ≤ 6 by decide⟩, (askOk_iff _ _).2 (by rw [if_neg (show ¬ (3 : Int) = 6 by decide)]; exact ⟨fun _ => ⟨hp0, hp7⟩, hw1, hw2⟩)⟩
    have hdo := do_yes h.ok ⟨3, who, prio, 0, 0⟩ hc
    have hI := do_inv (inv_bare h) (by omega) ⟨3, who, prio, 0, 0⟩ hc.1 hc.2
    obtain ⟨x, r, ho, hr, hx1, hj⟩ := queues_j1 h (by omega) who prio hw1 hw2 hp0 hp7 _ rfl hI.ok
    dsimp only at hdo
    generalize doD (bareD D) ⟨3, who, prio, 0, 0⟩ = E at hdo hI ho hj
    have hout : (packD E).2.2.2.2.2.2.2.2.2.1 = x :: r := ho
    refine Ev.step (fun k => ?_) hj
    rw [squelchlaw18_FloorQueues.l0, if_neg (by omega), hdo, Option.bind_some, if_pos (packD_ok _), hout]
    have h3 : ¬ (((x :: r).length : Int) = 0) ∧ ¬ (((x :: r).length : Int) > 2) ∧ (0 : Int) < ((x :: r).length : Int) := by
      rcases hr with rfl | ⟨y, rfl⟩
      · exact out_one x
      · exact out_two x y
    rw [if_neg h3.1, if_neg h3.2.1, if_pos h3.2.2, rdD, hx1, bne_self_eq_false]
    rfl
  | succ d ih =>
    intro i D hi h
    have hil : i < l.length := by omega
    by_cases hc : can D l[i]
    · have hI := do_inv (inv_bare h) (by omega) l[i] hc.1 hc.2
      refine Ev.step (fun k => ?_) (ih (i + 1) (doD (bareD D) l[i]) (by omega) (by push_cast; exact hI))
      rw [squelchlaw18_FloorQueues.l0, if_pos (by omega), if_pos (by omega), if_pos (by omega), rdA l i hil, do_yes h.ok l[i] hc, Option.bind_some, if_pos (packD_ok _), sx i (by omega)]
      rfl
    · refine Ev.step (fun k => ?_) (ih (i + 1) D (by omega) (inv_mono h (by omega)))
      rw [squelchlaw18_FloorQueues.l0, if_pos (by omega), if_pos (by omega), if_pos (by omega), rdA l i hil, do_no h.ok l[i] hc, Option.bind_some, if_neg (by decide), sx i (by omega)]
theorem tm8 (g : Int) : 0 ≤ Int.tmod (wrap64 (Int.tmod g 8 + 8)) 8 ∧ Int.tmod (wrap64 (Int.tmod g 8 + 8)) 8 ≤ 7 := by
  have h1 := Int.tmod_lt_of_pos g (show (0 : Int) < 8 by decide)
  have h2 : -8 < Int.tmod g 8 := Int.lt_tmod_of_pos g (by decide)
  rw [w64' (Int.tmod g 8 + 8) (by omega) (by omega)]
  have h3 := Int.tmod_nonneg 8 (show 0 ≤ Int.tmod g 8 + 8 by omega)
  have h4 := Int.tmod_lt_of_pos (Int.tmod g 8 + 8) (show (0 : Int) < 8 by decide)
  omega
theorem FloorQueues : squelchlaw18_FloorQueues.Pure := by
  intro l0 a1 a2 _ _ _
  refine Ev.rounds ?_
  unfold squelchlaw18_FloorQueues.f
  refine Ev.bind live_ev ?_
  simp only [few_f, Option.bind_some]
  have h1 := tm8 a1
  have h2 := tm8 a2
  by_cases hl : (l0.length : Int) ≤ 100
  · simp only [decide_eq_true hl, if_true]
    exact queues_l0 _ _ (by rw [w64' _ (by omega) (by omega)]; omega) (by rw [w64' _ (by omega) (by omega)]; omega) h2.1 h2.2 l0 (by omega) l0.length 0 newD (Nat.zero_add _) inv_new
  · simp only [decide_eq_false hl]
    exact Ev.now _
end Go.Proofs.Ytflfmpfmnhpbmaa.Pure
