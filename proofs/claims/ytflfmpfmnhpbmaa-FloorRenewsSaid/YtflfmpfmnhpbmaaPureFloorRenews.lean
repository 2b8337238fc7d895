/- FloorRenews: its plain law. -/
import Derived.Test.YtflfmpfmnhpbmaaPAx15
import Derived.Test.YtflfmpfmnhpbmaaFm
set_option linter.unusedVariables false
set_option linter.unusedSimpArgs false
namespace Go.Proofs.Ytflfmpfmnhpbmaa.Pure
open Go.RowKit Go.Proofs.Ytflfmpfmnhpbmaa.PA Go.Proofs.YtflfmpfmnhpbmaaW.PrintWords Go.Proofs.YtflfmpfmnhpbmaaW.PrintLast Go.Proofs.Ytflfmpfmnhpbmaa.FL
theorem ren_out (D : Dk) (a : S32) : (renewD (bareD D) a).out = [] := by unfold renewD; split <;> rfl
theorem do5 (D : Dk) (who n : Int) : doD D ⟨5, who, 0, n, 0⟩ = renewD D ⟨5, who, 0, n, 0⟩ := by simp [doD]
theorem renews_l1 {m : Int} {D : Dk} (h : Inv m D) (who : Int) (h1 : 0 < who) (h2 : who ≤ 1073741824) (l : List Int) (hl : l.length ≤ 1000) (d : Nat) : ∀ j : Nat, j + d = l.length → Ev (fun k => squelchlaw18_FloorRenews.l1 k who true l (l.length : Int) (j : Int) D.s D.e D.h D.p D.u D.l D.n D.wait D.mem) true := by
  induction d with
  | zero => exact fun j hj => Ev.step (f := fun _ => some true) (fun k => by rw [squelchlaw18_FloorRenews.l1, if_neg (by omega)]) (Ev.now _)
  | succ d ih =>
    intro j hj
    have hi := ih (j + 1) (by omega)
    have hjl : j < l.length := by omega
    have hc : can D ⟨5, who, 0, l[j], 0⟩ := ⟨⟨show (1 : Int) ≤ 5 by decide, show (5 : Int) ≤ 6 by decide⟩, (askOk_iff _ _).2 (by rw [if_neg (show ¬ (5 : Int) = 6 by decide)]; exact ⟨fun q => absurd (show (5 : Int) = 3 from q) (by decide), h1, h2⟩)⟩
    have hdo := do_yes h.ok ⟨5, who, 0, l[j], 0⟩ hc
    rw [do5] at hdo
    dsimp only at hdo
    have hw := h.ok.wl
    have hm := h.ok.ml
    have n0 := h.ok.n0
    have n1 := h.ok.n1
    have hls := h.lease
    have heq := eqF_ev D.s D.e D.h D.p D.u D.l D.n D.wait D.mem (by omega) (by omega)
    by_cases hP : D.s = 1 ∧ D.h = who ∧ D.e = l[j]
    · have hE : renewD (bareD D) ⟨5, who, 0, l[j], 0⟩ = { bareD D with l := D.n + 12 } := by unfold renewD; exact if_pos hP
      rw [hE] at hdo
      refine Ev.step (f := fun k => squelchlaw18_FloorRenews.j2 k who true l[j] l (l.length : Int) (j : Int) false D.s D.e D.h D.p D.u D.l D.n D.wait D.mem D.s D.e D.h D.p D.u (D.n + 12) D.n D.wait D.mem) (fun k => by
        rw [squelchlaw18_FloorRenews.l1, if_pos (by omega), if_pos (by omega), if_pos (by omega), rdI l j hjl, hdo, Option.bind_some, if_pos (packD_ok _)]; rfl) ?_
      refine Ev.step (f := fun k => squelchlaw18_FloorRenews.j3 k who true l (l.length : Int) (j : Int) true D.s D.e D.h D.p D.u D.l D.n D.wait D.mem D.s D.e D.h D.p D.u (D.n + 12) D.n D.wait D.mem) (fun k => by
        rw [squelchlaw18_FloorRenews.j2, if_neg (by decide), if_pos hP.1, forward_f h.ok, Option.bind_some, decide_eq_true (show D.s ≠ 0 ∧ D.h = who ∧ D.e = l[j] from ⟨by rw [hP.1]; decide, hP.2⟩)]) ?_
      refine Ev.step (f := fun k => squelchlaw18_FloorRenews.j4 k who true l (l.length : Int) (j : Int) false D.s D.e D.h D.p D.u D.l D.n D.wait D.mem D.s D.e D.h D.p D.u (D.n + 12) D.n D.wait D.mem) (fun k => by
        rw [squelchlaw18_FloorRenews.j3, if_pos rfl, if_pos (by rw [w64' _ (by omega) (by omega)]), decide_eq_false (by omega)]) ?_
      refine Ev.step (fun k => by rw [squelchlaw18_FloorRenews.j4, if_neg (by decide)]) ?_
      refine Ev.bind heq ?_
      simp only [if_true, sx j (by omega)]
      exact hi
    · have hE : renewD (bareD D) ⟨5, who, 0, l[j], 0⟩ = bareD D := by unfold renewD; exact if_neg hP
      rw [hE] at hdo
      refine Ev.step (f := fun k => squelchlaw18_FloorRenews.j2 k who true l[j] l (l.length : Int) (j : Int) false D.s D.e D.h D.p D.u D.l D.n D.wait D.mem D.s D.e D.h D.p D.u D.l D.n D.wait D.mem) (fun k => by
        rw [squelchlaw18_FloorRenews.l1, if_pos (by omega), if_pos (by omega), if_pos (by omega), rdI l j hjl, hdo, Option.bind_some, if_pos (packD_ok _)]; rfl) ?_
      refine Ev.step (f := fun k => squelchlaw18_FloorRenews.j3 k who true l (l.length : Int) (j : Int) false D.s D.e D.h D.p D.u D.l D.n D.wait D.mem D.s D.e D.h D.p D.u D.l D.n D.wait D.mem) (fun k => by
        rw [squelchlaw18_FloorRenews.j2, if_neg (by decide)]
        split
        · rename_i hs
          rw [forward_f h.ok, Option.bind_some, decide_eq_false (fun q => hP ⟨hs, q.2⟩)]
        · rfl) ?_
      refine Ev.step (fun k => by rw [squelchlaw18_FloorRenews.j3, if_neg (by decide)]) ?_
      refine Ev.bind heq ?_
      simp only [if_true, sx j (by omega)]
      exact hi
theorem renews_l0 (who ep : Int) (h1 : 0 < who) (h2 : who ≤ 1073741824) (l : List S32) (hl : l.length ≤ 100) (d : Nat) : ∀ (i : Nat) (D : Dk), i + d = l.length → Inv (i : Int) D → Ev (fun k => squelchlaw18_FloorRenews.l0 k who ep true l (l.length : Int) (i : Int) D.s D.e D.h D.p D.u D.l D.n D.wait D.mem) true := by
  induction d with
  | zero =>
    intro i D hi h
    refine Ev.step (fun k => by rw [squelchlaw18_FloorRenews.l0, if_neg (by omega)]) ?_
    exact Ev.bind (Ev.now _) (renews_l1 h who h1 h2 [ep, D.e] (by simp) 2 0 rfl)
  | succ d ih =>
    intro i D hi h
    have hil : i < l.length := by omega
    by_cases hc : can D l[i]
    · have hI := do_inv (inv_bare h) (by omega) l[i] hc.1 hc.2
      refine Ev.step (fun k => ?_) (ih (i + 1) (doD (bareD D) l[i]) (by omega) (by push_cast; exact hI))
      rw [squelchlaw18_FloorRenews.l0, if_pos (by omega), if_pos (by omega), if_pos (by omega), rdA l i hil, do_yes h.ok l[i] hc, Option.bind_some, if_pos (packD_ok _), sx i (by omega)]
      rfl
    · refine Ev.step (fun k => ?_) (ih (i + 1) D (by omega) (inv_mono h (by omega)))
      rw [squelchlaw18_FloorRenews.l0, if_pos (by omega), if_pos (by omega), if_pos (by omega), rdA l i hil, do_no h.ok l[i] hc, Option.bind_some, if_neg (by decide), sx i (by omega)]
theorem few_f (l : List S32) : squelchlaw18_few.f 0 0 0 0 0 0 0 [] [] l = some (decide ((l.length : Int) ≤ 100)) := by
  unfold squelchlaw18_few.f
  rw [if_pos (by decide), if_pos (by decide)]
theorem tm9 (g : Int) : 0 < wrap64 (1 + Int.tmod (wrap64 (Int.tmod g 9 + 9)) 9) ∧ wrap64 (1 + Int.tmod (wrap64 (Int.tmod g 9 + 9)) 9) ≤ 1073741824 := by
  have h1 := Int.tmod_lt_of_pos g (show (0 : Int) < 9 by decide)
  have h2 : -9 < Int.tmod g 9 := Int.lt_tmod_of_pos g (by decide)
  rw [w64' (Int.tmod g 9 + 9) (by omega) (by omega)]
  have h3 := Int.tmod_nonneg 9 (show 0 ≤ Int.tmod g 9 + 9 by omega)
  have h4 := Int.tmod_lt_of_pos (Int.tmod g 9 + 9) (show (0 : Int) < 9 by decide)
  rw [w64' _ (by omega) (by omega)]
  omega
theorem FloorRenews : squelchlaw18_FloorRenews.Pure := by
  intro l0 a1 a2 _ _ _
  refine Ev.rounds ?_
  unfold squelchlaw18_FloorRenews.f
  refine Ev.bind live_ev ?_
  simp only [few_f, Option.bind_some]
  by_cases hl : (l0.length : Int) ≤ 100
  · simp only [decide_eq_true hl, if_true]
    exact renews_l0 _ _ (tm9 a1).1 (tm9 a1).2 l0 (by omega) l0.length 0 newD (Nat.zero_add _) inv_new
  · simp only [decide_eq_false hl]
    exact Ev.now _
end Go.Proofs.Ytflfmpfmnhpbmaa.Pure
