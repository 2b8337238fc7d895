/- FloorServes: its plain law. -/
import Derived.Test.YtflfmpfmnhpbmaaPAx20
import Derived.Test.YtflfmpfmnhpbmaaFm
set_option linter.unusedVariables false
set_option linter.unusedSimpArgs false
namespace Go.Proofs.Ytflfmpfmnhpbmaa.Pure
open Go.RowKit Go.Proofs.Ytflfmpfmnhpbmaa.PA Go.Proofs.YtflfmpfmnhpbmaaW.PrintWords Go.Proofs.YtflfmpfmnhpbmaaW.PrintLast Go.Proofs.Ytflfmpfmnhpbmaa.FL
theorem few_f (l : List S32) : squelchlaw18_few.f 0 0 0 0 0 0 0 [] [] l = some (decide ((l.length : Int) ≤ 100)) := by
  unfold squelchlaw18_few.f
  rw [if_pos (by decide), if_pos (by decide)]
theorem rdO (l : List S38) (j : Nat) (h : j < l.length) : rd_T38 l (j : Int) = l[j] := by
  unfold rd_T38
  rw [Int.toNat_natCast, List.getD_eq_getElem?_getD, List.getElem?_eq_getElem h]; rfl
theorem on_n (D : Dk) : (onD D).n = D.n := by unfold onD; split <;> rfl
theorem do_n (D : Dk) (a : S32) : (doD D a).n = D.n ∨ (doD D a).n = a.f4 := by
  have hr : ∀ (F : Dk) (w : Int), (releaseD F w).n = F.n := fun F w => by
    unfold releaseD
    split
    · exact on_n _
    · rfl
  unfold doD
  split
  · left; unfold joinD; repeat' split
    all_goals rfl
  · split
    · left; unfold leaveD; split
      · exact hr _ _
      · rfl
    · split
      · left; unfold requestD; repeat' split
        all_goals first | rfl | (unfold queueD; split <;> rfl)
      · split
        · left; exact hr _ _
        · split
          · left; unfold renewD; split <;> rfl
          · right
            unfold tickD
            dsimp only
            have : (tickE { D with n := a.f4 }).n = a.f4 := by unfold tickE; split <;> rfl
            split
            · rw [on_n]; exact this
            · exact this
theorem do6 (D : Dk) (now : Int) : doD D ⟨6, 0, 0, 0, now⟩ = tickD D ⟨6, 0, 0, 0, now⟩ := by simp [doD]
/-- Whether one is granted it. -/
def gr (w : Int) (y : S38) : Bool := decide (y.f0 = 5) && (y.f1 == w)
theorem tick_n (D : Dk) (now : Int) : (tickD (bareD D) ⟨6, 0, 0, 0, now⟩).n = now := by
  unfold tickD
  dsimp only
  have : (tickE { bareD D with n := now }).n = now := by unfold tickE; split <;> rfl
  split
  · rw [on_n]; exact this
  · exact this
/-- The time is over: the next one is granted it. -/
theorem tick_over {D : Dk} (h : Ok D) (hs : D.s ≠ 0) (now : Int) (ho : now ≥ D.l + 3) (x : S43) (r : List S43) (hw : D.wait = x :: r) (w : Int) :
    (tickD (bareD D) ⟨6, 0, 0, 0, now⟩).wait = r ∧ (tickD (bareD D) ⟨6, 0, 0, 0, now⟩).l = now + 12 ∧ (tickD (bareD D) ⟨6, 0, 0, 0, now⟩).s ≠ 0 ∧ (x.f0 = w → ((tickD (bareD D) ⟨6, 0, 0, 0, now⟩).out.any (gr w)) = true) ∧ (tickD (bareD D) ⟨6, 0, 0, 0, now⟩).out.length ≤ 1000 := by
  have s0 := h.s0
  have s2 := h.s2
  have hov : overD { bareD D with n := now } = true := decide_eq_true ho
  have hE : (tickE { bareD D with n := now }).s = 2 ∧ (tickE { bareD D with n := now }).wait = x :: r ∧ (tickE { bareD D with n := now }).n = now ∧ (tickE { bareD D with n := now }).out.length ≤ 1 := by
    unfold tickE
    split
    · exact ⟨rfl, hw, rfl, show ([(⟨8, D.h, D.e, 0⟩ : S38)]).length ≤ 1 by simp⟩
    · rename_i hc
      have hl : lateD { bareD D with n := now } = true := by unfold lateD; rw [hov]; rfl
      have h1 : ¬ D.s = 1 := fun q => hc ⟨q, hl⟩
      exact ⟨show D.s = 2 by omega, hw, rfl, show ([] : List S38).length ≤ 1 by simp⟩
  unfold tickD
  dsimp only
  rw [if_pos ⟨hE.1, hov⟩]
  generalize tickE { bareD D with n := now } = F at hE
  obtain ⟨_, h2, h3, h4⟩ := hE
  unfold onD
  rw [h2]
  refine ⟨rfl, ?_, show (1 : Int) ≠ 0 by decide, fun e => ?_, ?_⟩
  · show F.n + 12 = now + 12
    rw [h3]
  · show (F.out ++ [(⟨5, x.f0, F.e + 1, 0⟩ : S38)]).any (gr w) = true
    rw [List.any_append, Bool.or_eq_true]
    right
    simp [gr, e]
  · show (F.out ++ [(⟨5, x.f0, F.e + 1, 0⟩ : S38)]).length ≤ 1000
    rw [List.length_append]; simp; omega
/-- The time isn't over: all who wait go on waiting. -/
theorem tick_not {D : Dk} (hs : D.s ≠ 0) (now : Int) (ho : ¬ now ≥ D.l + 3) (w : Int) :
    (tickD (bareD D) ⟨6, 0, 0, 0, now⟩).wait = D.wait ∧ (tickD (bareD D) ⟨6, 0, 0, 0, now⟩).l = D.l ∧ (tickD (bareD D) ⟨6, 0, 0, 0, now⟩).s ≠ 0 ∧ ((tickD (bareD D) ⟨6, 0, 0, 0, now⟩).out.any (gr w)) = false ∧ (tickD (bareD D) ⟨6, 0, 0, 0, now⟩).out.length ≤ 1000 := by
  have hov : ¬ overD { bareD D with n := now } = true := by unfold overD; rw [decide_eq_true_iff]; exact ho
  unfold tickD
  dsimp only
  rw [if_neg (fun q => hov q.2)]
  unfold tickE
  split
  · exact ⟨rfl, rfl, show (2 : Int) ≠ 0 by decide, rfl, show ([(⟨8, D.h, D.e, 0⟩ : S38)]).length ≤ 1000 by simp⟩
  · exact ⟨rfl, rfl, hs, rfl, show ([] : List S38).length ≤ 1000 by simp⟩
theorem serves_l3 (D E : Dk) (late now : Int) (l : List S43) (i : Nat) (w wp : Int) (hlen : E.out.length ≤ 1000) (d : Nat) :
    ∀ (j : Nat) (b : Bool), j + d = E.out.length →
      Ev (fun k => squelchlaw18_FloorServes.l2 k true late (b || (E.out.drop j).any (gr w)) (wrap64 (now + 1)) l (l.length : Int) (i : Int) D.s D.e D.h D.p D.u D.l D.n D.wait D.mem w wp E.s E.e E.h E.p E.u E.l E.n E.wait E.mem) true →
      Ev (fun k => squelchlaw18_FloorServes.l3 k true late b now l (l.length : Int) (i : Int) E.out (E.out.length : Int) (j : Int) D.s D.e D.h D.p D.u D.l D.n D.wait D.mem w wp E.s E.e E.h E.p E.u E.l E.n E.wait E.mem) true := by
  induction d with
  | zero =>
    intro j b hj hn
    rw [List.drop_eq_nil_of_le (by omega), List.any_nil, Bool.or_false] at hn
    exact Ev.step (fun k => by rw [squelchlaw18_FloorServes.l3, if_neg (by omega)]) hn
  | succ d ih =>
    intro j b hj hn
    have hjl : j < E.out.length := by omega
    rw [List.drop_eq_getElem_cons hjl, List.any_cons, ← Bool.or_assoc] at hn
    refine Ev.step (fun k => ?_) (ih (j + 1) (b || gr w E.out[j]) (by omega) hn)
    rw [squelchlaw18_FloorServes.l3, if_pos (by omega), if_pos (by omega), if_pos (by omega), rdO _ j hjl, sx j (by omega)]
    cases b with
    | true => rw [if_pos rfl]; rfl
    | false =>
      rw [if_neg (by decide)]
      by_cases c5 : (E.out[j]).f0 = 5
      · rw [if_pos c5]
        have : (false || gr w E.out[j]) = ((E.out[j]).f1 == w) := by unfold gr; rw [decide_eq_true c5]; simp
        rw [this]
      · rw [if_neg c5]
        have : (false || gr w E.out[j]) = false := by unfold gr; rw [decide_eq_false c5]; rfl
        rw [this]
theorem serves_done (D G : Dk) (late now : Int) (l : List S43) (i : Nat) (w wp : Int)
    (hnext : Ev (fun k => squelchlaw18_FloorServes.l1 k true l (l.length : Int) (wrap64 ((i : Int) + 1)) D.s D.e D.h D.p D.u D.l D.n D.wait D.mem) true) :
    Ev (fun k => squelchlaw18_FloorServes.l2 k true late true now l (l.length : Int) (i : Int) D.s D.e D.h D.p D.u D.l D.n D.wait D.mem w wp G.s G.e G.h G.p G.u G.l G.n G.wait G.mem) true := by
  have hj : Ev (fun k => squelchlaw18_FloorServes.j3 k true late true now l (l.length : Int) (i : Int) false D.s D.e D.h D.p D.u D.l D.n D.wait D.mem w wp G.s G.e G.h G.p G.u G.l G.n G.wait G.mem) true :=
    Ev.step (fun k => by rw [squelchlaw18_FloorServes.j3, if_neg (by decide), if_pos rfl]) hnext
  refine Ev.step (fun k => ?_) hj
  rw [squelchlaw18_FloorServes.l2]
  split
  · rfl
  · rfl
theorem serves_l2 (D : Dk) (late T base : Int) (l : List S43) (i : Nat) (w wp : Int) (hT : T ≤ late) (hlate : late ≤ 2147483648)
    (hnext : Ev (fun k => squelchlaw18_FloorServes.l1 k true l (l.length : Int) (wrap64 ((i : Int) + 1)) D.s D.e D.h D.p D.u D.l D.n D.wait D.mem) true) (d : Nat) :
    ∀ (now m : Int) (G : Dk) (pre : List S43) (x : S43) (r : List S43), now + (d : Int) = late + 1 → 0 ≤ now → Inv m G → m ≤ now + 1000 → G.n ≤ now → G.s ≠ 0 → G.wait = pre ++ x :: r → x.f0 = w → now + 15 * (pre.length : Int) ≤ T → G.l + 3 + 15 * (pre.length : Int) ≤ T →
      Ev (fun k => squelchlaw18_FloorServes.l2 k true late false now l (l.length : Int) (i : Int) D.s D.e D.h D.p D.u D.l D.n D.wait D.mem w wp G.s G.e G.h G.p G.u G.l G.n G.wait G.mem) true := by
  induction d with
  | zero => intro now m G pre x r hd; intros; exfalso; omega
  | succ d ih =>
    intro now m G pre x r hd hn0 h hm hGn hs hw hxw hb1 hb2
    have hc : can G ⟨6, 0, 0, 0, now⟩ := ⟨⟨show (1 : Int) ≤ 6 by decide, show (6 : Int) ≤ 6 by decide⟩, (askOk_iff _ _).2 (by rw [if_pos (show (6 : Int) = 6 from rfl)]; exact ⟨hGn, show now ≤ 1099511627776 by omega⟩)⟩
    have hdo := do_yes h.ok ⟨6, 0, 0, 0, now⟩ hc
    have hI := do_inv (inv_bare h) (by omega) ⟨6, 0, 0, 0, now⟩ hc.1 hc.2
    rw [do6] at hdo hI
    have hEn := tick_n G now
    have ew : wrap64 (now + 1) = now + 1 := w64' _ (by omega) (by omega)
    dsimp only at hdo
    have hj3 : Ev (fun k => squelchlaw18_FloorServes.j3 k true late false now l (l.length : Int) (i : Int) true D.s D.e D.h D.p D.u D.l D.n D.wait D.mem w wp G.s G.e G.h G.p G.u G.l G.n G.wait G.mem) true := by
      by_cases ho : now ≥ G.l + 3
      · cases pre with
        | nil =>
          obtain ⟨_, _, _, t4, t5⟩ := tick_over h.ok hs now ho x r hw w
          have t4 := t4 hxw
          generalize tickD (bareD G) ⟨6, 0, 0, 0, now⟩ = E at *
          have h3 := serves_l3 D E late now l i w wp t5 E.out.length 0 false (Nat.zero_add _) (by rw [List.drop_zero, t4]; exact serves_done D E late _ l i w wp hnext)
          exact Ev.step (fun k => by rw [squelchlaw18_FloorServes.j3, if_pos rfl, hdo, Option.bind_some, if_pos (packD_ok _)]; rfl) h3
        | cons y pre' =>
          obtain ⟨t1, t2, t3, t4, t5⟩ := tick_over h.ok hs now ho y (pre' ++ x :: r) hw w
          have hlen : ((y :: pre').length : Int) = (pre'.length : Int) + 1 := by rw [List.length_cons]; omega
          rw [hlen] at hb1 hb2
          generalize tickD (bareD G) ⟨6, 0, 0, 0, now⟩ = E at *
          have h3 := serves_l3 D E late now l i w wp t5 E.out.length 0 false (Nat.zero_add _) (by
            rw [List.drop_zero, ew]
            cases hq : E.out.any (gr w) with
            | true => exact serves_done D E late _ l i w wp hnext
            | false => exact ih (now + 1) (m + 1) E pre' x r (by omega) (by omega) hI (by omega) (by omega) t3 t1 hxw (by omega) (by omega))
          exact Ev.step (fun k => by rw [squelchlaw18_FloorServes.j3, if_pos rfl, hdo, Option.bind_some, if_pos (packD_ok _)]; rfl) h3
      · obtain ⟨t1, t2, t3, t4, t5⟩ := tick_not (D := G) hs now ho w
        generalize tickD (bareD G) ⟨6, 0, 0, 0, now⟩ = E at *
        have h3 := serves_l3 D E late now l i w wp t5 E.out.length 0 false (Nat.zero_add _) (by
          rw [List.drop_zero, ew, t4]
          exact ih (now + 1) (m + 1) E pre x r (by omega) (by omega) hI (by omega) (by omega) t3 (t1.trans hw) hxw (by omega) (by omega))
        exact Ev.step (fun k => by rw [squelchlaw18_FloorServes.j3, if_pos rfl, hdo, Option.bind_some, if_pos (packD_ok _)]; rfl) h3
    exact Ev.step (fun k => by rw [squelchlaw18_FloorServes.l2, if_pos (by omega)]; rfl) hj3
theorem serves_l1 {m : Int} {D : Dk} (h : Inv m D) (hm : m ≤ 100) (hn : D.n ≤ 1073741824) (d : Nat) : ∀ i : Nat, i + d = D.wait.length → Ev (fun k => squelchlaw18_FloorServes.l1 k true D.wait (D.wait.length : Int) (i : Int) D.s D.e D.h D.p D.u D.l D.n D.wait D.mem) true := by
  have hwl := h.ok.wl
  have n0 := h.ok.n0
  have hls := h.lease
  induction d with
  | zero => exact fun i hi => Ev.step (f := fun _ => some true) (fun k => by rw [squelchlaw18_FloorServes.l1, if_neg (by omega)]) (Ev.now _)
  | succ d ih =>
    intro i hi
    have hil : i < D.wait.length := by omega
    have hnext := ih (i + 1) (by omega)
    rw [← sx i (by omega)] at hnext
    have hs : D.s ≠ 0 := fun q => by
      have := (h.ok.idle q).2.2.2.2
      rw [this] at hil
      exact absurd hil (Nat.not_lt_zero _)
    have hw : D.wait = D.wait.take i ++ D.wait[i] :: D.wait.drop (i + 1) := by rw [← List.drop_eq_getElem_cons hil, List.take_append_drop]
    have hpl : ((D.wait.take i).length : Int) = (i : Int) := by rw [List.length_take]; omega
    have hl2 := serves_l2 D (D.n + ((i : Int) + 1) * 75) (D.n + 15 * ((i : Int) + 1)) 0 D.wait i (D.wait[i]).f0 (D.wait[i]).f1 (by omega) (by omega) hnext (((i : Int) + 1) * 75 + 1).toNat D.n m D (D.wait.take i) D.wait[i] (D.wait.drop (i + 1)) (by omega) n0 h (by omega) (Int.le_refl _) hs hw rfl (by rw [hpl]; omega) (by rw [hpl]; omega)
    refine Ev.step (fun k => ?_) hl2
    rw [squelchlaw18_FloorServes.l1, if_pos (by omega), if_pos (by omega), if_pos (by omega), rdW _ i hil, w64' ((i : Int) + 1) (by omega) (by omega), w64' (((i : Int) + 1) * 75) (by omega) (by omega), w64' (D.n + ((i : Int) + 1) * 75) (by omega) (by omega)]
theorem serves_l0 (l : List S32) (hl : l.length ≤ 100) (d : Nat) : ∀ (i : Nat) (D : Dk), i + d = l.length → Inv (i : Int) D → D.n ≤ 1073741824 → Ev (fun k => squelchlaw18_FloorServes.l0 k true l (l.length : Int) (i : Int) D.s D.e D.h D.p D.u D.l D.n D.wait D.mem) true := by
  induction d with
  | zero =>
    intro i D hi h hn
    exact Ev.step (fun k => by rw [squelchlaw18_FloorServes.l0, if_neg (by omega)]; rfl) (serves_l1 h (by omega) hn D.wait.length 0 (Nat.zero_add _))
  | succ d ih =>
    intro i D hi h hn
    have hil : i < l.length := by omega
    by_cases hb : (l[i]).f4 > 1073741824
    · exact Ev.step (f := fun _ => some true) (fun k => by rw [squelchlaw18_FloorServes.l0, if_pos (by omega), if_pos (by omega), if_pos (by omega), rdA l i hil, if_pos hb]) (Ev.now _)
    by_cases hc : can D l[i]
    · have hI := do_inv (inv_bare h) (by omega) l[i] hc.1 hc.2
      have hn2 : (doD (bareD D) l[i]).n ≤ 1073741824 := by
        rcases do_n (bareD D) l[i] with e | e
        · rw [e]; exact hn
        · rw [e]; omega
      refine Ev.step (fun k => ?_) (ih (i + 1) (doD (bareD D) l[i]) (by omega) (by push_cast; exact hI) hn2)
      rw [squelchlaw18_FloorServes.l0, if_pos (by omega), if_pos (by omega), if_pos (by omega), rdA l i hil, if_neg hb, do_yes h.ok l[i] hc, Option.bind_some, if_pos (packD_ok _), sx i (by omega)]
      rfl
    · refine Ev.step (fun k => ?_) (ih (i + 1) D (by omega) (inv_mono h (by omega)) hn)
      rw [squelchlaw18_FloorServes.l0, if_pos (by omega), if_pos (by omega), if_pos (by omega), rdA l i hil, if_neg hb, do_no h.ok l[i] hc, Option.bind_some, if_neg (by decide), sx i (by omega)]
theorem FloorServes : squelchlaw18_FloorServes.Pure := by
  intro l0 _
  refine Ev.rounds ?_
  unfold squelchlaw18_FloorServes.f
  refine Ev.bind live_ev ?_
  simp only [few_f, Option.bind_some]
  by_cases hl : (l0.length : Int) ≤ 100
  · simp only [decide_eq_true hl, if_true]
    exact serves_l0 l0 (by omega) l0.length 0 newD (Nat.zero_add _) inv_new (show (0 : Int) ≤ 1073741824 by decide)
  · simp only [decide_eq_false hl]
    exact Ev.now _
end Go.Proofs.Ytflfmpfmnhpbmaa.Pure
