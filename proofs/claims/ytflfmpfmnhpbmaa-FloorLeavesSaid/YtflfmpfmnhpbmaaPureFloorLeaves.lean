/- FloorLeaves: its plain law. -/
import Derived.Test.YtflfmpfmnhpbmaaPAx17
import Derived.Test.YtflfmpfmnhpbmaaFm
set_option linter.unusedVariables false
set_option linter.unusedSimpArgs false
namespace Go.Proofs.Ytflfmpfmnhpbmaa.Pure
open Go.RowKit Go.Proofs.Ytflfmpfmnhpbmaa.PA Go.Proofs.YtflfmpfmnhpbmaaW.PrintWords Go.Proofs.YtflfmpfmnhpbmaaW.PrintLast Go.Proofs.Ytflfmpfmnhpbmaa.FL
theorem few_f (l : List S32) : squelchlaw18_few.f 0 0 0 0 0 0 0 [] [] l = some (decide ((l.length : Int) ≤ 100)) := by
  unfold squelchlaw18_few.f
  rw [if_pos (by decide), if_pos (by decide)]
/-- Whether frames of one go on. -/
def fw (D : Dk) (t : Int) : Bool := decide (D.s ≠ 0 ∧ D.h = t)
theorem one_of (x : Int) (l : List Int) (hs : l.Pairwise (· < ·)) : (l.filter (fun t => decide (x = t))).length = if x ∈ l then 1 else 0 := by
  induction l with
  | nil => rfl
  | cons m r ih =>
    have p := List.pairwise_cons.1 hs
    by_cases hx : x = m
    · have hn : x ∉ r := fun h => by have := p.1 x h; omega
      have e : r.filter (fun t => decide (x = t)) = [] := by rw [List.filter_eq_nil_iff]; intro t ht h; exact hn (of_decide_eq_true h ▸ ht)
      rw [List.filter_cons_of_pos (by simpa using hx), e, if_pos (by rw [hx]; exact List.mem_cons_self ..)]; rfl
    · rw [List.filter_cons_of_neg (by simpa using hx), ih p.2]
      by_cases hr : x ∈ r
      · rw [if_pos hr, if_pos (List.mem_cons_of_mem _ hr)]
      · rw [if_neg hr, if_neg (fun h => by rcases List.mem_cons.1 h with h | h; exact hx h; exact hr h)]
theorem many_f {D : Dk} (h : Ok D) : (D.mem.filter (fw D)).length = if D.s ≠ 0 then 1 else 0 := by
  by_cases hs : D.s ≠ 0
  · have e : fw D = fun t => decide (D.h = t) := by funext t; unfold fw; simp [hs]
    rw [e, one_of _ _ h.rise, if_pos (h.busy hs).1, if_pos hs]
  · rw [if_neg hs]
    have : D.mem.filter (fw D) = [] := by rw [List.filter_eq_nil_iff]; intro t ht; unfold fw; simp; intro h; exact absurd h (by simpa using hs)
    rw [this]; rfl
theorem leaves_l1 {m : Int} {D : Dk} (h : Inv m D) (hm : m ≤ 1000) (l : List S32) (i : Nat) (hnext : Ev (fun k => squelchlaw18_FloorLeaves.l0 k true l (l.length : Int) (wrap64 ((i : Int) + 1)) D.s D.e D.h D.p D.u D.l D.n D.wait D.mem) true) (d : Nat) :
    ∀ j : Nat, j + d = D.mem.length → Ev (fun k => squelchlaw18_FloorLeaves.l1 k true (((D.mem.take j).filter (fw D)).length : Int) l (l.length : Int) (i : Int) D.mem (D.mem.length : Int) (j : Int) D.s D.e D.h D.p D.u D.l D.n D.wait D.mem) true := by
  have hml := h.ok.ml
  have he0 := h.ok.e0
  have hfew := h.few
  induction d with
  | zero =>
    intro j hj
    have hmany := many_f h.ok
    refine Ev.step (fun k => ?_) hnext
    rw [squelchlaw18_FloorLeaves.l1, if_neg (by omega), show j = D.mem.length by omega, List.take_length, hmany]
    by_cases hs : D.s ≠ 0
    · rw [if_pos hs, if_neg (by simp [hs]), if_neg (by decide)]
    · rw [if_neg hs, if_neg (by simp at hs; simp [hs]), if_neg (by decide)]
  | succ d ih =>
    intro j hj
    have hjl : j < D.mem.length := by omega
    have hi := ih (j + 1) (by omega)
    have ht : D.mem.take (j + 1) = D.mem.take j ++ [D.mem[j]] := by rw [List.take_add_one, List.getElem?_eq_getElem hjl]; rfl
    rw [ht, List.filter_append] at hi
    have hlen : ((D.mem.take j).filter (fw D)).length ≤ 8 := Nat.le_trans (List.length_filter_le _ _) (by rw [List.length_take]; omega)
    have hf1 : ∀ k, floor_Forward.f k D.s D.e D.h D.p D.u D.l D.n D.wait D.mem D.mem[j] (wrap64 (D.e + 1)) = some false := fun k => by
      rw [forward_f h.ok, decide_eq_false]
      rintro ⟨_, _, q⟩
      rw [w64' _ (by omega) (by omega)] at q
      omega
    have hf2 : ∀ k, floor_Forward.f k D.s D.e D.h D.p D.u D.l D.n D.wait D.mem D.mem[j] (wrap64 (D.e - 1)) = some false := fun k => by
      rw [forward_f h.ok, decide_eq_false]
      rintro ⟨_, _, q⟩
      rw [w64' _ (by omega) (by omega)] at q
      omega
    have hj3 : Ev (fun k => squelchlaw18_FloorLeaves.j3 k true ((((D.mem.take j).filter (fw D)) ++ [D.mem[j]].filter (fw D)).length : Int) D.mem[j] l (l.length : Int) (i : Int) D.mem (D.mem.length : Int) (j : Int) D.s D.e D.h D.p D.u D.l D.n D.wait D.mem) true := by
      refine Ev.step (fun k => ?_) hi
      rw [squelchlaw18_FloorLeaves.j3, hf1, Option.bind_some, if_neg (by decide), hf2, Option.bind_some, if_neg (by decide), sx j (by omega)]
    have hfe : fw D D.mem[j] = decide (D.s ≠ 0 ∧ D.h = D.mem[j] ∧ D.e = D.e) := by unfold fw; simp
    refine Ev.step (fun k => ?_) hj3
    rw [squelchlaw18_FloorLeaves.l1, if_pos (by omega), if_pos (by omega), if_pos (by omega), rdI _ j hjl, forward_f h.ok, Option.bind_some, ← hfe]
    by_cases hf : fw D D.mem[j] = true
    · rw [if_pos hf, List.filter_cons_of_pos hf, List.filter_nil, List.length_append, w64' _ (by omega) (by omega)]
      rfl
    · rw [if_neg hf, List.filter_cons_of_neg hf, List.filter_nil, List.append_nil]
theorem on_mem (D : Dk) : (onD D).mem = D.mem := by unfold onD; split <;> rfl
theorem rel_mem (D : Dk) (who : Int) : (releaseD D who).mem = D.mem := by
  unfold releaseD
  split
  · exact on_mem _
  · rfl
theorem do2 (D : Dk) (who : Int) : doD D ⟨2, who, 0, 0, 0⟩ = leaveD D who (less who D.mem : Int) (decide (who ∈ D.mem)) := by simp [doD]
theorem leaves_l2 (l : List Int) (hl : l.length ≤ 8) (d : Nat) : ∀ (j : Nat) (m : Int) (D : Dk), j + d = l.length → Inv m D → m ≤ 100 + (j : Int) → D.mem = l.drop j → Ev (fun k => squelchlaw18_FloorLeaves.l2 k true l (l.length : Int) (j : Int) D.s D.e D.h D.p D.u D.l D.n D.wait D.mem) true := by
  induction d with
  | zero =>
    intro j m D hj h hm hd
    have hnil : D.mem = [] := by rw [hd]; exact List.drop_eq_nil_of_le (by omega)
    have hs : D.s = 0 := Decidable.byContradiction fun hs => by have := (h.ok.busy hs).1; rw [hnil] at this; cases this
    have hw : D.wait = [] := (h.ok.idle hs).2.2.2.2
    refine Ev.step (f := fun _ => some true) (fun k => ?_) (Ev.now _)
    rw [squelchlaw18_FloorLeaves.l2, if_neg (by omega), if_pos rfl, if_pos hs, hnil, hw]
    simp [wrap64]
  | succ d ih =>
    intro j m D hj h hm hd
    have hjl : j < l.length := by omega
    have hcons : D.mem = l[j] :: l.drop (j + 1) := by rw [hd]; exact List.drop_eq_getElem_cons hjl
    have hin : l[j] ∈ D.mem := by rw [hcons]; exact List.mem_cons_self ..
    have hpos := h.ok.mpos _ hin
    have hc : can D ⟨2, l[j], 0, 0, 0⟩ := ⟨⟨show (1 : Int) ≤ 2 by decide, show (2 : Int) ≤ 6 by decide⟩, (askOk_iff _ _).2 (by rw [if_neg (show ¬ (2 : Int) = 6 by decide)]; exact ⟨fun q => absurd (show (2 : Int) = 3 from q) (by decide), hpos⟩)⟩
    have hdo := do_yes h.ok ⟨2, l[j], 0, 0, 0⟩ hc
    have hI := do_inv (inv_bare h) (by omega) ⟨2, l[j], 0, 0, 0⟩ hc.1 hc.2
    have hE : (doD (bareD D) ⟨2, l[j], 0, 0, 0⟩).mem = l.drop (j + 1) := by
      rw [do2, leaveD_eq (inv_bare h).ok]
      rw [if_pos (show l[j] ∈ (bareD D).mem from hin), rel_mem]
      show D.mem.filter (fun t => t != l[j]) = _
      have hr := h.ok.rise
      rw [hcons] at hr ⊢
      have p := List.pairwise_cons.1 hr
      rw [List.filter_cons_of_neg (by simp), List.filter_eq_self]
      intro t ht
      have := p.1 t ht
      simp; omega
    generalize doD (bareD D) ⟨2, l[j], 0, 0, 0⟩ = E at hdo hI hE
    have hno : l[j] ∉ E.mem := by
      rw [hE]
      intro hmem
      have hr := h.ok.rise
      rw [hcons] at hr
      have := (List.pairwise_cons.1 hr).1 _ hmem
      omega
    have hpl : plc l[j] E.wait = 0 := (plc_zero _ _).2 fun x hx e => hno (e ▸ (hI.ok.wok.each x hx).1)
    have hi := ih (j + 1) (m + 1) E (by omega) hI (by push_cast; omega) hE
    have hmem := member_ev hI.ok l[j]
    rw [decide_eq_false hno] at hmem
    refine Ev.step (fun k => by
      rw [squelchlaw18_FloorLeaves.l2, if_pos (by omega), if_pos (by omega), if_pos (by omega), rdI l j hjl, hdo, Option.bind_some, if_pos (packD_ok _)]) ?_
    refine Ev.bind (g := fun k => floor_Member.f k E.s E.e E.h E.p E.u E.l E.n E.wait E.mem l[j]) hmem ?_
    simp only [Bool.false_eq_true, if_false]
    refine Ev.congr (fun k => ?_) hi
    show (floor_Place.f k E.s E.e E.h E.p E.u E.l E.n E.wait E.mem l[j]).bind _ = _
    rw [place_f hI.ok, Option.bind_some, hpl, if_pos rfl, sx j (by omega)]
    rfl
theorem leaves_l0 (l : List S32) (hl : l.length ≤ 100) (d : Nat) : ∀ (i : Nat) (D : Dk), i + d = l.length → Inv (i : Int) D → Ev (fun k => squelchlaw18_FloorLeaves.l0 k true l (l.length : Int) (i : Int) D.s D.e D.h D.p D.u D.l D.n D.wait D.mem) true := by
  induction d with
  | zero =>
    intro i D hi h
    have hml := h.ok.ml
    refine Ev.step (fun k => by rw [squelchlaw18_FloorLeaves.l0, if_neg (by omega), if_pos (by simp; omega)]) ?_
    exact Ev.bind (Ev.now _) (leaves_l2 ([] ++ D.mem) (by simpa using hml) D.mem.length 0 i D (by simp) h (by omega) (by simp))
  | succ d ih =>
    intro i D hi h
    have hil : i < l.length := by omega
    have hj1 : ∀ E : Dk, Inv ((i + 1 : Nat) : Int) E → Ev (fun k => squelchlaw18_FloorLeaves.j1 k true l (l.length : Int) (i : Int) E.s E.e E.h E.p E.u E.l E.n E.wait E.mem) true := fun E hE => by
      have hn := ih (i + 1) E (by omega) hE
      rw [← sx i (by omega)] at hn
      exact Ev.step (fun k => by rw [squelchlaw18_FloorLeaves.j1]; rfl) (leaves_l1 hE (by omega) l i hn E.mem.length 0 (Nat.zero_add _))
    by_cases hc : can D l[i]
    · have hI := do_inv (inv_bare h) (by omega) l[i] hc.1 hc.2
      refine Ev.step (fun k => ?_) (hj1 (doD (bareD D) l[i]) (by push_cast; exact hI))
      rw [squelchlaw18_FloorLeaves.l0, if_pos (by omega), if_pos (by omega), if_pos (by omega), rdA l i hil, do_yes h.ok l[i] hc, Option.bind_some, if_pos (packD_ok _)]
      rfl
    · refine Ev.step (fun k => ?_) (hj1 D (inv_mono h (by omega)))
      rw [squelchlaw18_FloorLeaves.l0, if_pos (by omega), if_pos (by omega), if_pos (by omega), rdA l i hil, do_no h.ok l[i] hc, Option.bind_some, if_neg (by decide)]
theorem FloorLeaves : squelchlaw18_FloorLeaves.Pure := by
  intro l0 _
  refine Ev.rounds ?_
  unfold squelchlaw18_FloorLeaves.f
  refine Ev.bind live_ev ?_
  simp only [few_f, Option.bind_some]
  by_cases hl : (l0.length : Int) ≤ 100
  · simp only [decide_eq_true hl, if_true]
    exact leaves_l0 l0 (by omega) l0.length 0 newD (Nat.zero_add _) inv_new
  · simp only [decide_eq_false hl]
    exact Ev.now _
end Go.Proofs.Ytflfmpfmnhpbmaa.Pure
