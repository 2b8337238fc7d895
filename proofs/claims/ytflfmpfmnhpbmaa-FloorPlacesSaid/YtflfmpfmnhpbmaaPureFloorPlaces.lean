/- FloorPlaces: its plain law. -/
import Derived.Test.YtflfmpfmnhpbmaaPAx10
import Derived.Test.YtflfmpfmnhpbmaaFm
import Derived.Test.YtflfmpfmnhpbmaaFr
set_option linter.unusedVariables false
set_option linter.unusedSimpArgs false
namespace Go.Proofs.Ytflfmpfmnhpbmaa.Pure
open Go.RowKit Go.Proofs.Ytflfmpfmnhpbmaa.PA Go.Proofs.YtflfmpfmnhpbmaaW.PrintWords Go.Proofs.YtflfmpfmnhpbmaaW.PrintLast Go.Proofs.Ytflfmpfmnhpbmaa.FL
theorem one_of (x : Int) (l : List Int) (hs : l.Pairwise (· < ·)) : (l.filter (fun t => decide (x = t))).length = if x ∈ l then 1 else 0 := by
  induction l with
  | nil => rfl
  | cons m r ih =>
    have p := List.pairwise_cons.1 hs
    by_cases hx : x = m
    · have hn : x ∉ r := fun h => by have := p.1 x h; omega
      have e : r.filter (fun t => decide (x = t)) = [] := by rw [List.filter_eq_nil_iff]; intro t ht h; exact hn (of_decide_eq_true h ▸ ht)
      rw [List.filter_cons_of_pos (by simpa using hx), e, if_pos (by rw [hx]; exact List.mem_cons_self ..)]; rfl
    · rw [List.filter_cons_of_neg (by simpa using hx), ih p.2]
      by_cases hr : x ∈ r
      · rw [if_pos hr, if_pos (List.mem_cons_of_mem _ hr)]
      · rw [if_neg hr, if_neg (fun h => by rcases List.mem_cons.1 h with h | h; exact hx h; exact hr h)]
theorem or_len (p q : Int → Bool) (l : List Int) (h : ∀ t ∈ l, p t = true → q t = false) : (l.filter (fun t => p t || q t)).length = (l.filter p).length + (l.filter q).length := by
  induction l with
  | nil => rfl
  | cons m r ih =>
    have ih := ih (fun t ht => h t (List.mem_cons_of_mem _ ht))
    cases hp : p m with
    | true =>
      have hq := h m (List.mem_cons_self ..) hp
      rw [List.filter_cons_of_pos (by rw [hp]; rfl), List.filter_cons_of_pos hp, List.filter_cons_of_neg (by rw [hq]; decide), List.length_cons, List.length_cons, ih]; omega
    | false =>
      cases hq : q m with
      | true => rw [List.filter_cons_of_pos (by rw [hq]; simp), List.filter_cons_of_neg (by rw [hp]; decide), List.filter_cons_of_pos hq, List.length_cons, List.length_cons, ih]; omega
      | false => rw [List.filter_cons_of_neg (by rw [hp, hq]; decide), List.filter_cons_of_neg (by rw [hp]; decide), List.filter_cons_of_neg (by rw [hq]; decide), ih]
def waits (w : List S43) (t : Int) : Bool := w.any (fun x => decide (x.f0 = t))
theorem cnt_in (mem : List Int) (hs : mem.Pairwise (· < ·)) (w : List S43) (hd : w.Pairwise (fun a b => a.f0 ≠ b.f0)) (hin : ∀ x ∈ w, x.f0 ∈ mem) : (mem.filter (waits w)).length = w.length := by
  induction w with
  | nil =>
    have : mem.filter (waits []) = [] := by rw [List.filter_eq_nil_iff]; intro t _; simp [waits]
    rw [this]; rfl
  | cons x r ih =>
    have p := List.pairwise_cons.1 hd
    have e : waits (x :: r) = fun t => decide (x.f0 = t) || waits r t := by funext t; rfl
    rw [e, or_len, ih p.2 (fun y hy => hin y (List.mem_cons_of_mem _ hy)), one_of _ _ hs, if_pos (hin x (List.mem_cons_self ..)), List.length_cons]
    · omega
    · intro t _ ht
      have ht := of_decide_eq_true ht
      unfold waits
      rw [List.any_eq_false]
      intro y hy
      have := p.1 y hy
      simp; omega
theorem waits_plc (w : List S43) (t : Int) : waits w t = decide (plc t w > 0) := by
  unfold waits
  by_cases h : ∃ x ∈ w, x.f0 = t
  · rw [decide_eq_true ((plc_pos t w).2 h)]
    obtain ⟨x, hx, e⟩ := h
    exact List.any_eq_true.2 ⟨x, hx, decide_eq_true e⟩
  · rw [decide_eq_false (fun q => h ((plc_pos t w).1 q)), List.any_eq_false]
    exact fun x hx q => h ⟨x, hx, of_decide_eq_true q⟩
theorem plc_own (w : List S43) (hd : w.Pairwise (fun a b => a.f0 ≠ b.f0)) (i : Nat) (hi : i < w.length) : plc (w[i]).f0 w = (i : Int) + 1 := by
  have e : w = w.take i ++ w[i] :: w.drop (i + 1) := by rw [← List.drop_eq_getElem_cons hi, List.take_append_drop]
  have hd' := hd
  rw [e] at hd'
  have p := (List.pairwise_append.1 hd').2.2
  have hy : ∀ y ∈ w.take i, y.f0 ≠ (w[i]).f0 := fun y hy => p y hy _ (List.mem_cons_self ..)
  have := (idx_dist (w.take i) w[i] (w.drop (i + 1))).2 hy
  unfold plc
  rw [← e] at this
  rw [this, List.length_take]
  omega
theorem places_l1 {D : Dk} (h : Ok D) (d : Nat) : ∀ j : Nat, j + d = D.mem.length → Ev (fun k => squelchlaw18_FloorPlaces.l1 k true (((D.mem.take j).filter (waits D.wait)).length : Int) D.mem (D.mem.length : Int) (j : Int) D.s D.e D.h D.p D.u D.l D.n D.wait D.mem) true := by
  have hml := h.ml
  induction d with
  | zero =>
    intro j hj
    have hmany := cnt_in D.mem h.rise D.wait h.wok.dist (fun x hx => (h.wok.each x hx).1)
    have e1 : plc D.h D.wait = 0 := (plc_zero _ _).2 fun x hx => (h.wok.each x hx).2.1
    have e2 : plc 0 D.wait = 0 := (plc_zero _ _).2 fun x hx => by have := (h.mpos _ (h.wok.each x hx).1).1; omega
    refine Ev.step (f := fun _ => some true) (fun k => ?_) (Ev.now _)
    rw [squelchlaw18_FloorPlaces.l1, if_neg (by omega), if_pos rfl, show j = D.mem.length by omega, List.take_length, hmany, if_pos rfl, place_f h, Option.bind_some, e1, if_pos rfl, place_f h, Option.bind_some, e2]
    rfl
  | succ d ih =>
    intro j hj
    have hjl : j < D.mem.length := by omega
    have hi := ih (j + 1) (by omega)
    have ht : D.mem.take (j + 1) = D.mem.take j ++ [D.mem[j]] := by rw [List.take_add_one, List.getElem?_eq_getElem hjl]; rfl
    rw [ht, List.filter_append, List.length_append] at hi
    have hlen : ((D.mem.take j).filter (waits D.wait)).length ≤ 8 := Nat.le_trans (List.length_filter_le _ _) (by rw [List.length_take]; omega)
    refine Ev.step (fun k => ?_) hi
    rw [squelchlaw18_FloorPlaces.l1, if_pos (by omega), if_pos (by omega), if_pos (by omega), rdI _ j hjl, place_f h, Option.bind_some]
    have hw := waits_plc D.wait D.mem[j]
    by_cases hp : plc D.mem[j] D.wait > 0
    · rw [if_pos hp, List.filter_cons_of_pos (by rw [hw]; exact decide_eq_true hp), List.filter_nil, w64' _ (by omega) (by omega), sx j (by omega)]
      rfl
    · rw [if_neg hp, List.filter_cons_of_neg (by rw [hw, decide_eq_false hp]; decide), List.filter_nil, sx j (by omega)]
      rfl
theorem places_l0 {D : Dk} (h : Ok D) (d : Nat) : ∀ i : Nat, i + d = D.wait.length → Ev (fun k => squelchlaw18_FloorPlaces.l0 k true D.wait (D.wait.length : Int) (i : Int) D.s D.e D.h D.p D.u D.l D.n D.wait D.mem) true := by
  have hwl := h.wl
  induction d with
  | zero =>
    intro i hi
    exact Ev.step (fun k => by rw [squelchlaw18_FloorPlaces.l0, if_neg (by omega)]; rfl) (places_l1 h D.mem.length 0 (Nat.zero_add _))
  | succ d ih =>
    intro i hi
    have hil : i < D.wait.length := by omega
    have hx := h.wok.each D.wait[i] (List.getElem_mem hil)
    have hm := member_ev h (D.wait[i]).f0
    rw [decide_eq_true hx.1] at hm
    refine Ev.step (fun k => by rw [squelchlaw18_FloorPlaces.l0, if_pos (by omega), if_pos (by omega), if_pos (by omega), rdW _ i hil, place_f h, Option.bind_some, plc_own _ h.wok.dist i hil, if_pos (by rw [w64' _ (by omega) (by omega)])]) ?_
    refine Ev.bind hm ?_
    simp only [if_true, if_neg hx.2.1, sx i (by omega)]
    exact ih (i + 1) (by omega)
theorem FloorPlaces : squelchlaw18_FloorPlaces.Pure := by
  intro s e h p u l n wait mem _ _ _ _ _ _ _ _ _
  refine Ev.rounds ?_
  unfold squelchlaw18_FloorPlaces.f
  refine Ev.bind live_ev ?_
  have hno : Ev (fun k => squelchlaw18_FloorPlaces.j0 k true true s e h p u l n wait mem) true := Ev.step (f := fun _ => some true) (fun k => by rw [squelchlaw18_FloorPlaces.j0, if_pos rfl]) (Ev.now _)
  by_cases h1 : (mem.length : Int) ≤ 50
  · by_cases h2 : (wait.length : Int) ≤ 50
    · have hf : squelchlaw18_few.f s e h p u l n wait mem [] = some true := by unfold squelchlaw18_few.f; rw [if_pos h1, if_pos h2]; rfl
      simp only [hf, Option.bind_some, if_true]
      have hck := refcheck_ev ⟨s, e, h, p, u, l, n, wait, mem, []⟩ (show wait.length ≤ 100000 by omega) (show mem.length ≤ 100000 by omega)
      refine Ev.bind hck ?_
      cases hok : okD ⟨s, e, h, p, u, l, n, wait, mem, []⟩ with
      | false => exact hno
      | true =>
        have hOk := (okD_iff _).1 hok
        have := places_l0 hOk wait.length 0 (Nat.zero_add _)
        exact Ev.step (fun k => by rw [squelchlaw18_FloorPlaces.j0, if_neg (by decide)]; rfl) this
    · have hf : squelchlaw18_few.f s e h p u l n wait mem [] = some false := by unfold squelchlaw18_few.f; rw [if_pos h1, if_neg h2]
      simp only [hf, Option.bind_some]
      exact hno
  · have hf : squelchlaw18_few.f s e h p u l n wait mem [] = some false := by unfold squelchlaw18_few.f; rw [if_neg h1]
    simp only [hf, Option.bind_some]
    exact hno
end Go.Proofs.Ytflfmpfmnhpbmaa.Pure
