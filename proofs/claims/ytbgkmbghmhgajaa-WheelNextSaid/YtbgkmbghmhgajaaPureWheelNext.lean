/- Nothing rings ahead of the time that is told next; something does at it, and each one that rings was told for that time; for all wheels. -/
import Derived.Test.YtbgkmbghmhgajaaPAx12
import Derived.Test.YtbgkmbghmhgajaaWt
set_option linter.unusedVariables false
set_option linter.unusedSimpArgs false
namespace Go.Proofs.Ytbgkmbghmhgajaa.Pure
open Go.RowKit Go.Proofs.Ytbgkmbghmhgajaa.PA Go.Proofs.YtbgkmbghmhgajaaW.PrintWords Go.Proofs.YtbgkmbghmhgajaaW.PrintLast Go.Proofs.Ytbgkmbghmhgajaa.WT

theorem next_l0 {a n : Int} {l : List S33} (h : Valid a l) (u v : List S33) (hl : l = u ++ v) (hu : ∀ t ∈ u, t.f0 = n) (d : Nat) : ∀ i : Nat, i + d = u.length → Ev (fun k => squelchlaw16_WheelNext.l0 k true n u (u.length : Int) (i : Int) a l) true := by
  have hlen : u.length ≤ 256 := by
    have := h.len
    rw [hl, List.length_append] at this
    omega
  induction d with
  | zero =>
    intro i hi
    exact Ev.step (f := fun _ => some true) (fun k => by rw [squelchlaw16_WheelNext.l0, if_neg (by omega)]) (Ev.now _)
  | succ d ih =>
    intro i hi
    have hil : i < u.length := by omega
    have hil2 : i < l.length := by rw [hl, List.length_append]; omega
    have e : l[i] = u[i] := by
      have : l[i]? = u[i]? := by rw [hl, List.getElem?_append_left hil]
      rw [List.getElem?_eq_getElem hil2, List.getElem?_eq_getElem hil] at this
      exact Option.some.inj this
    have hn : u[i].f0 = n := hu _ (List.getElem_mem hil)
    have hat := at_ev h i hil2
    rw [e, hn] at hat
    refine Ev.step (f := fun k => (wheel_At.f k a l u[i].f1).bind fun bt279 => if bt279.1 = n then (if bt279.2 = true then (squelchlaw16_WheelNext.l0 k true n u (u.length : Int) ((i + 1 : Nat) : Int) a l) else some false) else some false) (fun k => ?_) ?_
    · rw [squelchlaw16_WheelNext.l0, if_pos (by omega), if_pos (by omega), if_pos (by omega), rdT u i hil, hn]
      simp only [if_true, sx i (by omega)]
    · refine Ev.bind hat ?_
      simp only [if_true]
      exact ih (i + 1) (by omega)

theorem WheelNext : squelchlaw16_WheelNext.Pure := by
  intro a l _ _
  refine Ev.rounds (g := fun k => squelchlaw16_WheelNext.f k a l) ?_
  unfold squelchlaw16_WheelNext.f
  refine Ev.bind live_ev ?_
  simp only [if_true]
  obtain ⟨r, hr, hv⟩ := ref_ev a l
  refine Ev.bind hr ?_
  by_cases hr0 : r = 0
  · have h := hv hr0
    simp only [if_pos hr0]
    refine Ev.bind (next_ev h) ?_
    clear hv hr hr0
    cases l with
    | nil =>
      simp only [List.length_nil]
      exact Ev.congr (fun k => by rfl) (Ev.now true)
    | cons x q =>
      have hx := h.each x (by simp)
      have hlen : (((x :: q).length : Nat) : Int) = (q.length : Int) + 1 := by simp
      simp only [hlen, if_neg (show ¬ ((q.length : Int) + 1 = 0) by omega), if_true, decide_eq_false (show ¬ (x.f0 ≤ a) by omega)]
      by_cases hbig : x.f0 > 1099511627776
      · exact Ev.step (f := fun _ => some true) (fun k => by rw [squelchlaw16_WheelNext.j0, if_neg (by decide), if_pos hbig]) (Ev.now _)
      · have ha := h.a0
        have hw : wrap64 (wrap64 (x.f0 - 1) - a) = x.f0 - 1 - a := by rw [w64' (x.f0 - 1) (by omega) (by omega), w64' _ (by omega) (by omega)]
        have hT := turn_ev h (x.f0 - 1 - a) (by omega) (by omega)
        rw [if_neg (by omega), show a + (x.f0 - 1 - a) = x.f0 - 1 by omega] at hT
        have hnd : isDue (x.f0 - 1) x = false := decide_eq_false (by omega)
        have e1 : (x :: q).dropWhile (isDue (x.f0 - 1)) = x :: q := by rw [List.dropWhile_cons, if_neg (by rw [hnd]; decide)]
        have e2 : (x :: q).takeWhile (isDue (x.f0 - 1)) = [] := by rw [List.takeWhile_cons, if_neg (by rw [hnd]; decide)]
        have hV2 : Valid (x.f0 - 1) (x :: q) := by
          have := h.later (x.f0 - 1 - a) (by omega) (by omega)
          rw [show a + (x.f0 - 1 - a) = x.f0 - 1 by omega, e1] at this
          exact this
        rw [e1, e2] at hT
        have hT2 := turn_ev hV2 1 (by omega) (by omega)
        rw [if_neg (by omega), show x.f0 - 1 + 1 = x.f0 by omega] at hT2
        have hap := List.takeWhile_append_dropWhile (p := isDue x.f0) (l := x :: q)
        have hdue : isDue x.f0 x = true := decide_eq_true (by omega)
        have hne : 0 < ((x :: q).takeWhile (isDue x.f0)).length := by
          rw [List.takeWhile_cons, if_pos hdue]
          simp
        have hal := List.all_takeWhile (p := isDue x.f0) (l := x :: q)
        generalize (x :: q).takeWhile (isDue x.f0) = u at *
        generalize (x :: q).dropWhile (isDue x.f0) = v at *
        have hsum : u.length + v.length = q.length + 1 := by rw [← List.length_append, hap]; rfl
        have hu : ∀ t ∈ u, t.f0 = x.f0 := by
          intro t ht
          have h1 := of_decide_eq_true (List.all_eq_true.1 hal t ht)
          have h2 := (hV2.each t (by rw [← hap]; exact List.mem_append_left _ ht)).1
          omega
        have hlen2 := h.len
        refine Ev.step (f := fun k => (wheel_Turn.f k a (x :: q) (x.f0 - 1 - a)).bind fun bt259 => ((wheel_Turn.f k bt259.1 bt259.2.1 1).bind fun bt268 => (if bt259.2.2.2 = 0 then (if bt268.2.2.2 = 0 then (if (bt259.2.2.1.length : Int) > 0 then (squelchlaw16_WheelNext.j1 k true x.f0 bt268.2.2.1 true a (x :: q)) else (if (bt268.2.2.1.length : Int) = 0 then (squelchlaw16_WheelNext.j1 k true x.f0 bt268.2.2.1 true a (x :: q)) else (squelchlaw16_WheelNext.j1 k true x.f0 bt268.2.2.1 ((wrap64 ((bt268.2.1.length : Int) + (bt268.2.2.1.length : Int))) != ((x :: q).length : Int)) a (x :: q)))) else (squelchlaw16_WheelNext.j1 k true x.f0 bt268.2.2.1 true a (x :: q))) else (squelchlaw16_WheelNext.j1 k true x.f0 bt268.2.2.1 true a (x :: q))))) (fun k => ?_) ?_
        · rw [squelchlaw16_WheelNext.j0, if_neg (by decide), if_neg hbig, hw]
        · refine Ev.bind hT ?_
          refine Ev.bind hT2 ?_
          have hln : ((x :: q).length : Int) = (q.length : Int) + 1 := by simp
          have hlen3 : q.length + 1 ≤ 256 := by simpa using hlen2
          have e3 : (wrap64 ((v.length : Int) + (u.length : Int)) != ((x :: q).length : Int)) = false := by
            rw [w64' _ (by omega) (by omega), hln]
            simp
            omega
          simp only [if_true, List.length_nil, if_neg (show ¬ (((0 : Nat) : Int) > 0) by decide), if_neg (show ¬ ((u.length : Int) = 0) by omega), e3]
          refine Ev.step (fun k => ?_) (next_l0 h u v hap.symm hu u.length 0 (Nat.zero_add _))
          rw [squelchlaw16_WheelNext.j1, if_neg (by decide)]
          rfl
  · simp only [if_neg hr0]
    exact Ev.now _
end Go.Proofs.Ytbgkmbghmhgajaa.Pure
