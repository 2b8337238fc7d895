/- In an even table each number is its own symbol; one symbol alone has all numbers, however often it came; for all numbers. -/
import Derived.Test.YtdhckdeojplghaaPAx15
import Derived.Test.YtdhckdeojplghaaFtN
set_option linter.unusedVariables false
set_option linter.unusedSimpArgs false
namespace Go.Proofs.Ytdhckdeojplghaa.Pure
open Go.RowKit Go.Sort Go.Proofs.Ytdhckdeojplghaa.PA Go.Proofs.YtdhckdeojplghaaW.PrintWords Go.Proofs.YtdhckdeojplghaaW.PrintLast Go.Proofs.Ytdhckdeojplghaa.FT

theorem ones_sum (n : Nat) : (List.replicate n (1 : Int)).sum = (n : Int) := by
  induction n with
  | zero => rfl
  | succ n ih => rw [List.replicate_succ, List.sum_cons, ih]; omega
theorem fits_ones {n : Nat} (h1 : 1 ≤ n) (h2 : n ≤ 256) : Fits (List.replicate n 1) := ⟨by simpa using h1, by simpa using h2, fun m hm => by rw [List.eq_of_mem_replicate hm]; decide, by rw [ones_sum]; omega⟩
theorem even_ev {n : Nat} (h1 : 1 ≤ n) (h2 : n ≤ 256) : Ev (fun k => freq_Even.f k (n : Int)) (ps 0 (List.replicate n 1), 0) := by
  unfold freq_Even.f
  refine Ev.congr (f := fun k => freq_Even.j0 k (n : Int) false) (fun k => by rw [if_neg (by omega), decide_eq_false (by omega)]) ?_
  refine Ev.step (f := fun k => (freq_New.f k (List.replicate n 1)).bind fun bt293 => (some (bt293.1, bt293.2))) (fun k => ?_) ?_
  · have e : slices_Repeat_int_int.f [1] (n : Int) = some (List.replicate n 1) := by
      unfold slices_Repeat_int_int.f
      rw [if_pos ⟨rfl, by omega, by omega⟩, Int.toNat_natCast]
      rfl
    rw [freq_Even.j0, if_neg Bool.false_ne_true, e, Option.bind_some]
  · refine Ev.bind (new_ev _) ?_
    rw [show new_ (List.replicate n 1) = _ from if_pos (fits_ones h1 h2)]
    exact Ev.now _

theorem sort_one (x : Int) : sort_stable [x] [0] = some [0] := by
  unfold sort_stable
  rw [if_pos ⟨by decide, by decide, by simp, by simp⟩]
  congr 1
  unfold sortL
  dsimp only
  unfold Sort.insertionSort
  rw [insOuter_stop _ _ _ _ _ (by simp)]
  rfl

theorem scale_l2 (t : Int) (ht : t ≤ 16384) (d : Nat) : ∀ i : Nat, (i : Int) + d + 1 = t → Ev (fun k => freq_Scale.l2 k [1 + (i : Int)] [0] (t - 1) (i : Int)) ([0, t], 0) := by
  induction d with
  | zero =>
    intro i hi
    refine Ev.step (fun k => (freq_Scale.l2.eq_2 ..).trans (if_neg (by omega))) ?_
    refine Ev.bind (new_ev _) ?_
    have hf : Fits [1 + (i : Int)] := ⟨by simp, by simp, by simp; omega, by simp; omega⟩
    rw [show new_ [1 + (i : Int)] = _ from if_pos hf]
    refine Ev.congr (fun k => ?_) (Ev.now ([0, t], 0))
    simp only [ps]
    rw [show (0 : Int) + (1 + (i : Int)) = t by omega]
  | succ d ih =>
    intro i hi
    have hm : Int.tmod (i : Int) 1 = 0 := Int.tmod_one _
    refine Ev.step (fun k => ?_) (ih (i + 1) (by omega))
    rw [freq_Scale.l2, if_pos (by omega), if_neg (by simp)]
    simp only [List.length_singleton, Int.natCast_one, hm]
    rw [if_pos (by decide), if_pos (by decide), show rd [0] 0 = 0 from rfl, if_pos (by decide), if_pos (by decide), show rd [1 + (i : Int)] 0 = 1 + (i : Int) from rfl, cast1, w64' ((i + 1 : Nat) : Int) (by omega) (by omega), w64' (1 + (i : Int) + 1) (by omega) (by omega)]
    rw [show 1 + (i : Int) + 1 = 1 + ((i + 1 : Nat) : Int) by omega]
    rfl

theorem w1 : wrap64 (0 + 1) = 1 := w64' 1 (by decide) (by decide)
theorem w0 : wrap64 0 = 0 := w64' 0 (by decide) (by decide)
theorem scale_one (t c : Int) (h1 : 1 ≤ t) (h2 : t ≤ 16384) (h3 : 0 ≤ c) (h4 : c ≤ 999) : Ev (fun k => freq_Scale.f k t [c]) ([0, t], 0) := by
  unfold freq_Scale.f
  have hcon : Ev (fun k => slices_ContainsFunc_int_int.f k [c]) false := by
    unfold slices_ContainsFunc_int_int.f slices_IndexFunc_int_int.f
    refine Ev.bind (a := -1) ?_ (Ev.now _)
    refine Ev.step (f := fun k => slices_IndexFunc_int_int.l0 k [c] 1 1) (fun k => ?_) ?_
    · rw [show (([c] : List Int).length : Int) = 1 from rfl, slices_IndexFunc_int_int.l0, if_pos (by simp), if_pos (by simp), if_pos (by simp), show rd [c] 0 = c from rfl]
      unfold freq_Scale_1.f
      rw [if_neg (by omega), Option.bind_some, decide_eq_false (by omega), if_neg Bool.false_ne_true, w1]
    · exact Ev.step (f := fun _ => some (-1)) (fun k => by rw [slices_IndexFunc_int_int.l0, if_neg (by decide)]) (Ev.now _)
  refine Ev.congr (fun k => by rw [show (([c] : List Int).length : Int) = 1 from rfl, if_neg (by decide), if_neg (by decide), if_neg (by omega), if_neg (by omega)]) ?_
  refine Ev.bind hcon ?_
  refine Ev.step (fun k => (freq_Scale.j0.eq_2 ..).trans (if_neg Bool.false_ne_true)) ?_
  refine Ev.step (f := fun k => freq_Scale.l0 k t [c] c [c] 1 1) (fun k => ?_) ?_
  · rw [show (([c] : List Int).length : Int) = 1 from rfl, freq_Scale.l0, if_pos (by simp), if_pos (by simp), if_pos (by simp), show rd [c] 0 = c from rfl, Int.zero_add c, w64' c (by omega) (by omega), w1]
  have e : slices_Repeat_int_int.f [1] 1 = some [1] := by
    unfold slices_Repeat_int_int.f
    rw [if_pos ⟨rfl, by decide, by decide⟩]
    rfl
  refine Ev.step (f := fun k => freq_Scale.l1 k c (t - 1) (t - 1) [1] [0] [c] 1 0 [0]) (fun k => ?_) ?_
  · rw [freq_Scale.l0, if_neg (by decide), show (([c] : List Int).length : Int) = 1 from rfl, e, Option.bind_some, if_pos (by simp), if_pos (by simp), w64' (t - 1) (by omega) (by omega)]
    rfl
  by_cases hc : c = 0
  · refine Ev.step (f := fun k => freq_Scale.l1 k c (t - 1) (t - 1) [1] [0] [c] 1 1 [0]) (fun k => ?_) ?_
    · rw [freq_Scale.l1, if_pos (by simp), if_pos (by simp), if_pos (by simp), if_pos (by simp), Option.bind_some, if_pos hc, w1]
      rfl
    · refine Ev.step (f := fun k => freq_Scale.l2 k [1] [0] (t - 1) 0) (fun k => ?_) ?_
      · rw [freq_Scale.l1, if_neg (by decide), sort_one, Option.bind_some]
      · exact scale_l2 t h2 (t - 1).toNat 0 (by omega)
  · have hdiv : Int.tdiv (c * (t - 1)) c = t - 1 := Int.mul_tdiv_cancel_left _ hc
    have hb : 0 ≤ c * (t - 1) := Int.mul_nonneg h3 (by omega)
    have hb2 : c * (t - 1) ≤ 999 * 16384 := Int.mul_le_mul h4 (by omega) (by omega) (by omega)
    refine Ev.step (f := fun k => freq_Scale.l1 k c (t - 1) 0 [t] [0] [c] 1 1 [0]) (fun k => ?_) ?_
    · rw [freq_Scale.l1, if_pos (by simp), if_pos (by simp), if_pos (by simp), if_pos (by simp), Option.bind_some, if_neg hc, if_pos (by simp), if_pos (by simp), show rd [c] 0 = c from rfl, w64' (c * (t - 1)) (by omega) (by omega), hdiv, w64' (t - 1) (by omega) (by omega), Int.mul_comm (t - 1) c, w64' (c * (t - 1)) (by omega) (by omega), Int.sub_self, Int.sub_self, show rd [1] 0 = 1 from rfl, show (1 : Int) + (t - 1) = t by omega, w64' t (by omega) (by omega), w1, w0]
      rfl
    · refine Ev.step (f := fun k => freq_Scale.l2 k [t] [0] 0 0) (fun k => ?_) ?_
      · rw [freq_Scale.l1, if_neg (by decide), sort_one, Option.bind_some]
      · refine Ev.step (fun k => (freq_Scale.l2.eq_2 ..).trans (if_neg (by decide))) ?_
        refine Ev.bind (new_ev _) ?_
        have hf : Fits [t] := ⟨by simp, by simp, by simp; omega, by simp; omega⟩
        rw [show new_ [t] = _ from if_pos hf]
        refine Ev.congr (fun k => ?_) (Ev.now ([0, t], 0))
        simp only [ps, Int.zero_add]

theorem tm_range (a m : Int) (hm : 0 < m) (hm2 : m ≤ 1000000) : 0 ≤ Int.tmod (wrap64 (Int.tmod a m + m)) m ∧ Int.tmod (wrap64 (Int.tmod a m + m)) m < m := by
  have h1 := Int.tmod_lt_of_pos a hm
  have h2 : -m < Int.tmod a m := by
    have := Int.lt_tmod_of_pos a hm
    exact this
  rw [w64' _ (by omega) (by omega)]
  exact ⟨Int.tmod_nonneg _ (by omega), Int.tmod_lt_of_pos _ hm⟩

theorem FreqEven : squelchlaw03_FreqEven.Pure := by
  intro a0 a1 a2 a3 _ _ _ _
  refine Ev.rounds (g := fun k => squelchlaw03_FreqEven.f k a0 a1 a2 a3) ?_
  unfold squelchlaw03_FreqEven.f
  refine Ev.bind live_ev ?_
  obtain ⟨q1, q2⟩ := tm_range a0 256 (by decide) (by decide)
  obtain ⟨m, hm⟩ : ∃ m, Int.tmod (wrap64 (Int.tmod a0 256 + 256)) 256 = m := ⟨_, rfl⟩
  rw [hm] at q1 q2
  obtain ⟨n, hn⟩ : ∃ n : Nat, wrap64 (1 + m) = (n : Int) := ⟨(1 + m).toNat, by rw [w64' _ (by omega) (by omega)]; omega⟩
  have hn2 : 1 + m = (n : Int) := by rw [← hn, w64' _ (by omega) (by omega)]
  have n1 : 1 ≤ n := by omega
  have n2 : n ≤ 256 := by omega
  obtain ⟨x1, x2⟩ := tm_range a1 n (by omega) (by omega)
  obtain ⟨x, hx⟩ : ∃ x : Nat, Int.tmod (wrap64 (Int.tmod a1 n + n)) n = (x : Int) := ⟨(Int.tmod (wrap64 (Int.tmod a1 n + n)) n).toNat, by omega⟩
  obtain ⟨t1, t2⟩ := tm_range a2 16384 (by decide) (by decide)
  obtain ⟨m2, hm2⟩ : ∃ m, Int.tmod (wrap64 (Int.tmod a2 16384 + 16384)) 16384 = m := ⟨_, rfl⟩
  rw [hm2] at t1 t2
  obtain ⟨t, ht⟩ : ∃ t : Int, wrap64 (1 + m2) = t := ⟨_, rfl⟩
  have ht2 : 1 + m2 = t := by rw [← ht, w64' _ (by omega) (by omega)]
  obtain ⟨c1, c2⟩ := tm_range a3 1000 (by decide) (by decide)
  have hf := fits_ones n1 n2
  have hc : (ps 0 (List.replicate n 1)).length ≤ 9223372036854775807 := by rw [ps_length, List.length_replicate]; omega
  have hxn : x < (List.replicate n (1 : Int)).length := by rw [List.length_replicate]; omega
  have htk : ∀ i : Nat, i ≤ n → ((List.replicate n (1 : Int)).take i).sum = (i : Int) := fun i hi => by rw [List.take_replicate, Nat.min_eq_left hi, ones_sum]
  have hxn2 : x < n := by omega
  simp only [hm, hn, hx, hm2, ht]
  refine Ev.congr (fun k => by rw [if_pos trivial, if_neg (by omega)]) ?_
  refine Ev.bind (even_ev n1 n2) ?_
  refine Ev.bind (find_ev _ hc _) ?_
  rw [fnd_ps hf x hxn (x : Int) (by rw [htk x (by omega)]; omega) (by rw [htk (x + 1) (by omega)]; omega)]
  refine Ev.bind (span_ev _ hc _) ?_
  rw [spn_ps hf x hxn, htk x (by omega), htk (x + 1) (by omega)]
  refine Ev.bind (scale_one t _ (by omega) (by omega) c1 (by omega)) ?_
  refine Ev.congr (fun k => by rw [if_pos rfl, if_pos rfl, if_pos rfl, if_pos rfl, if_pos rfl, if_pos rfl, cast1, w64' _ (by omega) (by omega), if_pos rfl]) ?_
  refine Ev.bind (total_ev _ hc) ?_
  rw [tot_ps hf, ones_sum]
  refine Ev.congr (fun k => by rw [if_pos rfl]) ?_
  refine Ev.bind (requal_ev _ _ (by simp)) ?_
  exact Ev.congr (fun k => by rw [decide_eq_true rfl]) (Ev.now _)
end Go.Proofs.Ytdhckdeojplghaa.Pure
