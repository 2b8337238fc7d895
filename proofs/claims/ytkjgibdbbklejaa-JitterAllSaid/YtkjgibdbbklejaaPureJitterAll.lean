/- The plain statement of JitterAll: packets that are all there come all, in order, one a pull, and then none; for all numbers. -/
import Derived.Test.YtkjgibdbbklejaaJtQ
import Derived.Test.YtkjgibdbbklejaaHLive
import Derived.Test.YtkjgibdbbklejaaPAx10
set_option linter.unusedVariables false
set_option linter.unusedSimpArgs false
namespace Go.Proofs.Ytkjgibdbbklejaa.Jt
open Go.RowKit Go.Proofs.Ytkjgibdbbklejaa.PA Go.Proofs.YtkjgibdbbklejaaW.PrintWords Go.Proofs.YtkjgibdbbklejaaW.PrintLast Go.Proofs.YtkjgibdbbklejaaW.PrintMore

/-- The packets from F on down, i of them; each one's byte is how far it is from F. -/
def Qs (F : Int) : Nat → List S41
  | 0 => []
  | i + 1 => ⟨F - (i : Int), [(i : Int)]⟩ :: Qs F i
theorem Qs_mem (F : Int) : ∀ (i : Nat) (p : S41), p ∈ Qs F i → F - (i : Int) < p.f0 ∧ p.f0 ≤ F ∧ p.f1.length = 1 := by
  intro i
  induction i with
  | zero => intro p h; cases h
  | succ i ih =>
    intro p h
    rcases List.mem_cons.1 h with rfl | h
    · exact ⟨by show F - ((i + 1 : Nat) : Int) < F - (i : Int); omega, by show F - (i : Int) ≤ F; omega, rfl⟩
    · have := ih p h
      exact ⟨by omega, this.2.1, this.2.2⟩
theorem Qs_len (F : Int) (i : Nat) : (Qs F i).length = i := by
  induction i with
  | zero => rfl
  | succ i ih => rw [Qs, List.length_cons, ih]
theorem Qs_inc (F : Int) (i : Nat) : Inc (Qs F i) := by
  induction i with
  | zero => exact List.Pairwise.nil
  | succ i ih =>
    refine List.pairwise_cons.2 ⟨fun p hp => ?_, ih⟩
    exact (Qs_mem F i p hp).1
theorem Qs_gd {F : Int} {i : Nat} (h0 : (i : Int) ≤ F + 1) (h1 : F ≤ 1099511627776) : ∀ p ∈ Qs F i, gd p = true := fun p hp => by
  have := Qs_mem F i p hp
  exact (gd_iff p).2 ⟨by omega, by omega, by omega, by omega⟩
theorem Qs_gap (F : Int) : ∀ i : Nat, gapl (F - (i : Int) + 1) (Qs F i) = [] := by
  intro i
  induction i with
  | zero => rfl
  | succ i ih =>
    rw [Qs, gapl]
    have e1 : (F - (i : Int) - (F - ((i + 1 : Nat) : Int) + 1)).toNat = 0 := by omega
    have e2 : max (F - ((i + 1 : Nat) : Int) + 1) (F - (i : Int)) + 1 = F - (i : Int) + 1 := by omega
    show ((List.range (F - (i : Int) - (F - ((i + 1 : Nat) : Int) + 1)).toNat).map _) ++ gapl (max (F - ((i + 1 : Nat) : Int) + 1) (F - (i : Int)) + 1) (Qs F i) = []
    rw [e1, e2, ih]
    rfl
theorem Qs_ok {F dp : Int} {i : Nat} (hd : 1 ≤ dp ∧ dp ≤ 16) (hi : i ≤ 60) (h0 : (i : Int) ≤ F + 1) (h1 : F ≤ 1099511627776) : OK false 0 dp 0 (Qs F i) := by
  refine ⟨hd.1, hd.2, by omega, by omega, by omega, by omega, .inr (by omega), Qs_inc F i, Qs_gd h0 h1, fun p hp => ?_, fun p hp => ?_⟩
  all_goals
    have h2 := Qs_mem F i p hp
    cases i with
    | zero => cases hp
    | succ i =>
      have e : frm false 0 (Qs F (i + 1)) = F - (i : Int) := rfl
      rw [e]
      omega
theorem Qs_ok2 {F dp nx : Int} {i : Nat} (hd : 1 ≤ dp ∧ dp ≤ 16) (hi : i ≤ 60) (h0 : (i : Int) ≤ F + 1) (h1 : F ≤ 1099511627776) (hn : nx = F + 1 - (i : Int)) : OK true nx dp 0 (Qs F i) := by
  refine ⟨hd.1, hd.2, by omega, by omega, by omega, by omega, .inl rfl, Qs_inc F i, Qs_gd h0 h1, fun p hp => ?_, fun p hp => ?_⟩
  all_goals
    have h2 := Qs_mem F i p hp
    have e : frm true nx (Qs F i) = nx := rfl
    rw [e]
    omega
theorem Qs_put {F : Int} {i : Nat} (hi : i ≤ 60) : put1 false 0 (Qs F i) ⟨F - (i : Int), [(i : Int)]⟩ = (Qs F (i + 1), 0) := by
  unfold put1
  have hn : ¬ ∃ x ∈ Qs F i, x.f0 = F - (i : Int) := by
    rintro ⟨x, hx, e⟩
    have := Qs_mem F i x hx
    omega
  rw [if_neg (by simp), if_neg hn]
  have hf : ¬ farb false 0 (Qs F i) (F - (i : Int)) = true := by
    unfold farb
    rw [if_neg (by decide)]
    by_cases he : Qs F i = []
    · rw [if_pos he]; decide
    · rw [if_neg he]
      have hl := List.length_pos_iff.2 he
      have e2 : ((Qs F i).length : Int) - 1 = (((Qs F i).length - 1 : Nat) : Int) := by omega
      rw [e2, rd_at _ _ (by omega), show (0 : Int) = ((0 : Nat) : Int) from rfl, rd_at _ _ hl]
      have a1 := Qs_mem F i _ (List.getElem_mem (l := Qs F i) (n := (Qs F i).length - 1) (by omega))
      have a2 := Qs_mem F i _ (List.getElem_mem (l := Qs F i) (n := 0) hl)
      generalize ((Qs F i)[(Qs F i).length - 1]'(by omega)).f0 = y at a1
      generalize ((Qs F i)[0]'hl).f0 = z at a2
      rw [decide_eq_true_iff]
      unfold mx mn
      split <;> split <;> omega
  rw [if_neg hf]
  have hlb : lb (F - (i : Int)) (Qs F i) = 0 := by
    unfold lb
    rw [List.length_eq_zero_iff, List.filter_eq_nil_iff]
    intro x hx
    have := Qs_mem F i x hx
    simp; omega
  unfold insq
  show ((Qs F i).take (lb (F - (i : Int)) (Qs F i)) ++ _ :: (Qs F i).drop (lb (F - (i : Int)) (Qs F i)), (0 : Int)) = _
  rw [hlb]
  rfl
theorem all_l1 (F dp : Int) (m : Nat) (hd : 1 ≤ dp ∧ dp ≤ 16) (hm : m ≤ 60) (h0 : (m : Int) ≤ F + 1) (h1 : F ≤ 1099511627776) : ∀ (d : Nat), d < m → ∀ k, 20000 + d ≤ k → squelchlaw13_JitterAll.l1 k (m : Int) true (m : Int) ((m - d : Nat) : Int) true (F + 1 - (d : Int)) dp 0 (Qs F d) = some true := by
  intro d
  induction d with
  | zero =>
    intro hdm k hk
    obtain ⟨k, rfl⟩ := some_of k 1 (by omega)
    rw [squelchlaw13_JitterAll.l1, if_neg (by omega), pull_f (Qs_ok2 hd (by omega) (by omega) (by omega) rfl) (by rw [Qs_len]; omega) k (by omega)]
    rfl
  | succ d ih =>
    intro hdm k hk
    obtain ⟨k, rfl⟩ := some_of k 1 (by omega)
    rw [squelchlaw13_JitterAll.l1, if_pos (by omega), pull_f (Qs_ok2 hd (by omega) (by omega) (by omega) rfl) (by rw [Qs_len]; omega) k (by omega)]
    have e : pull true (F + 1 - ((d + 1 : Nat) : Int)) dp 0 (Qs F (d + 1)) = (true, F + 1 - (d : Int), dp, 0, Qs F d, 1, [(d : Int)], 0) := by
      unfold pull
      rw [if_neg (by simp), if_pos ⟨by simp [Qs], by show F - (d : Int) = F + 1 - ((d + 1 : Nat) : Int); omega⟩]
      show (true, F + 1 - ((d + 1 : Nat) : Int) + 1, dp, 0, Qs F d, 1, [(d : Int)], 0) = _
      rw [show F + 1 - ((d + 1 : Nat) : Int) + 1 = F + 1 - (d : Int) by omega]
    rw [e, Option.bind_some]
    dsimp only
    have hr : rd [(d : Int)] 0 = (d : Int) := rfl
    rw [if_pos rfl, if_pos rfl, if_pos (by simp), if_pos (by simp), hr, w64 (d : Int) (by omega) (by omega), w64 ((m : Int) - 1) (by omega) (by omega), w64 _ (by omega) (by omega), if_pos (by omega), w64 _ (by omega) (by omega), show ((m - (d + 1) : Nat) : Int) + 1 = ((m - d : Nat) : Int) by omega]
    exact ih (by omega) k (by omega)
theorem all_l0 (F x1 dp : Int) (m : Nat) (hd : 1 ≤ dp ∧ dp ≤ 16) (hm : m ≤ 60) (h16 : 16 ≤ m) (hx : x1 = F + 1 - (m : Int)) (hx0 : 0 ≤ x1) (h1 : F ≤ 1099511627776) : ∀ (d i : Nat), i + d = m → ∀ k, 200000 + d ≤ k → squelchlaw13_JitterAll.l0 k x1 (m : Int) true (m : Int) (i : Int) false 0 dp 0 (Qs F i) = some true := by
  intro d
  induction d with
  | zero =>
    intro i hi k hk
    obtain rfl : i = m := by omega
    obtain ⟨k, rfl⟩ := some_of k 2 (by omega)
    rw [squelchlaw13_JitterAll.l0, if_neg (by omega), squelchlaw13_JitterAll.l1, if_pos (by omega), pull_f (Qs_ok hd (by omega) (by omega) (by omega)) (by rw [Qs_len]; omega) k (by omega)]
    obtain ⟨n, rfl⟩ : ∃ n, i = n + 1 := ⟨i - 1, by omega⟩
    have e : pull false 0 dp 0 (Qs F (n + 1)) = (true, F + 1 - (n : Int), dp, 0, Qs F n, 1, [(n : Int)], 0) := by
      unfold pull
      rw [if_neg (by rw [Qs_len]; omega), if_pos ⟨by simp [Qs], rfl⟩]
      show (true, F - (n : Int) + 1, dp, 0, Qs F n, 1, [(n : Int)], 0) = _
      rw [show F - (n : Int) + 1 = F + 1 - (n : Int) by omega]
    rw [e, Option.bind_some]
    dsimp only
    have hr : rd [(n : Int)] 0 = (n : Int) := rfl
    rw [if_pos rfl, if_pos rfl, if_pos (by simp), if_pos (by simp), hr, w64 (n : Int) (by omega) (by omega), w64 (((n + 1 : Nat) : Int) - 1) (by omega) (by omega), w64 _ (by omega) (by omega), if_pos (by omega), w64 _ (by omega) (by omega)]
    have := all_l1 F dp (n + 1) hd hm (by omega) h1 n (by omega) k (by omega)
    rw [show (n + 1 - n : Nat) = 1 by omega] at this
    exact this
  | succ d ih =>
    intro i hi k hk
    obtain ⟨k, rfl⟩ := some_of k 1 (by omega)
    have hseq : wrap64 (wrap64 (wrap64 (x1 + (m : Int)) - 1) - (i : Int)) = F - (i : Int) := by
      rw [w64 (x1 + (m : Int)) (by omega) (by omega), w64 (x1 + (m : Int) - 1) (by omega) (by omega), w64 (x1 + (m : Int) - 1 - (i : Int)) (by omega) (by omega)]
      omega
    have hby : (i : Int) % 256 = (i : Int) := by omega
    have hp : gd ⟨F - (i : Int), [(i : Int)]⟩ = true := (gd_iff _).2 ⟨by show 0 ≤ F - (i : Int); omega, by show F - (i : Int) ≤ _; omega, by simp, by simp⟩
    have hok : OK false 0 dp 0 (Qs F i) := Qs_ok hd (by omega) (by omega) (by omega)
    have hok' : OK false 0 dp 0 (Qs F (i + 1)) := Qs_ok hd (by omega) (by omega) (by omega)
    rw [squelchlaw13_JitterAll.l0, if_pos (by omega), hseq, hby, put_f hok (by simpa using hp) (by rw [Qs_len]; omega) (by simp) k (by omega), Option.bind_some]
    have e : putl false 0 (Qs F i) [⟨F - (i : Int), [(i : Int)]⟩] = (Qs F (i + 1), [0]) := by
      simp only [putl, Qs_put (F := F) (i := i) (by omega)]
    rw [e]
    dsimp only
    rw [if_pos rfl, if_pos (by simp), if_pos (by simp), if_pos (by rfl), gaps_f hok' (by rw [Qs_len]; omega) k (by omega), Option.bind_some, if_neg (show ¬ Qs F (i + 1) = [] by simp [Qs])]
    have hg : gapl (frm false 0 (Qs F (i + 1))) (Qs F (i + 1)) = [] := by
      have := Qs_gap F (i + 1)
      rw [show F - ((i + 1 : Nat) : Int) + 1 = F - (i : Int) by omega] at this
      exact this
    rw [hg, if_pos (by simp), w64 _ (by omega) (by omega), show (i : Int) + 1 = ((i + 1 : Nat) : Int) by omega]
    exact ih (i + 1) (by omega) k (by omega)
theorem all_pure : squelchlaw13_JitterAll.Pure := by
  intro a0 a1 a2 h0 h1 h2
  refine ⟨300000, ?_⟩
  obtain ⟨d0, d1⟩ := tmod_pos (a := a0) (m := 16) (by omega) (by omega)
  obtain ⟨f0, f1⟩ := tmod_pos (a := a1) (m := 1099511627776) (by omega) (by omega)
  obtain ⟨m0, m1⟩ := tmod_pos (a := a2) (m := 40) (by omega) (by omega)
  unfold squelchlaw13_JitterAll.f
  rw [live_true, Option.bind_some, if_pos rfl]
  generalize Int.tmod (wrap64 (Int.tmod a0 16 + 16)) 16 = dq at *
  generalize Int.tmod (wrap64 (Int.tmod a1 1099511627776 + 1099511627776)) 1099511627776 = fq at *
  generalize Int.tmod (wrap64 (Int.tmod a2 40 + 40)) 40 = mq at *
  rw [w64 (1 + dq) (by omega) (by omega), w64 (16 + mq) (by omega) (by omega)]
  unfold jitter_New.f
  rw [if_neg (by omega), if_neg (by omega), Option.bind_some]
  dsimp only
  rw [if_pos rfl]
  rw [show (300000 : Nat) = 299999 + 1 from rfl, squelchlaw13_JitterAll.j0]
  by_cases hb : fq > 1099511627676
  · rw [decide_eq_true hb, if_pos rfl, if_pos rfl]
    rfl
  · rw [decide_eq_false hb, if_neg (by decide)]
    obtain ⟨m, hm⟩ := Int.eq_ofNat_of_zero_le (a := 16 + mq) (by omega)
    rw [hm]
    exact all_l0 (fq + (m : Int) - 1) fq (1 + dq) m ⟨by omega, by omega⟩ (by omega) (by omega) (by omega) (by omega) (by omega) m 0 (by omega) 299999 (by omega)

end Go.Proofs.Ytkjgibdbbklejaa.Jt
namespace Go.Proofs.Ytkjgibdbbklejaa.Pure
theorem JitterAll : Go.Proofs.Ytkjgibdbbklejaa.PA.squelchlaw13_JitterAll.Pure := Go.Proofs.Ytkjgibdbbklejaa.Jt.all_pure
end Go.Proofs.Ytkjgibdbbklejaa.Pure
