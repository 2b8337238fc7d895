/- The register, step by step, comes to the sum; of two texts that differ in one byte alone the sums are not the same; for every list of bytes, place and byte. -/
import Derived.Test.YtfjcehjdendjnaaHFolds
import Derived.Test.YtfjcehjdendjnaaCtC
set_option linter.unusedVariables false
set_option linter.unusedSimpArgs false
namespace Go.Proofs.Ytfjcehjdendjnaa.Pure
open Go.RowKit Go.Proofs.Ytfjcehjdendjnaa.PA Go.Proofs.YtfjcehjdendjnaaW.PrintWords Go.Proofs.YtfjcehjdendjnaaW.PrintLast Go.Proofs.Ytfjcehjdendjnaa.CT

theorem place (n : Nat) (a : Int) (h0 : 0 < n) (hn : n ≤ 5000) (h1 : -9223372036854775808 ≤ a) (h2 : a ≤ 9223372036854775807) : ∃ j : Nat, j < n ∧ Int.tmod (wrap64 (Int.tmod a (n : Int) + (n : Int))) (n : Int) = (j : Int) := by
  have hp : (0 : Int) < (n : Int) := by omega
  have t1 := Int.lt_tmod_of_pos a hp
  have t2 := Int.tmod_lt_of_pos a hp
  have hw : wrap64 (Int.tmod a (n : Int) + (n : Int)) = Int.tmod a (n : Int) + (n : Int) := w64' _ (by omega) (by omega)
  have n1 : 0 ≤ Int.tmod (Int.tmod a (n : Int) + (n : Int)) (n : Int) := Int.tmod_nonneg _ (by omega)
  have n2 := Int.tmod_lt_of_pos (Int.tmod a (n : Int) + (n : Int)) hp
  rw [hw]
  exact ⟨(Int.tmod (Int.tmod a (n : Int) + (n : Int)) (n : Int)).toNat, by omega, (Int.toNat_of_nonneg n1).symm⟩
theorem nn_setF (l : List Int) (j : Nat) (x : Int) : nn (l.set j x) = (nn l).set j x.toNat := by simp [nn, List.map_set]
theorem nn_getF (l : List Int) (j : Nat) (h : j < l.length) : (nn l).getD j 0 = l[j].toNat := by simp [nn, h]
theorem sum_other (b : List Int) (hb : Bytes b) (j : Nat) (hj : j < b.length) (x : Nat) (hx : x < 256) : sumN (b.set j (x : Int)) = sumN b ↔ (x : Int) = b[j] := by
  have hbj := hb _ (List.getElem_mem hj)
  constructor
  · intro h
    unfold sumN at h
    have h2 := congrArg (4294967295 ^^^ ·) h
    simp only [← Nat.xor_assoc, Nat.xor_self, Nat.zero_xor] at h2
    rw [nn_setF, Int.toNat_natCast] at h2
    have h3 := one_byte 4294967295 (by decide) (nn b) j x (by simpa [nn] using hj) (nn_lt hb) hx h2
    rw [nn_getF b j hj] at h3
    omega
  · intro h
    rw [h, List.set_getElem_self]
theorem folds_end (k : Nat) (b : List Int) (hb : Bytes b) (hl : b.length ≤ 5000) (a1 a2 : Int) (w1 : -9223372036854775808 ≤ a1) (w2 : a1 ≤ 9223372036854775807) (x0 : 0 ≤ a2) (x1 : a2 < 256) (n : Nat) (hn : n = b.length) :
    squelchlaw02_CrcFolds.l0 (k + 1) b a1 a2 true ((reg 4294967295 (nn b) : Nat) : Int) b (b.length : Int) (n : Int) = some true := by
  subst hn
  have c1 : ¬ (b.length : Int) < (b.length : Int) := by omega
  have s1 := crc_sum1 b (by omega) hb
  have e1 := xor32 4294967295 (reg 4294967295 (nn b)) (by decide) (reg_lt' b hb)
  have e2 : Go.bits .xor .u32 4294967295 ((reg 4294967295 (nn b) : Nat) : Int) = ((sumN b : Nat) : Int) := e1
  rw [squelchlaw02_CrcFolds.l0, if_neg c1, s1, Option.bind_some, if_pos e2]
  by_cases hz : b.length = 0
  · rw [if_pos (by omega)]
  · obtain ⟨j, hj, hjj⟩ := place b.length a1 (by omega) hl w1 w2
    obtain ⟨x, rfl⟩ := Int.eq_ofNat_of_zero_le x0
    have hx : x < 256 := by omega
    have c2 : ¬ (b.length : Int) = 0 := by omega
    have c3 : ([] : List Int).length + b.length < 140737488355328 := by simp only [List.length_nil]; omega
    have c4 : (j : Int) < (b.length : Int) := by omega
    have hbs : Bytes (b.set j (x : Int)) := bytes_set hb _ _ x0 x1
    have s2 := crc_sum1 (b.set j (x : Int)) (by rw [List.length_set]; omega) hbs
    have so := sum_other b hb j hj x hx
    rw [if_neg c2, if_pos c3]
    simp only [Option.bind_some, List.nil_append, hjj, Int.toNat_natCast]
    rw [if_pos (Int.natCast_nonneg j), if_pos c4, if_pos trivial, s2]
    simp only [Option.bind_some, s1, if_pos c4]
    rw [rd_get b j hj]
    congr 1
    rw [beq_iff_eq, Bool.eq_iff_iff, beq_iff_eq, beq_iff_eq, Int.ofNat_inj]
    exact so
theorem folds_l0 (b : List Int) (hb : Bytes b) (hl : b.length ≤ 5000) (a1 a2 : Int) (w1 : -9223372036854775808 ≤ a1) (w2 : a1 ≤ 9223372036854775807) (x0 : 0 ≤ a2) (x1 : a2 < 256) (d : Nat) :
    ∀ i : Nat, i + d = b.length → Ev (fun k => squelchlaw02_CrcFolds.l0 k b a1 a2 true ((reg 4294967295 (nn (b.take i)) : Nat) : Int) b (b.length : Int) (i : Int)) true := by
  induction d with
  | zero =>
    intro i hi
    refine Ev.step (f := fun _ => some true) (fun k => ?_) (Ev.now _)
    rw [List.take_of_length_le (by omega)]
    exact folds_end k b hb hl a1 a2 w1 w2 x0 x1 i (by omega)
  | succ d ih =>
    intro i hi
    have hil : i < b.length := by omega
    have hx := hb b[i] (List.getElem_mem hil)
    obtain ⟨n, hn⟩ := Int.eq_ofNat_of_zero_le hx.1
    have hn2 : n < 256 := by omega
    have hr : reg 4294967295 (nn (b.take i)) < 4294967296 := reg_lt' _ (bytes_take i hb)
    have e : reg 4294967295 (nn (b.take (i + 1))) = byteStep (reg 4294967295 (nn (b.take i))) n := by
      rw [List.take_succ_eq_append_getElem hil]
      have e3 : nn (b.take i ++ [b[i]]) = nn (b.take i) ++ [n] := by simp [nn, hn]
      rw [e3, reg_append]
      rfl
    have c1 : (i : Int) < (b.length : Int) := by omega
    have wi : wrap64 ((i : Int) + 1) = ((i + 1 : Nat) : Int) := w64' ((i + 1 : Nat) : Int) (by omega) (by omega)
    refine Ev.step (f := fun k => (crc_Step.f k ((reg 4294967295 (nn (b.take i)) : Nat) : Int) (n : Int)).bind fun t335 => squelchlaw02_CrcFolds.l0 k b a1 a2 true t335 b (b.length : Int) ((i + 1 : Nat) : Int)) (fun k => ?_) ?_
    · rw [squelchlaw02_CrcFolds.l0, if_pos c1, if_pos (Int.natCast_nonneg i), if_pos c1, rd_get b i hil, hn, wi]
    · refine Ev.bind (a := ((byteStep (reg 4294967295 (nn (b.take i))) n : Nat) : Int)) ⟨9, fun k hk => crcstep k (by omega) _ n hr hn2⟩ ?_
      rw [← e]
      exact ih (i + 1) (by omega)
theorem CrcFolds : squelchlaw02_CrcFolds.Pure := by
  intro l0 a1 a2 g0 g1 g2
  have hb : Bytes l0 := fun y hy => wf8 (g0.2.2 y hy)
  obtain ⟨x0, x1⟩ := wf8 g2
  obtain ⟨w1, w2⟩ : -9223372036854775808 ≤ a1 ∧ a1 ≤ 9223372036854775807 := by
    simp [Lit.wf] at g1
    have h1' : IntKind.i64.min = -9223372036854775808 := rfl
    have h2' : IntKind.i64.max = 9223372036854775807 := rfl
    omega
  refine Ev.rounds ?_
  simp only [squelchlaw02_CrcFolds.f, live_true, Option.bind_some, if_true]
  by_cases hbig : (l0.length : Int) > 5000
  · simp only [if_pos hbig]; exact Ev.now _
  · simp only [if_neg hbig]
    exact folds_l0 l0 hb (by omega) a1 a2 w1 w2 x0 x1 l0.length 0 (by omega)

end Go.Proofs.Ytfjcehjdendjnaa.Pure
