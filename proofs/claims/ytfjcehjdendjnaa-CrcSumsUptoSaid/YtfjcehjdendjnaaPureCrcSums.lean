/- The sum of any bytes, in however many pieces, is the reference's; a step of any register is its step; for all lists of lists of bytes that are together no more than 1,048,576. -/
import Derived.Test.YtfjcehjdendjnaaPAx4
import Derived.Test.YtfjcehjdendjnaaCtC
set_option linter.unusedVariables false
set_option linter.unusedSimpArgs false
namespace Go.Proofs.Ytfjcehjdendjnaa.Pure
open Go.RowKit Go.Proofs.Ytfjcehjdendjnaa.PA Go.Proofs.YtfjcehjdendjnaaW.PrintWords Go.Proofs.YtfjcehjdendjnaaW.PrintLast Go.Proofs.Ytfjcehjdendjnaa.CT

theorem wf32 {a : Int} (h : (Lit.int .u32 a).wf = true) : 0 ≤ a ∧ a < 4294967296 := by
  simp [Lit.wf] at h
  have h1 : IntKind.u32.min = 0 := rfl
  have h2 : IntKind.u32.max = 4294967295 := rfl
  omega
theorem flat_part (L : List (List Int)) (i : Nat) (h : i < L.length) : (L.take i).flatten.length + L[i].length ≤ L.flatten.length := by
  have e : L = L.take i ++ L[i] :: L.drop (i + 1) := by rw [← List.drop_eq_getElem_cons h, List.take_append_drop]
  have := congrArg (fun l => l.flatten.length) e
  simp only [List.flatten_append, List.flatten_cons, List.length_append] at this
  omega
theorem sums_l0 (L : List (List Int)) (hL : L.length ≤ 4611686018427387904) (hf : L.flatten.length ≤ 1048576) (hb : Bytes L.flatten) (c x : Nat) (hc : c < 4294967296) (hx : x < 256) (d : Nat) :
    ∀ i : Nat, i + d = L.length → Ev (fun k => squelchlaw02_CrcSums.l0 k L (c : Int) (x : Int) true (L.take i).flatten L (L.length : Int) (i : Int)) true := by
  have h2 : ∀ b ∈ L, b.length ≤ 4611686018427387904 := fun b hb' => by
    obtain ⟨i, hi, rfl⟩ := List.getElem_of_mem hb'
    have := flat_part L i hi
    omega
  have hbb : ∀ b ∈ L, Bytes b := fun b hb' y hy => hb y (List.mem_flatten.2 ⟨b, hb', hy⟩)
  induction d with
  | zero =>
    intro i hi
    obtain rfl : i = L.length := by omega
    refine Ev.step (f := fun k => (squelchref02_Sum.f k L).bind fun t150 => if ((sumN L.flatten : Nat) : Int) = t150 then ((crc_Step.f k (c : Int) (x : Int)).bind fun t156 => (squelchref02_Step.f k (c : Int) (x : Int)).bind fun t157 => some (t156 == t157)) else some false) (fun k => ?_) ?_
    · rw [squelchlaw02_CrcSums.l0, if_neg (by omega), if_pos rfl, crc_sum L hL h2 hb, List.take_length]
      simp only [Option.bind_some]
      rw [crc_sum1 L.flatten (by omega) hb]
      simp only [Option.bind_some, if_true]
    · refine Ev.bind (refsum L hL h2 hbb) ?_
      simp only [if_true]
      refine Ev.bind (a := ((byteStep c x : Nat) : Int)) ⟨9, fun k hk => crcstep k (by omega) c x hc hx⟩ (Ev.bind (a := ((byteStep c x : Nat) : Int)) ⟨9, fun k hk => refstep k (by omega) c x hc hx⟩ ?_)
      simp only [beq_self_eq_true]
      exact Ev.now _
  | succ d ih =>
    intro i hi
    have hil : i < L.length := by omega
    have := flat_part L i hil
    refine Ev.step (fun k => ?_) (ih (i + 1) (by omega))
    rw [squelchlaw02_CrcSums.l0, if_pos (show ((i : Int) < (L.length : Int)) by omega), if_pos (Int.natCast_nonneg i), if_pos (show ((i : Int) < (L.length : Int)) by omega), rd_get1 L i hil, if_pos (by omega), w64' ((i : Int) + 1) (by omega) (by omega), List.take_succ_eq_append_getElem hil, List.flatten_append]
    simp
def CrcSumsPure : Prop := ∀ (l0 : List (List Int)) (a1 : Int) (a2 : Int), (l0.length * 24 ≤ 140737488351232 ∧ l0.length ≤ 9223372036854775807 ∧ ∀ y0_ ∈ l0, (y0_.length * 1 ≤ 140737488351232 ∧ y0_.length ≤ 9223372036854775807 ∧ ∀ y1_ ∈ y0_, (Lit.int .u8 y1_).wf = true)) → (Lit.int .u32 a1).wf = true → (Lit.int .u8 a2).wf = true → l0.flatten.length ≤ 1048576 → ∃ k, squelchlaw02_CrcSums.f k l0 a1 a2 = some true
theorem CrcSums : CrcSumsPure := by
  intro l0 a1 a2 h0 h1 h2 hf
  obtain ⟨hl, _, hb0⟩ := h0
  have hb : Bytes l0.flatten := fun y hy => by
    obtain ⟨b, hbm, hyb⟩ := List.mem_flatten.1 hy
    exact wf8 ((hb0 b hbm).2.2 y hyb)
  obtain ⟨c0, c1⟩ := wf32 h1
  obtain ⟨x0, x1⟩ := wf8 h2
  obtain ⟨c, rfl⟩ := Int.eq_ofNat_of_zero_le c0
  obtain ⟨x, rfl⟩ := Int.eq_ofNat_of_zero_le x0
  refine Ev.rounds ?_
  simp only [squelchlaw02_CrcSums.f, live_true, Option.bind_some, if_true]
  obtain ⟨r, hr⟩ := big_ev l0 (by omega) (fun b hbm => by have := (hb0 b hbm).1; omega)
  refine Ev.bind hr ?_
  cases r with
  | true => simp only [if_true]; exact Ev.now _
  | false =>
    simp only [Bool.false_eq_true, if_false]
    exact sums_l0 l0 (by omega) hf hb c x (by omega) (by omega) l0.length 0 (by omega)

end Go.Proofs.Ytfjcehjdendjnaa.Pure
