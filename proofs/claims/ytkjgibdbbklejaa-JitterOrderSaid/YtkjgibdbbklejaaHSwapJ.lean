/- Two elements of a row of packets, whose bytes may be another's, change places: the world's side. -/
import Derived.Test.YtkjgibdbbklejaaPAx0
namespace Go.Proofs.Ytkjgibdbbklejaa.PA
open Go.RowKit Go.Proofs.YtkjgibdbbklejaaW.PrintWords Go.Proofs.YtkjgibdbbklejaaW.PrintLast Go.Proofs.YtkjgibdbbklejaaW.PrintMore
set_option linter.unusedVariables false
set_option linter.unusedSimpArgs false
/-- One element is written whole. -/
theorem N_whole {α : Type} {d : Kd α} {e : Nat} {W : World} {base g n c : Nat} {ok okp : Nat → Prop} {xs : List α} (h : Kd.N d e W base ok (.slice (some ⟨g, 0, none⟩) n c) xs) (z : α) (i : Int) (h0 : 0 ≤ i) (h1 : i < n) {x : α} {cs : List Value} (hM : Kd.FK d W okp x cs) (hokp : ∀ k, okp k → ok k ∧ k ≠ g) :
    Kd.N d e (W.setCells g (i.toNat * d.sz) cs) base ok (.slice (some ⟨g, 0, none⟩) n c) (xs.set i.toNat x) ∧ W.grownBy (W.setCells g (i.toNat * d.sz) cs) (some g) := by
  obtain ⟨c0, hcl, _, hcc, _⟩ := Kd.N_elem h z i h0 h1
  have hlen := d.K_len (Kd.FK_now hM)
  have he : c0.take 0 ++ cs ++ c0.drop (0 + cs.length) = cs := by
    rw [List.take_zero, List.nil_append, List.drop_eq_nil_of_le (by omega), List.append_nil]
  have := Kd.N_seg h i h0 h1 (c := c0) (seg := cs) (j := 0) hcl hcc (by omega) (x' := x) (okp := okp) (by rw [he]; exact hM) hokp
  simpa using this
/-- Both stores. -/
theorem swapN {W : World} {base g n c : Nat} {ok okp : Nat → Prop} {xs : List S41} (h : Kd.N k41 41 W base ok (.slice (some ⟨g, 0, none⟩) n c) xs) (a1 a2 : Nat) (b1 : a1 < xs.length) (b2 : a2 < xs.length) {x1 x2 : S41} {u1 v1 u2 v2 : Value}
    (hM1 : Kd.FK k41 W okp x1 [u1, v1]) (hM2 : Kd.FK k41 W okp x2 [u2, v2]) (hokp : ∀ k, okp k → ok k ∧ k ≠ g) {W' : World}
    (hW : W' = (((W.setCell ⟨g, a1 * 2, none⟩ u2).setCell ⟨g, a1 * 2 + 1, none⟩ v2).setCell ⟨g, a2 * 2, none⟩ u1).setCell ⟨g, a2 * 2 + 1, none⟩ v1) :
    Kd.N k41 41 W' base ok (.slice (some ⟨g, 0, none⟩) n c) ((xs.set a1 x2).set a2 x1) ∧ W.grownBy W' (some g) := by
  have hn := (Kd.N_reads' h).1
  obtain ⟨h1, g1⟩ := N_whole h z41 (a1 : Int) (by omega) (by omega) hM2 hokp
  have hM1' : Kd.FK k41 (W.setCells g (((a1 : Nat) : Int).toNat * k41.sz) [u2, v2]) okp x1 [u1, v1] := Kd.FK_step hM1 (fun k hk hlt => g1.block k hlt (fun he => (hokp k hk).2 (Option.some.inj he)))
  obtain ⟨h2, g2⟩ := N_whole h1 z41 (a2 : Int) (by omega) (by omega) hM1' hokp
  rw [Int.toNat_natCast, Int.toNat_natCast] at h2
  have e : W' = (W.setCells g (((a1 : Nat) : Int).toNat * k41.sz) [u2, v2]).setCells g (((a2 : Nat) : Int).toNat * k41.sz) [u1, v1] := hW
  rw [e]
  exact ⟨h2, g2.os.trans g1.os, g2.tape.trans g1.tape, g2.output.trans g1.output, Nat.le_trans g1.size g2.size, fun k hk hne => (g2.block k (Nat.lt_of_lt_of_le hk g1.size) hne).trans (g1.block k hk hne)⟩
/-- Of the elements nothing is lost. -/
theorem swap_perm (xs : List S41) (a b : Nat) (ha : a < xs.length) (hb : b < xs.length) : ((xs.set a xs[b]).set b xs[a]).Perm xs := by
  have := (Array.swap_perm (xs := xs.toArray) (i := a) (j := b) (by simpa using ha) (by simpa using hb)).toList
  simpa [Array.toList_swap] using this
end Go.Proofs.Ytkjgibdbbklejaa.PA
