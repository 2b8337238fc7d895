/- Two elements of a row with its marks change places: the world's side of pool.Swap. -/
import Derived.Test.YteleojddlaflnaaHTake
namespace Go.Proofs.Yteleojddlaflnaa.PA
open Go.RowKit Go.Proofs.YteleojddlaflnaaW.PrintWords Go.Proofs.YteleojddlaflnaaW.PrintLast Go.Proofs.YteleojddlaflnaaW.PrintMore
set_option linter.unusedVariables false
set_option linter.unusedSimpArgs false
/-- One element is written whole. -/
theorem R_whole {α : Type} {d : Kd α} {e : Nat} {W : World} {base g n c : Nat} {ok : Nat → Prop} {xs : List α} (h : d.R e W base ok (.slice (some ⟨g, 0, none⟩) n c) xs) (z : α) (i : Int) (h0 : 0 ≤ i) (h1 : i < n) {x : α} {cs : List Value} (hM : d.M W base (fun k => ok k ∧ k ≠ g) x cs) :
    d.R e (W.setCells g (i.toNat * d.sz) cs) base ok (.slice (some ⟨g, 0, none⟩) n c) (xs.set i.toNat x) ∧ W.grownBy (W.setCells g (i.toNat * d.sz) cs) (some g) := by
  obtain ⟨c0, hcl, _, hcc, _⟩ := Kd.R_elem h z i h0 h1
  have hlen := d.K_len (d.K_of_M hM)
  have he : c0.take 0 ++ cs ++ c0.drop (0 + cs.length) = cs := by
    rw [List.take_zero, List.nil_append, List.drop_eq_nil_of_le (by omega), List.append_nil]
  have := Kd.R_seg h i h0 h1 (c := c0) (seg := cs) (j := 0) hcl hcc (by omega) (x' := x) (okp := fun k => ok k ∧ k ≠ g) (by rw [he]; exact hM) (fun k hk => hk)
  simpa using this
theorem swap_marks {α : Type} {d : Kd α} {f : Nat → Nat} {e : Nat} {W : World} {base : Nat} {ok : Nat → Prop} {v : Value} {xs : List α} {i j : Nat} {xi xj : α} (hi : i < xs.length) (hj : j < xs.length)
    (h : (Kd.tag f d).R e W base ok v ((xs.zipIdx.set i (xj, j)).set j (xi, i))) : Kd.S d e W base ok v ((xs.set i xj).set j xi) := by
  obtain ⟨h0, inner, ho, hr⟩ := h
  have hl : ((xs.zipIdx.set i (xj, j)).set j (xi, i)).length = ((xs.set i xj).set j xi).zipIdx.length := by simp
  rw [hl] at ho
  refine ⟨fun b => if f b = i then j else if f b = j then i else f b, h0, inner, ho, by rw [← hl]; exact hr.1, fun q p hq => ?_⟩
  rw [List.getElem?_zipIdx, Nat.zero_add] at hq
  obtain ⟨x, hx, rfl⟩ := Option.map_eq_some_iff.1 hq
  have hql : q < xs.length := by
    have := (List.getElem?_eq_some_iff.1 hx).1
    simpa using this
  by_cases hqj : q = j
  · subst hqj
    rw [List.getElem?_set_self (by simpa using hql)] at hx
    obtain rfl := Option.some.inj hx
    refine d.M_mono (fun b hb => ⟨hb.1, ?_⟩) (hr.2 q (xi, i) (by rw [List.getElem?_set_self (by simpa using hql)]))
    have h2 : f b = i := hb.2
    show (if f b = i then q else if f b = q then i else f b) = q
    rw [if_pos h2]
  · rw [List.getElem?_set_ne (by omega)] at hx
    by_cases hqi : q = i
    · subst hqi
      rw [List.getElem?_set_self hql] at hx
      obtain rfl := Option.some.inj hx
      refine d.M_mono (fun b hb => ⟨hb.1, ?_⟩) (hr.2 q (xj, j) (by rw [List.getElem?_set_ne (by omega), List.getElem?_set_self (by simpa using hql)]))
      have h2 : f b = j := hb.2
      show (if f b = q then j else if f b = j then q else f b) = q
      rw [if_neg (by omega), if_pos h2]
    · rw [List.getElem?_set_ne (by omega)] at hx
      refine d.M_mono (fun b hb => ⟨hb.1, ?_⟩) (hr.2 q (x, q) (by rw [List.getElem?_set_ne (by omega), List.getElem?_set_ne (by omega), List.getElem?_zipIdx, hx]; simp))
      have h2 : f b = q := hb.2
      show (if f b = i then j else if f b = j then i else f b) = q
      rw [if_neg (by omega), if_neg (by omega)]
      exact h2
/-- Both stores. -/
theorem swap_row {f : Nat → Nat} {W : World} {base g n c : Nat} {ok : Nat → Prop} {xs : List S31} (h : (Kd.tag f k31).R 31 W base ok (.slice (some ⟨g, 0, none⟩) n c) xs.zipIdx) (a1 a2 : Int) (b0 : 0 ≤ a1) (b1 : a1 < (xs.length : Int)) (b2 : 0 ≤ a2) (b3 : a2 < (xs.length : Int)) {x1 x2 : S31} {u1 v1 u2 v2 : Value}
    (hM1 : (Kd.tag f k31).M W base (fun k => ok k ∧ k ≠ g) (x1, a1.toNat) [u1, v1]) (hM2 : (Kd.tag f k31).M W base (fun k => ok k ∧ k ≠ g) (x2, a2.toNat) [u2, v2]) {W' : World}
    (hW : W' = (((W.setCell ⟨g, a1.toNat * 2, none⟩ u2).setCell ⟨g, a1.toNat * 2 + 1, none⟩ v2).setCell ⟨g, a2.toNat * 2, none⟩ u1).setCell ⟨g, a2.toNat * 2 + 1, none⟩ v1) :
    Kd.S k31 31 W' base ok (.slice (some ⟨g, 0, none⟩) n c) ((xs.set a1.toNat x2).set a2.toNat x1) ∧ W.grownBy W' (some g) := by
  have hn := (Kd.R_reads' h).1
  rw [List.length_zipIdx] at hn
  obtain ⟨h1, g1⟩ := R_whole h (z31, 0) a1 b0 (by omega) hM2
  have hM1' : (Kd.tag f k31).M (W.setCells g (a1.toNat * (Kd.tag f k31).sz) [u2, v2]) base (fun k => ok k ∧ k ≠ g) (x1, a1.toNat) [u1, v1] := (Kd.tag f k31).M_move (fun k hk => setCells_far _ _ k hk.2) hM1
  obtain ⟨h2, g2⟩ := R_whole h1 (z31, 0) a2 b2 (by omega) hM1'
  have e : W' = (W.setCells g (a1.toNat * (Kd.tag f k31).sz) [u2, v2]).setCells g (a2.toNat * (Kd.tag f k31).sz) [u1, v1] := hW
  rw [e]
  exact ⟨swap_marks (by omega) (by omega) h2, g2.os.trans g1.os, g2.tape.trans g1.tape, g2.output.trans g1.output, Nat.le_trans g1.size g2.size, fun k hk hne => (g2.block k (Nat.lt_of_lt_of_le hk g1.size) hne).trans (g1.block k hk hne)⟩
end Go.Proofs.Yteleojddlaflnaa.PA
