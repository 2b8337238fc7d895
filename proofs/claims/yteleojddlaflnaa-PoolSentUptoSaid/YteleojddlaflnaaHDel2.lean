/- slices.Delete at a row whose elements' blocks are marked: what is taken out is apart from what stays; by hand. -/
import Derived.Test.YteleojddlaflnaaHDelete
namespace Go.Proofs.Yteleojddlaflnaa.PA
open Go.RowKit Go.Proofs.YteleojddlaflnaaW.PrintWords Go.Proofs.YteleojddlaflnaaW.PrintLast Go.Proofs.YteleojddlaflnaaW.PrintMore
set_option linter.unusedVariables false
set_option linter.unusedSimpArgs false

def api_Gram_31.f (xs : List S31) (i j : Int) : Option (List S31) := if 0 ≤ i ∧ j = i + 1 ∧ j ≤ (xs.length : Int) then some (xs.eraseIdx i.toNat) else none

/-- A row opened at an element: the marks, and the element's own blocks bear its number. -/
theorem S_open {α : Type} {d : Kd α} {e : Nat} {W : World} {base : Nat} {ok : Nat → Prop} {ad : Addr} {n cap : Nat} {xs : List α} (h : Kd.S d e W base ok (.slice (some ad) n cap) xs) (z : α) (i : Int) (h0 : 0 ≤ i) (h1 : i < n) :
    ∃ f, (Kd.tag f d).R e W base ok (.slice (some ad) n cap) xs.zipIdx ∧ ∃ c, c.length = d.sz ∧ d.M W base (fun k => (ok k ∧ some k ≠ (Value.slice (some ad) n cap).ownBlock) ∧ f k = i.toNat) (xs.getD i.toNat z) c ∧ ∀ j u, c[j]? = some u → W.cell? (ad.add (i.toNat * d.sz + j)) = some u := by
  obtain ⟨f, hR⟩ := h
  have hn := (Kd.R_reads' hR).1
  obtain ⟨c, hcl, hM, hcc⟩ := Kd.R_getA hR (z, i.toNat) i h0 h1
  rw [List.length_zipIdx] at hn
  have hg : xs.zipIdx.getD i.toNat (z, i.toNat) = (xs.getD i.toNat z, i.toNat) := by
    simp only [List.getD_eq_getElem?_getD, List.getElem?_zipIdx, Nat.zero_add]
    rw [List.getElem?_eq_getElem (by omega)]
    rfl
  rw [hg] at hM
  exact ⟨f, hR, c, hcl, hM, hcc⟩

theorem apart_erase {α : Type} {d : Kd α} {f : Nat → Nat} {e : Nat} {w : World} {base : Nat} {ok : Nat → Prop} {v u : Value} {xs : List α} {t : Nat} (h : (Kd.tag f d).R e w base ok v (xs.zipIdx.eraseIdx t)) (hf : ∀ k, u.ownBlock = some k → f k = t) (ha : ∀ k, u.ownBlock = some k → v.ownBlock ≠ some k) :
    Kd.S d e w base (fun k => some k ≠ u.ownBlock ∧ ok k) v (xs.eraseIdx t) := by
  refine Kd.S_erase (f := f) ?_
  obtain ⟨h0, inner, ho, hr⟩ := h
  refine ⟨fun k hk => ⟨fun he => ha k he.symm hk, h0 k hk⟩, inner, ho, hr.1, fun j p hj => ?_⟩
  refine d.M_mono (fun k hk => ⟨⟨⟨fun he => ?_, hk.1.1⟩, hk.1.2⟩, hk.2⟩) (hr.2 j p hj)
  have h1 := hf k he.symm
  have h2 : f k = p.2 := hk.2
  rw [List.getElem?_eraseIdx] at hj
  by_cases hjt : j < t
  · rw [if_pos hjt, List.getElem?_zipIdx] at hj
    obtain ⟨x, hx, rfl⟩ := Option.map_eq_some_iff.1 hj
    simp at h2; omega
  · rw [if_neg hjt, List.getElem?_zipIdx] at hj
    obtain ⟨x, hx, rfl⟩ := Option.map_eq_some_iff.1 hj
    simp at h2; omega

theorem api_Gram_31.calls {f : Nat → Nat} {W : World} {base : Nat} {ok : Nat → Prop} {xs ys : List S31} {ad : Addr} {c : Nat} {u : Value} (HO : (Kd.tag f k31).R 31 W base ok (.slice (some ad) xs.length c) xs.zipIdx) {i j : Int} (hf : ∀ k, u.ownBlock = some k → f k = i.toNat) (ha : ∀ k, u.ownBlock = some k → some k ≠ (Value.slice (some ad) xs.length c).ownBlock) (h : api_Gram_31.f xs i j = some ys) (hbase : base ≤ W.heap.size) :
    Calls Try.prog 31 #[.slice (some ad) xs.length c, .int .i64 i, .int .i64 j] W fun e w' => ∃ v, e = .returned v ∧ Kd.S k31 31 w' base (fun k => some k ≠ u.ownBlock ∧ ok k) v ys ∧ Below base W w' ∧ (∀ k, some k ≠ (Value.slice (some ad) xs.length c).ownBlock → k < W.heap.size → w'.heap[k]? = W.heap[k]?) := by
  unfold api_Gram_31.f at h
  by_cases hc : 0 ≤ i ∧ j = i + 1 ∧ j ≤ (xs.length : Int)
  · rw [if_pos hc] at h
    injection h with h
    subst h
    obtain ⟨h0, rfl, h2⟩ := hc
    obtain ⟨g, rfl⟩ := Kd.R_head HO
    have hnc := (Kd.R_reads' HO).2.1
    refine (delete_in (Kd.tag f k31) rfl HO i h0 (by omega) hnc hbase).mono ?_
    rintro e w' ⟨rfl, hR, hB, hk⟩
    refine ⟨_, rfl, apart_erase hR hf (fun k hu => ?_), hB, fun k hk1 => hk k (fun he => hk1 (by simp [Value.ownBlock, he]))⟩
    intro hv
    exact ha k hu (by simpa [Value.ownBlock] using hv.symm)
  · rw [if_neg hc] at h
    cases h
end Go.Proofs.Yteleojddlaflnaa.PA
