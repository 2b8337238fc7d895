/- Patched there and back, a frame is what it was; patched, it is a frame of the bytes with that one changed; for every list of bytes. -/
import Derived.Test.YtfjcehjdendjnaaPAx8
import Derived.Test.YtfjcehjdendjnaaCtC
set_option linter.unusedVariables false
set_option linter.unusedSimpArgs false
namespace Go.Proofs.Ytfjcehjdendjnaa.Pure
open Go.RowKit Go.Proofs.Ytfjcehjdendjnaa.PA Go.Proofs.YtfjcehjdendjnaaW.PrintWords Go.Proofs.YtfjcehjdendjnaaW.PrintLast Go.Proofs.Ytfjcehjdendjnaa.CT

theorem open_seal (b : List Int) (hl : b.length ≤ 65536) : openS (b ++ tl b) = (b, 0) := by
  unfold openS
  have e : (b ++ tl b).length - 4 = b.length := by simp [tl_length]
  rw [if_neg (by simp [tl_length]), e, if_neg (by omega), List.take_left' rfl, List.drop_left' rfl, if_pos rfl]
theorem patch_seal (b : List Int) (hl : b.length ≤ 65536) (j : Nat) (hj : j < b.length) (x : Int) : patchS (b ++ tl b) (j : Int) x = (b.set j x ++ tl (b.set j x), 0) := by
  unfold patchS
  rw [open_seal b hl]
  simp only [if_true]
  rw [if_neg (by omega)]
  unfold sealS
  rw [if_neg (by simp; omega)]
  simp
theorem patches_l0 (b : List Int) (j : Nat) (hj : j < b.length) (hl : b.length ≤ 5000) (x : Int) (p q s : List Int) (d : Nat)
    (hs : s = p) (hq : (strOfNums q).toList = (strOfNums p).toList ↔ x = b[j]) : ∀ i : Nat, i + d = b.length → Ev (fun k => squelchlaw02_CrcPatches.l0 k b (j : Int) x true p q (b.set j x) s (b.length : Int) (i : Int)) true := by
  induction d with
  | zero =>
    intro i hi
    refine Ev.step (f := fun _ => some true) (fun k => ?_) (Ev.now _)
    rw [squelchlaw02_CrcPatches.l0, if_neg (by omega), if_pos rfl, hs, if_pos rfl, if_pos (by omega), if_pos (by omega), rd_get b j hj]
    congr 1
    rw [beq_iff_eq, Bool.eq_iff_iff, beq_iff_eq, beq_iff_eq]
    exact hq
  | succ d ih =>
    intro i hi
    have hi2 : i < b.length := by omega
    have hi3 : i < (b.set j x).length := by simpa using hi2
    refine Ev.step (fun k => ?_) (ih (i + 1) (by omega))
    rw [squelchlaw02_CrcPatches.l0, if_pos (by omega)]
    by_cases h : i = j
    · subst h
      rw [if_pos rfl, if_pos (by omega), if_pos (by simp; omega), rd_get _ i hi3, List.getElem_set_self, if_pos rfl, w64' _ (by omega) (by omega)]; rfl
    · rw [if_neg (by omega), if_pos (by omega), if_pos (by simp; omega), if_pos (by omega), rd_get _ i hi3, rd_get b i hi2, List.getElem_set_ne (by omega), if_pos rfl, w64' _ (by omega) (by omega)]; rfl

theorem CrcPatches : squelchlaw02_CrcPatches.Pure := by
  intro l0 a1 a2 h0 h1 h2
  obtain ⟨hl, _, hb0⟩ := h0
  have hb : Bytes l0 := fun y hy => wf8 (hb0 y hy)
  obtain ⟨x0, x1⟩ := wf8 h2
  refine Ev.rounds ?_
  simp only [squelchlaw02_CrcPatches.f, live_true, Option.bind_some, if_true]
  by_cases hbig : (l0.length : Int) > 5000
  · simp only [if_pos hbig]
    exact Ev.step (f := fun _ => some true) (fun k => by rw [squelchlaw02_CrcPatches.j0, if_pos rfl]) (Ev.now _)
  simp only [if_neg hbig]
  by_cases hz : (l0.length : Int) = 0
  · refine Ev.step (f := fun _ => some true) (fun k => ?_) (Ev.now _)
    rw [squelchlaw02_CrcPatches.j0, if_pos (by simpa using hz)]
  have hlen : l0.length ≤ 5000 := by omega
  have hpos : 0 < l0.length := by omega
  -- the place
  obtain ⟨w1, w2⟩ : -9223372036854775808 ≤ a1 ∧ a1 ≤ 9223372036854775807 := by
    simp [Lit.wf] at h1
    have h1' : IntKind.i64.min = -9223372036854775808 := rfl
    have h2' : IntKind.i64.max = 9223372036854775807 := rfl
    omega
  have ht : -(l0.length : Int) < Int.tmod a1 (l0.length : Int) ∧ Int.tmod a1 (l0.length : Int) < (l0.length : Int) := by
    refine ⟨?_, Int.tmod_lt_of_pos _ (by omega)⟩
    have := Int.lt_tmod_of_pos a1 (b := (l0.length : Int)) (by omega)
    exact this
  have hw : wrap64 (Int.tmod a1 (l0.length : Int) + (l0.length : Int)) = Int.tmod a1 (l0.length : Int) + (l0.length : Int) := w64' _ (by omega) (by omega)
  obtain ⟨j, hjj⟩ : ∃ j : Nat, Int.tmod (wrap64 (Int.tmod a1 (l0.length : Int) + (l0.length : Int))) (l0.length : Int) = (j : Int) := by
    rw [hw]; exact ⟨_, (Int.toNat_of_nonneg (Int.tmod_nonneg _ (by omega))).symm⟩
  have hj : j < l0.length := by
    have := Int.tmod_lt_of_pos (wrap64 (Int.tmod a1 (l0.length : Int) + (l0.length : Int))) (b := (l0.length : Int)) (by omega)
    rw [hjj] at this
    omega
  have hx : Bytes (l0.set j a2) := bytes_set hb _ _ x0 x1
  have hseal : sealS l0 = (l0 ++ tl l0, 0) := by unfold sealS; rw [if_neg (by omega)]
  have hsl : (l0.set j a2).length ≤ 65536 := by simp; omega
  have hbj := hb _ (List.getElem_mem hj)
  have hback : (l0.set j a2).set j l0[j] = l0 := by rw [List.set_set, List.set_getElem_self]
  refine Ev.step (fun k => by rw [squelchlaw02_CrcPatches.j0, if_neg (by simpa using hz), if_neg hz, hjj]) ?_
  refine Ev.bind (a := (l0 ++ tl l0, 0)) (hseal ▸ seal_ev l0 hb) ?_
  refine Ev.bind (a := (l0.set j a2 ++ tl (l0.set j a2), 0)) ((patch_seal l0 (by omega) j hj a2) ▸ patch_ev (l0 ++ tl l0) (j : Int) a2 (bytes_append hb (tl_bytes _)) (by simp [tl_length]; omega) x0 x1) ?_
  refine Ev.bind (a := (l0.set j a2, 0)) ((open_seal (l0.set j a2) hsl) ▸ open_ev (l0.set j a2 ++ tl (l0.set j a2)) (bytes_append hx (tl_bytes _)) (by simp [tl_length]; omega)) ?_
  simp only [if_pos (show (0 : Int) ≤ (j : Int) by omega), if_pos (show (j : Int) < (l0.length : Int) by omega), rd_get l0 j hj]
  have hp2 := patch_seal (l0.set j a2) hsl j (by simpa using hj) l0[j]
  rw [hback] at hp2
  refine Ev.bind (a := (l0 ++ tl l0, 0)) (hp2 ▸ patch_ev (l0.set j a2 ++ tl (l0.set j a2)) (j : Int) l0[j] (bytes_append hx (tl_bytes _)) (by simp [tl_length]; omega) hbj.1 hbj.2) ?_
  simp only [if_true, List.length_set, bne_self_eq_false]
  refine Ev.step (f := fun k => squelchlaw02_CrcPatches.l0 k l0 (j : Int) a2 true (l0 ++ tl l0) (l0.set j a2 ++ tl (l0.set j a2)) (l0.set j a2) (l0 ++ tl l0) (l0.length : Int) ((0 : Nat) : Int)) (fun k => by rw [squelchlaw02_CrcPatches.j1, if_neg (by simp), List.length_set]; rfl) ?_
  refine patches_l0 l0 j hj hlen a2 _ _ _ l0.length rfl ?_ 0 (by omega)
  rw [str_inj (bytes_append hx (tl_bytes _)) (bytes_append hb (tl_bytes _))]
  constructor
  · intro h
    have h2 := congrArg (List.take l0.length) h
    rw [List.take_left' (by simp), List.take_left' rfl] at h2
    have h3 : (l0.set j a2)[j]'(by simpa using hj) = l0[j] := by simp only [h2]
    rwa [List.getElem_set_self] at h3
  · intro h
    rw [h, List.set_getElem_self]

end Go.Proofs.Ytfjcehjdendjnaa.Pure
