/- Any bytes are sealed, opened and patched as the reference does it; for every list of bytes, every place and every byte. -/
import Derived.Test.YtfjcehjdendjnaaPAx6
import Derived.Test.YtfjcehjdendjnaaCtC
set_option linter.unusedVariables false
set_option linter.unusedSimpArgs false
namespace Go.Proofs.Ytfjcehjdendjnaa.Pure
open Go.RowKit Go.Proofs.Ytfjcehjdendjnaa.PA Go.Proofs.YtfjcehjdendjnaaW.PrintWords Go.Proofs.YtfjcehjdendjnaaW.PrintLast Go.Proofs.Ytfjcehjdendjnaa.CT

theorem frames_l0 (l0 : List Int) (s8 : ByteArray) (hs : s8 = strOfNums l0) (t : List Int) (e : Int) (n : Nat) (hn : n ≤ 4611686018427387904) (d : Nat) : ∀ (i : Nat) (x9 : List Int), i + d = n → x9.length = n → Ev (fun k => squelchlaw02_CrcFrames.l0 k l0 true s8 x9 t e t e (n : Int) (i : Int)) true := by
  induction d with
  | zero =>
    intro i x9 hi h9
    refine Ev.step (f := fun _ => some true) (fun k => ?_) (Ev.now _)
    rw [squelchlaw02_CrcFrames.l0, if_neg (by omega), if_pos rfl, if_pos rfl, if_pos rfl, hs]
    simp
  | succ d ih =>
    intro i x9 hi h9
    refine Ev.step (fun k => ?_) (ih (i + 1) (x9.set ((i : Int)).toNat (((rd x9 (i : Int)) + 1) % 256)) (by omega) (by simpa using h9))
    rw [squelchlaw02_CrcFrames.l0, if_pos (show ((i : Int) < (n : Int)) by omega), if_pos (Int.natCast_nonneg i), if_pos (show ((i : Int) < (x9.length : Int)) by omega), w64' ((i : Int) + 1) (by omega) (by omega)]; rfl

theorem CrcFrames : squelchlaw02_CrcFrames.Pure := by
  intro l0 a1 a2 h0 h1 h2
  obtain ⟨hl, _, hb0⟩ := h0
  have hb : Bytes l0 := fun y hy => wf8 (hb0 y hy)
  obtain ⟨x0, x1⟩ := wf8 h2
  have hl' : l0.length ≤ 140737488351232 := by omega
  refine Ev.rounds ?_
  simp only [squelchlaw02_CrcFrames.f, live_true, Option.bind_some, if_true]
  obtain ⟨r, hr⟩ := big_ev [l0] (by simp) (by simpa using hl')
  refine Ev.bind hr ?_
  cases r with
  | true => simp only [if_true]; exact Ev.now _
  | false =>
    simp only [Bool.false_eq_true, if_false]
    refine Ev.bind (seal_ev l0 hb) (Ev.bind (refseal_ev l0 hb) (Ev.bind (open_ev l0 hb hl') (Ev.bind (refopen_ev l0 hb hl') (Ev.bind (patch_ev l0 a1 a2 hb hl' x0 x1) (Ev.bind (refpatch_ev l0 a1 a2 hb hl' x0 x1) ?_)))))
    simp only [if_true, bne_self_eq_false]
    have hs : Bytes (sealS l0).1 ∧ (sealS l0).1.length ≤ 65540 := by
      unfold sealS
      split
      · exact ⟨fun y hy => by simp at hy, by simp⟩
      · exact ⟨bytes_append hb (tl_bytes _), by simp [tl_length]; omega⟩
    refine Ev.step (f := fun k => (crc_Patch.f k (sealS l0).1 a1 a2).bind fun bt248 => ((squelchref02_Patch.f k (sealS l0).1 a1 a2).bind fun bt252 => (squelchlaw02_CrcFrames.l0 k l0 true (strOfNums l0) (sealS l0).1 bt248.1 bt248.2 bt252.1 bt252.2 ((sealS l0).1.length : Int) 0))) (fun k => by rw [squelchlaw02_CrcFrames.j0, if_neg (by simp)]) ?_
    refine Ev.bind (patch_ev _ a1 a2 hs.1 (by omega) x0 x1) (Ev.bind (refpatch_ev _ a1 a2 hs.1 (by omega) x0 x1) ?_)
    exact frames_l0 l0 _ rfl _ _ (sealS l0).1.length (by omega) (sealS l0).1.length 0 _ (by omega) rfl

end Go.Proofs.Ytfjcehjdendjnaa.Pure
