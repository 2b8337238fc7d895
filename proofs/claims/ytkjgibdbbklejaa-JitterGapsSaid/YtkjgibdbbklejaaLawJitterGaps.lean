-- Written for this claim by this session's own printer (wip/patch_print.py over the kit's print).
import Derived.Test.YtkjgibdbbklejaaRows
import Derived.Test.YtkjgibdbbklejaaPAx9
import Derived.Test.YtkjgibdbbklejaaPureJitterGaps
import Derived.Test.YtkjgibdbbklejaaRd
import Derived.WalkKit
import Derived.ProofKit
import Derived.OpenShut
import Derived.ShutString
import Derived.ChangeOld
import Derived.Below
import Derived.SizedLaws
namespace Go.Proofs.Ytkjgibdbbklejaa.jitterGaps
open Go.ChangeShapes Go.WideShapes Go.ChangeAt Go.RowKit Go.Proofs.Ytkjgibdbbklejaa.Rd Go.Proofs.Ytkjgibdbbklejaa.PA Go.Proofs.YtkjgibdbbklejaaW.PrintWords Go.Proofs.YtkjgibdbbklejaaW.PrintMore
open Go.ChangeMaps (open_string shut_string)
set_option linter.unusedVariables false
/-! #### struct type 26 -/
structure S26 where
 f0 : Bool
 f1 : Int
 f2 : Int
 f3 : Int
 f4 : (List S41)
def k26 : Kd S26 := Kd.iso (Kd.pair Kd.bool (Kd.pair (Kd.int .i64) (Kd.pair (Kd.int .i64) (Kd.pair (Kd.int .i64) (Kd.slice 41 k41))))) (fun x : S26 => (x.f0, (x.f1, (x.f2, (x.f3, x.f4)))))
theorem k26_open {w : World} {x : S26} {cs : List Value} (h : k26.K w x cs) : ∃ A4 c4, cs = [.bool x.f0, .int .i64 x.f1, .int .i64 x.f2, .int .i64 x.f3, .slice A4 x.f4.length c4] ∧ x.f4.length ≤ c4 ∧ k41.C w A4 x.f4.length x.f4 := by
 obtain ⟨_, _, rfl, rfl, ⟨_, _, rfl, rfl, ⟨_, _, rfl, rfl, ⟨_, _, rfl, rfl, ⟨A4, c4, rfl, l4, g4⟩⟩⟩⟩⟩ := h
 exact ⟨A4, c4, rfl, l4, g4⟩
theorem own : ownKnob Try.prog.godebug = none := by kernel_rfl
theorem laidOut : laidOutB Try.prog = true := by kernel_rfl
set_option maxRecDepth 100000 in
theorem lifted (os : Os) (started : os.Started) (H : Type) (enc : TypeId × Value → H) :
    ReturnsInHanded {} Try.checked os 5 .any (Rows.jitterGapsSpec.pre6 enc Try.prog Try.f5 Rows.jitterGapsRow.domain false) (Rows.jitterGapsSpec.post enc Try.prog Try.f5 false true false false) := by
  refine returnsInHanded_of_change_sized (C := Try.checked) own started (by kernel_rfl) Try.func5
    (ChangeSpec.witness6 (enc := enc) (C := Try.checked) false ⟨#[], #[.agg #[.bool false, .int .i64 0, .int .i64 0, .int .i64 0, .slice none 0 0], .int .i64 0], []⟩ 8 (by kernel_rfl) (by kernel_rfl) (by kernel_rfl) (by kernel_rfl)) ?_
  intro W base args ds gs before hval0 hW hcnd hsz0 _
  have hsz : (DataW.weightsEach Try.prog (Try.f5.params.toList ++ Rows.jitterGapsSpec.plain.varTypes Try.prog) (ds ++ gs)).all (· ≤ reachBytes) = true := hsz0
  have hval : ∀ (j : Nat) t v, Try.f5.params[j]? = some t → args[j]? = some v → Value.okWide Try.prog W .any base t v := hval0
  have hW' := hW
  obtain ⟨p, q, hA0, hV, rfl, hfz, hnd⟩ := hW
  have hA : DataW.TrodAll enc Try.prog W 0 (fun _ => true) true Try.f5.params.toList args.toList ds p := hA0
  rw [Try.params5] at hA hval hsz
  obtain ⟨v0, vs0, d0, ds0, p0, q0, hargs, rfl, rfl, h0, r0⟩ := trodAll_cons hA
  obtain ⟨v1, vs1, d1, ds1, p1, q1, rfl, rfl, rfl, h1, r1⟩ := trodAll_cons r0
  obtain ⟨rfl, rfl, rfl⟩ := trodAll_nil r1
  obtain rfl : args = #[v0, v1] := by cases args; simp_all
  obtain ⟨rfl, rfl⟩ := trodVars_none hV
  have k0 := h0
  have lt0 : ∀ x ∈ p0, x.block < W.heap.size := by obtain ⟨m, hm⟩ := k0; exact DataW.trod_lt m _ _ _ hm
  have z0 := weight_of hsz (j := 0) (t := 26) (d := d0) rfl rfl
  obtain ⟨cs0, rfl, _⟩ := okWide_struct Try.underlying26 (hval 0 26 v0 rfl rfl)
  obtain ⟨fuel0, hf0⟩ := h0
  obtain ⟨x0, K0, g0⟩ := (opens_struct (fun x : S26 => (x.f0, (x.f1, (x.f2, (x.f3, x.f4))))) (fun y_ => ⟨y_.1, y_.2.1, y_.2.2.1, y_.2.2.2.1, y_.2.2.2.2⟩) (fun _ => rfl) (Try.underlying26) (by kernel_rfl) (opens_more rfl (by kernel_rfl) (by decide) (opens_bool (by kernel_rfl)) (opens_more (d := Kd.int .i64) rfl (by kernel_rfl) (by decide) (opens_int (by kernel_rfl)) (opens_more (d := Kd.int .i64) rfl (by kernel_rfl) (by decide) (opens_int (by kernel_rfl)) (opens_more (d := Kd.int .i64) rfl (by kernel_rfl) (by decide) (opens_int (by kernel_rfl)) (opens_one rfl (by kernel_rfl) (opens_slice z41 (d := k41) (e := 41) (by kernel_rfl) (by kernel_rfl) 32 (by kernel_rfl) (opens_struct (fun x : S41 => (x.f0, x.f1)) (fun y_ => ⟨y_.1, y_.2⟩) (fun _ => rfl) (Try.underlying41) (by kernel_rfl) (opens_more (d := Kd.int .i64) rfl (by kernel_rfl) (by decide) (opens_int (by kernel_rfl)) (opens_one rfl (by kernel_rfl) (opens_slice 0 (d := (Kd.int .u8)) (e := 5) (by kernel_rfl) (by kernel_rfl) 1 (by kernel_rfl) (opens_int (by kernel_rfl))))))))))))) hf0 z0
  obtain ⟨A0_4, c0_4, e0, m0_4, r_0_4⟩ := k26_open K0
  obtain rfl : cs0 = #[.bool x0.f0, .int .i64 x0.f1, .int .i64 x0.f2, .int .i64 x0.f3, .slice A0_4 x0.f4.length c0_4] := Array.toList_inj.1 e0
  have k1 := h1
  have lt1 : ∀ x ∈ p1, x.block < W.heap.size := by obtain ⟨m, hm⟩ := k1; exact DataW.trod_lt m _ _ _ hm
  obtain ⟨a1, rfl, rfl, rfl, w1⟩ := open_int Try.underlying3 (hval 1 3 v1 rfl rfl) h1
  clear hA0 hval0 hsz0 hsz
  obtain ⟨k, hk⟩ := Pure.JitterGaps x0.f0 x0.f1 x0.f2 x0.f3 x0.f4 a1 g0.2.1 g0.2.2.1 g0.2.2.2.1 g0.2.2.2.2 w1
  refine (PA.squelchlaw13_JitterGaps.calls k x0.f0 x0.f1 x0.f2 x0.f3 _ _ x0.f4 a1 true W r_0_4 m0_4 hk rfl).mono fun e W' ⟨he, bel0⟩ => ?_
  have bel : Below W.heap.size W W' := bel0
  subst he
  exact ⟨_, rfl, _, _, _, [], _, [], hW', trodAll_mk1 (shut_bool Try.underlying4 _), (trodAll_cons_mk (Below.trod laidOut (by kernel_rfl) (of_decide_eq_true (by kernel_rfl)) k0 bel lt0) (trodAll_cons_mk (Below.trod laidOut (by kernel_rfl) (of_decide_eq_true (by kernel_rfl)) k1 bel lt1) trodAll_mk0)), rfl, bel.frame _, fun h => by cases h⟩
theorem over : Rows.jitterGapsRow.holds Try.pinned (OpenSpec.ofChange Rows.jitterGapsSpec) :=
  OpenClaim.holds_of_wide 5 Try.f5 rfl rfl rfl rfl rfl rfl rfl ⟨rfl, rfl, rfl, rfl, rfl⟩ rfl rfl rfl rfl rfl (by kernel_rfl) Try.func5 (by kernel_rfl)
    (of_decide_eq_true (by kernel_rfl)) (by unfold Func.isWrapper; first | (rw [if_pos (by decide +kernel)]; kernel_rfl) | (rw [if_neg (by decide +kernel)]; exact ⟨rfl, rfl⟩))
    (fun os started H enc _ => lifted os started H enc)
theorem proved : Rows.JitterGapsSaid := over
#print axioms proved
end Go.Proofs.Ytkjgibdbbklejaa.jitterGaps
namespace Go.Proofs.Ytkjgibdbbklejaa
/-- The row, under a short name, for the claim. -/
theorem jitterGaps_holds : Rows.JitterGapsSaid := jitterGaps.proved
end Go.Proofs.Ytkjgibdbbklejaa
