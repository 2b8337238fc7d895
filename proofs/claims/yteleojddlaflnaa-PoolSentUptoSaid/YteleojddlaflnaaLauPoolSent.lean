-- Written for this claim by this session's own printer (wip/patch_print.py over the kit's print).
import Derived.Test.YteleojddlaflnaaRows
import Derived.Test.YteleojddlaflnaaPAx14
import Derived.Test.YteleojddlaflnaaPurePoolSent
import Derived.Test.YteleojddlaflnaaRd
import Derived.WalkKit
import Derived.ProofKit
import Derived.OpenShut
import Derived.ShutString
import Derived.ChangeOld
import Derived.Below
import Derived.SizedLaws
import Derived.JoinedCond
import Derived.Deep.CondSized
import Derived.Test.YteleojddlaflnaaBulk
namespace Go.Proofs.Yteleojddlaflnaa.poolSent
open Go.ChangeShapes Go.WideShapes Go.ChangeAt Go.RowKit Go.Proofs.Yteleojddlaflnaa.Rd Go.Proofs.Yteleojddlaflnaa.PA Go.Proofs.YteleojddlaflnaaW.PrintWords Go.Proofs.YteleojddlaflnaaW.PrintMore
open Go.ChangeMaps (open_string shut_string)
set_option linter.unusedVariables false
theorem own : ownKnob Try.prog.godebug = none := by kernel_rfl
theorem laidOut : laidOutB Try.prog = true := by kernel_rfl
set_option maxRecDepth 100000 in
theorem lifted (os : Os) (started : os.Started) (H : Type) (enc : TypeId × Value → H) (F : Stop.Interp) :
    ReturnsInHanded {} Try.checked os 4 .any ((Rows.OpenSpec.upto Rows.poolSentSpec).pre6 enc Try.prog Try.f4 Rows.poolSentUptoRow.domain false) (((Rows.OpenSpec.upto Rows.poolSentSpec).at F).post enc Try.prog Try.f4 false true false false) := by
  refine returnsInHanded_of_cond_sized (C := Try.checked) (s := Rows.OpenSpec.upto Rows.poolSentSpec) (k := Rows.uptoSmall) rfl own started (by kernel_rfl) Try.func4
    (OpenSpec.witness (enc := enc) (C := Try.checked) (s := Rows.OpenSpec.upto Rows.poolSentSpec) (k := Rows.uptoSmall) rfl false ⟨#[], #[.int .i64 0, .slice none 0 0], []⟩ 8 (by kernel_rfl) (by kernel_rfl) (by kernel_rfl)
      (x := ([.lit (.int .i64 0), .nil], [], [])) (by kernel_rfl) rfl (by kernel_rfl)) ?_
  intro W base args ds gs before hval0 hW hcnd hk0 hsz0 _
  have hsz : (DataW.weightsEach Try.prog (Try.f4.params.toList ++ Rows.poolSentSpec.plain.varTypes Try.prog) (ds ++ gs)).all (· ≤ reachBytes) = true := hsz0
  have hval : ∀ (j : Nat) t v, Try.f4.params[j]? = some t → args[j]? = some v → Value.okWide Try.prog W .any base t v := hval0
  have hW' := hW
  obtain ⟨p, q, hA0, hV, rfl, hfz, hnd⟩ := hW
  have hA : DataW.TrodAll enc Try.prog W 0 (fun _ => true) true Try.f4.params.toList args.toList ds p := hA0
  rw [Try.params4] at hA hval hsz
  obtain ⟨v0, vs0, d0, ds0, p0, q0, hargs, rfl, rfl, h0, r0⟩ := trodAll_cons hA
  obtain ⟨v1, vs1, d1, ds1, p1, q1, rfl, rfl, rfl, h1, r1⟩ := trodAll_cons r0
  obtain ⟨rfl, rfl, rfl⟩ := trodAll_nil r1
  obtain rfl : args = #[v0, v1] := by cases args; simp_all
  obtain ⟨rfl, rfl⟩ := trodVars_none hV
  have k0 := h0
  have lt0 : ∀ x ∈ p0, x.block < W.heap.size := by obtain ⟨m, hm⟩ := k0; exact DataW.trod_lt m _ _ _ hm
  obtain ⟨a0, rfl, rfl, rfl, w0⟩ := open_int Try.underlying3 (hval 0 3 v0 rfl rfl) h0
  have k1 := h1
  have lt1 : ∀ x ∈ p1, x.block < W.heap.size := by obtain ⟨m, hm⟩ := k1; exact DataW.trod_lt m _ _ _ hm
  have z1 := weight_of hsz (j := 1) (t := 38) (d := d1) rfl rfl
  obtain ⟨a1, len1, cap1, rfl⟩ := okWide_slice Try.underlying38 (hval 1 38 v1 rfl rfl)
  obtain ⟨fuel1, hf1⟩ := h1
  obtain ⟨l1, ⟨A1, c1, e1, m1, r_1⟩, g1, b1⟩ := (opensM_slice z42 (d := k42) (e := 42) (by kernel_rfl) (by kernel_rfl) 48 (by kernel_rfl) (opensM_struct (fun x : S42 => (x.f0, (x.f1, (x.f2, x.f3)))) (fun y_ => ⟨y_.1, y_.2.1, y_.2.2.1, y_.2.2.2⟩) (fun _ => rfl) (Try.underlying42) (by kernel_rfl) (opensFM_more (d := (Kd.int .i64)) rfl (by kernel_rfl) (by decide) (opens_int (by kernel_rfl)) (opensFM_more (d := (Kd.int .i64)) rfl (by kernel_rfl) (by decide) (opens_int (by kernel_rfl)) (opensFM_more (d := (Kd.int .i64)) rfl (by kernel_rfl) (by decide) (opens_int (by kernel_rfl)) (opensFM_one rfl (by kernel_rfl) (opensM_slice z31 (d := k31) (e := 31) (by kernel_rfl) (by kernel_rfl) 32 (by kernel_rfl) (opensM_of (opens_struct (fun x : S31 => (x.f0, x.f1)) (fun y_ => ⟨y_.1, y_.2⟩) (fun _ => rfl) (Try.underlying31) (by kernel_rfl) (opens_more (d := (Kd.int .i64)) rfl (by kernel_rfl) (by decide) (opens_int (by kernel_rfl)) (opens_one rfl (by kernel_rfl) (opens_slice 0 (d := (Kd.int .u8)) (e := 5) (by kernel_rfl) (by kernel_rfl) 1 (by kernel_rfl) (opens_int (by kernel_rfl)))))))))))))) hf1 z1
  have hf : ∀ o ∈ l1, o.f3.length ≤ 1048576 := fun o ho => by
    have hk1 := bulk_bound hk0
    simp only [List.append_nil, Rows.uptoBulkAll] at hk1
    have b2 : (l1.map fun o : S42 => (o.f3.map fun _ => 1).sum).sum ≤ Rows.uptoBulk d1 := b1
    have h3 : (o.f3.map fun _ => 1).sum ≤ (l1.map fun o : S42 => (o.f3.map fun _ => 1).sum).sum := sum_mem (fun o : S42 => (o.f3.map fun _ => 1).sum) ho
    have h4 := sum_one o.f3
    omega
  simp [Value.cells] at e1
  obtain ⟨rfl, rfl, rfl⟩ := e1
  clear hA0 hval0 hsz0 hsz
  obtain ⟨k, hk⟩ := Pure.PoolSent a0 l1 hf
  refine (PA.squelchlaw21_PoolSent.calls k a0 (fun k_ => k_ < W.heap.size) _ _ l1 true W (Kd.V_mk m1 (Kd.C_F k42_heap r_1)) hk rfl).mono fun e W' ⟨he, bel0⟩ => ?_
  have bel : Below W.heap.size W W' := bel0
  subst he
  exact ⟨_, rfl, _, _, _, [], _, [], hW', trodAll_mk1 (shut_bool Try.underlying4 _), (trodAll_cons_mk (Below.trod laidOut (by kernel_rfl) (of_decide_eq_true (by kernel_rfl)) k0 bel lt0) (trodAll_cons_mk (Below.trod laidOut (by kernel_rfl) (of_decide_eq_true (by kernel_rfl)) k1 bel lt1) trodAll_mk0)), rfl, bel.frame _, fun h => by cases h⟩
theorem over : Rows.poolSentUptoRow.holds Try.pinned (Rows.OpenSpec.upto Rows.poolSentSpec) :=
  OpenClaim.holds_of_cond 4 Try.f4 rfl rfl rfl rfl rfl rfl rfl ⟨rfl, rfl, rfl, rfl, rfl⟩ rfl rfl rfl rfl rfl (by kernel_rfl) Try.func4 (by kernel_rfl)
    (of_decide_eq_true (by kernel_rfl)) (by unfold Func.isWrapper; first | (rw [if_pos (by decide +kernel)]; kernel_rfl) | (rw [if_neg (by decide +kernel)]; exact ⟨rfl, rfl⟩))
    (fun os started H enc _ F => lifted os started H enc F)
theorem proved : Rows.PoolSentUptoSaid := over
#print axioms proved
end Go.Proofs.Yteleojddlaflnaa.poolSent
namespace Go.Proofs.Yteleojddlaflnaa
/-- The row, under a short name, for the claim. -/
theorem poolSentUpto_holds : Rows.PoolSentUptoSaid := poolSent.proved
end Go.Proofs.Yteleojddlaflnaa
