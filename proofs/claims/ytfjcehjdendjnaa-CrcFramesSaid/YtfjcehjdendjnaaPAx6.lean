-- Written for this claim by this session's own printer (wip/patch_print.py over the kit's print).
import Derived.Test.YtfjcehjdendjnaaPAx0
import Derived.Test.YtfjcehjdendjnaaPAx2
import Derived.Test.YtfjcehjdendjnaaPAx3
import Derived.Test.YtfjcehjdendjnaaPAx5
import Derived.Test.YtfjcehjdendjnaaHLive
namespace Go.Proofs.Ytfjcehjdendjnaa.PA
open Go.RowKit Go.Proofs.YtfjcehjdendjnaaW.PrintWords Go.Proofs.YtfjcehjdendjnaaW.PrintLast Go.Proofs.YtfjcehjdendjnaaW.PrintMore
attribute [local go_sem] max2_int min2_int max_two min_two max_three min_three max_four min_four   -- for this text's walks alone
set_option linter.unusedVariables false
set_option linter.unusedSimpArgs false

/-! ### squelchlaw02_CrcFrames: function 7 -/
mutual
def squelchlaw02_CrcFrames.j0 : Nat → List Int → Int → Int → Bool → ByteArray → List Int → List Int → Bool → Option (Bool)
 | 0, _, _, _, _, _, _, _, _ => none
 | k + 1, x0, x1, x2, x7, x8, x9, x11, x98 => if x98 = true then (some false) else ((crc_Patch.f k x9 x1 x2).bind fun bt248 => ((squelchref02_Patch.f k x11 x1 x2).bind fun bt252 => (squelchlaw02_CrcFrames.l0 k x0 x7 x8 x9 bt248.1 bt248.2 bt252.1 bt252.2 (x9.length : Int) 0)))
def squelchlaw02_CrcFrames.l0 : Nat → List Int → Bool → ByteArray → List Int → List Int → Int → List Int → Int → Int → Int → Option (Bool)
 | 0, _, _, _, _, _, _, _, _, _, _ => none
 | k + 1, x0, x7, x8, x9, x17, x18, x19, x20, x114, x115 => if x115 < x114 then (if 0 ≤ x115 then (if x115 < (x9.length : Int) then (squelchlaw02_CrcFrames.l0 k x0 x7 x8 (x9.set (x115 : Int).toNat (((rd x9 x115) + 1) % 256)) x17 x18 x19 x20 x114 (wrap64 (x115 + 1))) else (none)) else (none)) else (if x7 = true then (if (strOfNums x17).toList = (strOfNums x19).toList then (if x18 = x20 then (some ((strOfNums x0).toList == x8.toList)) else (some false)) else (some false)) else (some false))
end
def squelchlaw02_CrcFrames.f (k : Nat) (l0 : List Int) (a1 : Int) (a2 : Int) : Option (Bool) := (squelchlaw02_live.f).bind fun t219 => (if t219 = true then ((squelchlaw02_big.f k (([l0] : List (List Int)))).bind fun t223 => (if t223 = true then (some t219) else ((crc_Seal.f k l0).bind fun bt224 => ((squelchref02_Seal.f k l0).bind fun bt228 => ((crc_Open.f k l0).bind fun bt232 => ((squelchref02_Open.f k l0).bind fun bt236 => ((crc_Patch.f k l0 a1 a2).bind fun bt240 => ((squelchref02_Patch.f k l0 a1 a2).bind fun bt244 => (if (strOfNums bt224.1).toList = (strOfNums bt228.1).toList then (if bt224.2 = bt228.2 then (if (strOfNums bt232.1).toList = (strOfNums bt236.1).toList then (if bt232.2 = bt236.2 then (if (strOfNums bt240.1).toList = (strOfNums bt244.1).toList then (squelchlaw02_CrcFrames.j0 k l0 a1 a2 t219 (strOfNums l0) bt224.1 bt228.1 (bt240.2 != bt244.2)) else (squelchlaw02_CrcFrames.j0 k l0 a1 a2 t219 (strOfNums l0) bt224.1 bt228.1 true)) else (squelchlaw02_CrcFrames.j0 k l0 a1 a2 t219 (strOfNums l0) bt224.1 bt228.1 true)) else (squelchlaw02_CrcFrames.j0 k l0 a1 a2 t219 (strOfNums l0) bt224.1 bt228.1 true)) else (squelchlaw02_CrcFrames.j0 k l0 a1 a2 t219 (strOfNums l0) bt224.1 bt228.1 true)) else (squelchlaw02_CrcFrames.j0 k l0 a1 a2 t219 (strOfNums l0) bt224.1 bt228.1 true)))))))))) else (some false))
theorem squelchlaw02_CrcFrames.mono_l : ∀ k, (∀ y0 y1 y2 y3 y4 y5 y6 y7, LeO (squelchlaw02_CrcFrames.j0 k y0 y1 y2 y3 y4 y5 y6 y7) (squelchlaw02_CrcFrames.j0 (k + 1) y0 y1 y2 y3 y4 y5 y6 y7)) ∧ (∀ y0 y1 y2 y3 y4 y5 y6 y7 y8 y9, LeO (squelchlaw02_CrcFrames.l0 k y0 y1 y2 y3 y4 y5 y6 y7 y8 y9) (squelchlaw02_CrcFrames.l0 (k + 1) y0 y1 y2 y3 y4 y5 y6 y7 y8 y9))
 | 0 => ⟨fun _ _ _ _ _ _ _ _ r h => by simp [squelchlaw02_CrcFrames.j0] at h, fun _ _ _ _ _ _ _ _ _ _ r h => by simp [squelchlaw02_CrcFrames.l0] at h⟩
 | k + 1 => by
  obtain ⟨ih0, ih1⟩ := squelchlaw02_CrcFrames.mono_l k
  refine ⟨?_, ?_⟩
  ·intro y0 y1 y2 y3 y4 y5 y6 y7
   unfold squelchlaw02_CrcFrames.j0
   repeat' first
   | (with_reducible exact ih0 _ _ _ _ _ _ _ _)
   | (with_reducible exact ih1 _ _ _ _ _ _ _ _ _ _)
   | (with_reducible exact crc_Open.mono _ _)
   | (with_reducible exact crc_Patch.mono _ _ _ _)
   | (with_reducible exact crc_Seal.mono _ _)
   | (with_reducible exact squelchlaw02_big.mono _ _)
   | (with_reducible exact squelchref02_Open.mono _ _)
   | (with_reducible exact squelchref02_Patch.mono _ _ _ _)
   | (with_reducible exact squelchref02_Seal.mono _ _)
   | (with_reducible exact LeO.refl _)
   | (with_reducible exact LeO.none _)
   | (with_reducible refine LeO.ite ?_ ?_)
   | (with_reducible refine LeO.bind ?_ (fun _ => ?_))
   | exact ih0 _ _ _ _ _ _ _ _
   | exact ih1 _ _ _ _ _ _ _ _ _ _
   | exact crc_Open.mono _ _
   | exact crc_Patch.mono _ _ _ _
   | exact crc_Seal.mono _ _
   | exact squelchlaw02_big.mono _ _
   | exact squelchref02_Open.mono _ _
   | exact squelchref02_Patch.mono _ _ _ _
   | exact squelchref02_Seal.mono _ _
   | exact LeO.none _
   | refine LeO.ite ?_ ?_
   | refine LeO.bind ?_ (fun _ => ?_)
  ·intro y0 y1 y2 y3 y4 y5 y6 y7 y8 y9
   unfold squelchlaw02_CrcFrames.l0
   repeat' first
   | (with_reducible exact ih0 _ _ _ _ _ _ _ _)
   | (with_reducible exact ih1 _ _ _ _ _ _ _ _ _ _)
   | (with_reducible exact crc_Open.mono _ _)
   | (with_reducible exact crc_Patch.mono _ _ _ _)
   | (with_reducible exact crc_Seal.mono _ _)
   | (with_reducible exact squelchlaw02_big.mono _ _)
   | (with_reducible exact squelchref02_Open.mono _ _)
   | (with_reducible exact squelchref02_Patch.mono _ _ _ _)
   | (with_reducible exact squelchref02_Seal.mono _ _)
   | (with_reducible exact LeO.refl _)
   | (with_reducible exact LeO.none _)
   | (with_reducible refine LeO.ite ?_ ?_)
   | (with_reducible refine LeO.bind ?_ (fun _ => ?_))
   | exact ih0 _ _ _ _ _ _ _ _
   | exact ih1 _ _ _ _ _ _ _ _ _ _
   | exact crc_Open.mono _ _
   | exact crc_Patch.mono _ _ _ _
   | exact crc_Seal.mono _ _
   | exact squelchlaw02_big.mono _ _
   | exact squelchref02_Open.mono _ _
   | exact squelchref02_Patch.mono _ _ _ _
   | exact squelchref02_Seal.mono _ _
   | exact LeO.none _
   | refine LeO.ite ?_ ?_
   | refine LeO.bind ?_ (fun _ => ?_)
theorem squelchlaw02_CrcFrames.mono : ∀ a0 a1 a2 k, LeO (squelchlaw02_CrcFrames.f k a0 a1 a2) (squelchlaw02_CrcFrames.f (k + 1) a0 a1 a2) := by
 intro a0 a1 a2 k
 obtain ⟨ih0, ih1⟩ := squelchlaw02_CrcFrames.mono_l k
 unfold squelchlaw02_CrcFrames.f
 repeat' first
   | (with_reducible exact ih0 _ _ _ _ _ _ _ _)
   | (with_reducible exact ih1 _ _ _ _ _ _ _ _ _ _)
   | (with_reducible exact crc_Open.mono _ _)
   | (with_reducible exact crc_Patch.mono _ _ _ _)
   | (with_reducible exact crc_Seal.mono _ _)
   | (with_reducible exact squelchlaw02_big.mono _ _)
   | (with_reducible exact squelchref02_Open.mono _ _)
   | (with_reducible exact squelchref02_Patch.mono _ _ _ _)
   | (with_reducible exact squelchref02_Seal.mono _ _)
   | (with_reducible exact LeO.refl _)
   | (with_reducible exact LeO.none _)
   | (with_reducible refine LeO.ite ?_ ?_)
   | (with_reducible refine LeO.bind ?_ (fun _ => ?_))
   | exact ih0 _ _ _ _ _ _ _ _
   | exact ih1 _ _ _ _ _ _ _ _ _ _
   | exact crc_Open.mono _ _
   | exact crc_Patch.mono _ _ _ _
   | exact crc_Seal.mono _ _
   | exact squelchlaw02_big.mono _ _
   | exact squelchref02_Open.mono _ _
   | exact squelchref02_Patch.mono _ _ _ _
   | exact squelchref02_Seal.mono _ _
   | exact LeO.none _
   | refine LeO.ite ?_ ?_
   | refine LeO.bind ?_ (fun _ => ?_)
set_option maxHeartbeats 8000000 in
set_option maxRecDepth 100000 in
theorem squelchlaw02_CrcFrames.calls (k : Nat) (P0_ : Nat → Prop) (A0 : Option Addr) (c0 : Nat) (l0 : List Int) (a1 : Int) (a2 : Int) (r : Bool) (w : World) (hs0 : Kd.V (Kd.int .u8) 5 w w.heap.size (fun k_ => P0_ k_) (.slice A0 l0.length c0) l0) (h : squelchlaw02_CrcFrames.f k l0 a1 a2 = some r) :
  Calls Try.prog 7 #[.slice A0 l0.length c0, .int .i64 a1, .int .u8 a2] w fun e w' => e = .returned (.bool r) ∧ Below w.heap.size w w' := by
 have HO0 := Aside0.mk (show Kd.V (Kd.int .u8) 5 w w.heap.size (fun k_ => (P0_ k_ ∨ w.heap.size ≤ k_)) (.slice A0 l0.length c0) l0 from Kd.V_mono hs0 (fun k_ hk => .inl hk))
 have HB := Aside0.mk (Below.refl w.heap.size w)
 have H : ((squelchlaw02_live.f).bind fun t219 => (if t219 = true then ((squelchlaw02_big.f k (([l0] : List (List Int)))).bind fun t223 => (if t223 = true then (some t219) else ((crc_Seal.f k l0).bind fun bt224 => ((squelchref02_Seal.f k l0).bind fun bt228 => ((crc_Open.f k l0).bind fun bt232 => ((squelchref02_Open.f k l0).bind fun bt236 => ((crc_Patch.f k l0 a1 a2).bind fun bt240 => ((squelchref02_Patch.f k l0 a1 a2).bind fun bt244 => (if (strOfNums bt224.1).toList = (strOfNums bt228.1).toList then (if bt224.2 = bt228.2 then (if (strOfNums bt232.1).toList = (strOfNums bt236.1).toList then (if bt232.2 = bt236.2 then (if (strOfNums bt240.1).toList = (strOfNums bt244.1).toList then (squelchlaw02_CrcFrames.j0 k l0 a1 a2 t219 (strOfNums l0) bt224.1 bt228.1 (bt240.2 != bt244.2)) else (squelchlaw02_CrcFrames.j0 k l0 a1 a2 t219 (strOfNums l0) bt224.1 bt228.1 true)) else (squelchlaw02_CrcFrames.j0 k l0 a1 a2 t219 (strOfNums l0) bt224.1 bt228.1 true)) else (squelchlaw02_CrcFrames.j0 k l0 a1 a2 t219 (strOfNums l0) bt224.1 bt228.1 true)) else (squelchlaw02_CrcFrames.j0 k l0 a1 a2 t219 (strOfNums l0) bt224.1 bt228.1 true)) else (squelchlaw02_CrcFrames.j0 k l0 a1 a2 t219 (strOfNums l0) bt224.1 bt228.1 true)))))))))) else (some false))) = some r := h
 clear h
 replace H := Option.bind_eq_some_iff.mp H
 obtain ⟨t219, A40, H⟩ := H
 replace H : (if t219 = true then ((squelchlaw02_big.f k (([l0] : List (List Int)))).bind fun t223 => (if t223 = true then (some t219) else ((crc_Seal.f k l0).bind fun bt224 => ((squelchref02_Seal.f k l0).bind fun bt228 => ((crc_Open.f k l0).bind fun bt232 => ((squelchref02_Open.f k l0).bind fun bt236 => ((crc_Patch.f k l0 a1 a2).bind fun bt240 => ((squelchref02_Patch.f k l0 a1 a2).bind fun bt244 => (if (strOfNums bt224.1).toList = (strOfNums bt228.1).toList then (if bt224.2 = bt228.2 then (if (strOfNums bt232.1).toList = (strOfNums bt236.1).toList then (if bt232.2 = bt236.2 then (if (strOfNums bt240.1).toList = (strOfNums bt244.1).toList then (squelchlaw02_CrcFrames.j0 k l0 a1 a2 t219 (strOfNums l0) bt224.1 bt228.1 (bt240.2 != bt244.2)) else (squelchlaw02_CrcFrames.j0 k l0 a1 a2 t219 (strOfNums l0) bt224.1 bt228.1 true)) else (squelchlaw02_CrcFrames.j0 k l0 a1 a2 t219 (strOfNums l0) bt224.1 bt228.1 true)) else (squelchlaw02_CrcFrames.j0 k l0 a1 a2 t219 (strOfNums l0) bt224.1 bt228.1 true)) else (squelchlaw02_CrcFrames.j0 k l0 a1 a2 t219 (strOfNums l0) bt224.1 bt228.1 true)) else (squelchlaw02_CrcFrames.j0 k l0 a1 a2 t219 (strOfNums l0) bt224.1 bt228.1 true)))))))))) else (some false)) = some r := H
 have A4 := Aside0.mk A40
 clear A40
 by_cases c5 : t219 = true
 ·subst c5
  have H1 : ((squelchlaw02_big.f k (([l0] : List (List Int)))).bind fun t223 => (if t223 = true then (some true) else ((crc_Seal.f k l0).bind fun bt224 => ((squelchref02_Seal.f k l0).bind fun bt228 => ((crc_Open.f k l0).bind fun bt232 => ((squelchref02_Open.f k l0).bind fun bt236 => ((crc_Patch.f k l0 a1 a2).bind fun bt240 => ((squelchref02_Patch.f k l0 a1 a2).bind fun bt244 => (if (strOfNums bt224.1).toList = (strOfNums bt228.1).toList then (if bt224.2 = bt228.2 then (if (strOfNums bt232.1).toList = (strOfNums bt236.1).toList then (if bt232.2 = bt236.2 then (if (strOfNums bt240.1).toList = (strOfNums bt244.1).toList then (squelchlaw02_CrcFrames.j0 k l0 a1 a2 true (strOfNums l0) bt224.1 bt228.1 (bt240.2 != bt244.2)) else (squelchlaw02_CrcFrames.j0 k l0 a1 a2 true (strOfNums l0) bt224.1 bt228.1 true)) else (squelchlaw02_CrcFrames.j0 k l0 a1 a2 true (strOfNums l0) bt224.1 bt228.1 true)) else (squelchlaw02_CrcFrames.j0 k l0 a1 a2 true (strOfNums l0) bt224.1 bt228.1 true)) else (squelchlaw02_CrcFrames.j0 k l0 a1 a2 true (strOfNums l0) bt224.1 bt228.1 true)) else (squelchlaw02_CrcFrames.j0 k l0 a1 a2 true (strOfNums l0) bt224.1 bt228.1 true)))))))))) = some r := by rw [if_pos rfl] at H; exact H
  clear H
  have H := H1
  clear H1
  obtain ⟨y220, hy220⟩ : ∃ y_ : List (List Int), y_ = (([l0] : List (List Int))) := ⟨_, rfl⟩
  replace H : ((squelchlaw02_big.f k y220).bind fun t223 => (if t223 = true then (some true) else ((crc_Seal.f k l0).bind fun bt224 => ((squelchref02_Seal.f k l0).bind fun bt228 => ((crc_Open.f k l0).bind fun bt232 => ((squelchref02_Open.f k l0).bind fun bt236 => ((crc_Patch.f k l0 a1 a2).bind fun bt240 => ((squelchref02_Patch.f k l0 a1 a2).bind fun bt244 => (if (strOfNums bt224.1).toList = (strOfNums bt228.1).toList then (if bt224.2 = bt228.2 then (if (strOfNums bt232.1).toList = (strOfNums bt236.1).toList then (if bt232.2 = bt236.2 then (if (strOfNums bt240.1).toList = (strOfNums bt244.1).toList then (squelchlaw02_CrcFrames.j0 k l0 a1 a2 true (strOfNums l0) bt224.1 bt228.1 (bt240.2 != bt244.2)) else (squelchlaw02_CrcFrames.j0 k l0 a1 a2 true (strOfNums l0) bt224.1 bt228.1 true)) else (squelchlaw02_CrcFrames.j0 k l0 a1 a2 true (strOfNums l0) bt224.1 bt228.1 true)) else (squelchlaw02_CrcFrames.j0 k l0 a1 a2 true (strOfNums l0) bt224.1 bt228.1 true)) else (squelchlaw02_CrcFrames.j0 k l0 a1 a2 true (strOfNums l0) bt224.1 bt228.1 true)) else (squelchlaw02_CrcFrames.j0 k l0 a1 a2 true (strOfNums l0) bt224.1 bt228.1 true)))))))))) = some r := by first | (rw [hy220]; with_reducible exact H) | (have H2_ := (Option.bind_some _ _).symm.trans H; rw [hy220]; with_reducible exact H2_) | (have H2_ := (Option.bind_some _ _).symm.trans H; with_reducible exact H2_) | with_reducible exact H | (rw [hy220]; exact H) | exact H
  have Ny220 := Aside0.mk hy220
  clear hy220
  replace H := Option.bind_eq_some_iff.mp H
  obtain ⟨t223, A60, H⟩ := H
  replace H : (if t223 = true then (some true) else ((crc_Seal.f k l0).bind fun bt224 => ((squelchref02_Seal.f k l0).bind fun bt228 => ((crc_Open.f k l0).bind fun bt232 => ((squelchref02_Open.f k l0).bind fun bt236 => ((crc_Patch.f k l0 a1 a2).bind fun bt240 => ((squelchref02_Patch.f k l0 a1 a2).bind fun bt244 => (if (strOfNums bt224.1).toList = (strOfNums bt228.1).toList then (if bt224.2 = bt228.2 then (if (strOfNums bt232.1).toList = (strOfNums bt236.1).toList then (if bt232.2 = bt236.2 then (if (strOfNums bt240.1).toList = (strOfNums bt244.1).toList then (squelchlaw02_CrcFrames.j0 k l0 a1 a2 true (strOfNums l0) bt224.1 bt228.1 (bt240.2 != bt244.2)) else (squelchlaw02_CrcFrames.j0 k l0 a1 a2 true (strOfNums l0) bt224.1 bt228.1 true)) else (squelchlaw02_CrcFrames.j0 k l0 a1 a2 true (strOfNums l0) bt224.1 bt228.1 true)) else (squelchlaw02_CrcFrames.j0 k l0 a1 a2 true (strOfNums l0) bt224.1 bt228.1 true)) else (squelchlaw02_CrcFrames.j0 k l0 a1 a2 true (strOfNums l0) bt224.1 bt228.1 true)) else (squelchlaw02_CrcFrames.j0 k l0 a1 a2 true (strOfNums l0) bt224.1 bt228.1 true))))))))) = some r := H
  have A6 := Aside0.mk A60
  clear A60
  by_cases c7 : t223 = true
  ·subst c7
   have H1 : (some true) = some r := by rw [if_pos rfl] at H; exact H
   clear H
   have H := H1
   clear H1
   obtain rfl := Option.some.inj H
   go_enter Try.func7, Try.ntmps7
   go_wp2_with (first | ((with_reducible refine gate_callee (f := 9) rfl ?_); refine goesL_ (some 22) rfl rfl Try.func9 (by kernel_rfl) rfl #[] rfl (by (try simp only [List.map_toArray, List.map_cons, List.map_nil]); first | done | rfl | (simp only [List.length_drop, List.length_take]; rfl)) ?_; (with_reducible refine (squelchlaw02_live.calls  true _ A4.out).mono ?_); rintro e w8 ⟨rfl, hb⟩; refine ⟨_, rfl, ?_⟩; have n0_ := Aside0.mk (Kd.V_below (by (with_reducible repeat (first | apply Kd.V_alloc | apply Kd.V_drewN | apply Kd.V_drew)); exact HO0.out) hb); have n1_ := Aside0.mk (below_step (by repeat (first | (with_reducible first | exact HB.out | apply below_alloc | apply pw_below_drewN | apply below_drew1) | exact HB.out)) hb); clear HO0; clear HB; have HO0 := n0_; have HB := n1_; clear n0_ n1_; (try clear hb); (try clear hb2); (try clear hk); (try clear hi)) | ((with_reducible refine gate_dst (N := 26) rfl ?_); refine Kd.N_lit (Kd.slice 5 (Kd.int .u8)) _ 22 ?hg (N' := 26) ?hd (xs := ([l0] : List (List Int))) (inner := [.slice A0 l0.length c0]) (ok := (fun k_ => (P0_ k_ ∨ w.heap.size ≤ k_))) (okp := (fun k_ => (P0_ k_ ∨ w.heap.size ≤ k_))) ?hr ?hp (fun _ hk => hk) ((show ∀ k_, w8.heap.size ≤ k_ → (fun k_ => (P0_ k_ ∨ w.heap.size ≤ k_)) k_ from fun k_ hk => (.inr (Nat.le_trans (below_size (by repeat (first | (with_reducible first | exact HB.out | apply below_alloc | apply pw_below_drewN | apply below_drew1) | exact HB.out))) hk))) _ (Nat.le_refl _)) (Below.refl _ _) (Nat.le_refl _) (by simp) ?_; (case hd => rfl); (case hg => rfl); (case hr => first | (go_simp; done) | (go_simp; rfl)); (case hp => exact (Reps.one (show Kd.FK (Kd.slice 5 (Kd.int .u8)) _ _ l0 [.slice A0 l0.length c0] from (Kd.FK_slice_mk (Kd.V_reads' (Kd.V_mono (ok' := (fun k_ => (P0_ k_ ∨ w.heap.size ≤ k_))) (HO0.out) (fun k_ hk => hk))).2.1 (Kd.V_F (Kd.V_mono (ok' := (fun k_ => (P0_ k_ ∨ w.heap.size ≤ k_))) (HO0.out) (fun k_ hk => hk))))) (Reps.none _ _))); intro v221 w9 ho10 hb hg_ hnew_; clear hg_ hnew_; (first | rw [← Ny220.out] at ho10 | (simp only [Int.reduceToNat] at ho10; rw [← Ny220.out] at ho10)); have n0_ := Aside0.mk (Kd.V_elder' (by (with_reducible repeat (first | apply Kd.V_alloc | apply Kd.V_drewN | apply Kd.V_drew)); exact HO0.out) (Kd.N_base ho10) hb); have n1_ := Aside0.mk (Kd.N_lower ho10 (below_size (by repeat (first | (with_reducible first | exact HB.out | apply below_alloc | apply pw_below_drewN | apply below_drew1) | exact HB.out)))); have n2_ := Aside0.mk (below_step (by repeat (first | (with_reducible first | exact HB.out | apply below_alloc | apply pw_below_drewN | apply below_drew1) | exact HB.out)) hb); clear HO0; clear HB; have HO0 := n0_; have HO222 := n1_; have HB := n2_; clear n0_ n1_ n2_; clear hb ho10; obtain ⟨Ao11, co11, eo11⟩ := Kd.N_slice HO222.out; subst eo11) | ((with_reducible refine gate_callee (f := 11) rfl ?_); refine goesL_ (some 27) rfl rfl Try.func11 (by kernel_rfl) rfl #[.slice Ao11 y220.length co11] rfl (by (try simp only [List.map_toArray, List.map_cons, List.map_nil]); first | done | rfl | (simp only [List.length_drop, List.length_take]; rfl)) ?_; (with_reducible refine (squelchlaw02_big.calls k _ _ y220 true _ ?side1 ?side2 A6.out).mono ?_); (case side1 => repeat (first | exact (Kd.N_reads' HO222.out).2.2 | (with_reducible refine Kd.C_alloc ?_ _) | (with_reducible refine Kd.C_drewN ?_ _) | (with_reducible refine Kd.C_drew ?_))); (case side2 => exact (Kd.N_reads' HO222.out).2.1); rintro e w' ⟨rfl, ⟨nd, rfl⟩⟩; refine ⟨_, rfl, ?_⟩))
   go_ret
   exact ⟨by first | rfl | (simp [errW_none, errW_some] <;> rfl) | (simp [*, errW_none, errW_some] <;> rfl), by repeat (first | (with_reducible first | exact HB.out | apply below_alloc | apply pw_below_drewN | apply below_drew1) | exact HB.out)⟩
  ·replace c7 := Bool.eq_false_iff.mpr c7
   subst c7
   have H1 : ((crc_Seal.f k l0).bind fun bt224 => ((squelchref02_Seal.f k l0).bind fun bt228 => ((crc_Open.f k l0).bind fun bt232 => ((squelchref02_Open.f k l0).bind fun bt236 => ((crc_Patch.f k l0 a1 a2).bind fun bt240 => ((squelchref02_Patch.f k l0 a1 a2).bind fun bt244 => (if (strOfNums bt224.1).toList = (strOfNums bt228.1).toList then (if bt224.2 = bt228.2 then (if (strOfNums bt232.1).toList = (strOfNums bt236.1).toList then (if bt232.2 = bt236.2 then (if (strOfNums bt240.1).toList = (strOfNums bt244.1).toList then (squelchlaw02_CrcFrames.j0 k l0 a1 a2 true (strOfNums l0) bt224.1 bt228.1 (bt240.2 != bt244.2)) else (squelchlaw02_CrcFrames.j0 k l0 a1 a2 true (strOfNums l0) bt224.1 bt228.1 true)) else (squelchlaw02_CrcFrames.j0 k l0 a1 a2 true (strOfNums l0) bt224.1 bt228.1 true)) else (squelchlaw02_CrcFrames.j0 k l0 a1 a2 true (strOfNums l0) bt224.1 bt228.1 true)) else (squelchlaw02_CrcFrames.j0 k l0 a1 a2 true (strOfNums l0) bt224.1 bt228.1 true)) else (squelchlaw02_CrcFrames.j0 k l0 a1 a2 true (strOfNums l0) bt224.1 bt228.1 true)))))))) = some r := by rw [if_neg (show ¬ (false = true) by decide)] at H; exact H
   clear H
   have H := H1
   clear H1
   replace H := Option.bind_eq_some_iff.mp H
   obtain ⟨⟨t224, t227⟩, A120, H⟩ := H
   replace H : ((squelchref02_Seal.f k l0).bind fun bt228 => ((crc_Open.f k l0).bind fun bt232 => ((squelchref02_Open.f k l0).bind fun bt236 => ((crc_Patch.f k l0 a1 a2).bind fun bt240 => ((squelchref02_Patch.f k l0 a1 a2).bind fun bt244 => (if (strOfNums t224).toList = (strOfNums bt228.1).toList then (if t227 = bt228.2 then (if (strOfNums bt232.1).toList = (strOfNums bt236.1).toList then (if bt232.2 = bt236.2 then (if (strOfNums bt240.1).toList = (strOfNums bt244.1).toList then (squelchlaw02_CrcFrames.j0 k l0 a1 a2 true (strOfNums l0) t224 bt228.1 (bt240.2 != bt244.2)) else (squelchlaw02_CrcFrames.j0 k l0 a1 a2 true (strOfNums l0) t224 bt228.1 true)) else (squelchlaw02_CrcFrames.j0 k l0 a1 a2 true (strOfNums l0) t224 bt228.1 true)) else (squelchlaw02_CrcFrames.j0 k l0 a1 a2 true (strOfNums l0) t224 bt228.1 true)) else (squelchlaw02_CrcFrames.j0 k l0 a1 a2 true (strOfNums l0) t224 bt228.1 true)) else (squelchlaw02_CrcFrames.j0 k l0 a1 a2 true (strOfNums l0) t224 bt228.1 true))))))) = some r := H
   have A12 := Aside0.mk A120
   clear A120
   replace H := Option.bind_eq_some_iff.mp H
   obtain ⟨⟨t228, t231⟩, A130, H⟩ := H
   replace H : ((crc_Open.f k l0).bind fun bt232 => ((squelchref02_Open.f k l0).bind fun bt236 => ((crc_Patch.f k l0 a1 a2).bind fun bt240 => ((squelchref02_Patch.f k l0 a1 a2).bind fun bt244 => (if (strOfNums t224).toList = (strOfNums t228).toList then (if t227 = t231 then (if (strOfNums bt232.1).toList = (strOfNums bt236.1).toList then (if bt232.2 = bt236.2 then (if (strOfNums bt240.1).toList = (strOfNums bt244.1).toList then (squelchlaw02_CrcFrames.j0 k l0 a1 a2 true (strOfNums l0) t224 t228 (bt240.2 != bt244.2)) else (squelchlaw02_CrcFrames.j0 k l0 a1 a2 true (strOfNums l0) t224 t228 true)) else (squelchlaw02_CrcFrames.j0 k l0 a1 a2 true (strOfNums l0) t224 t228 true)) else (squelchlaw02_CrcFrames.j0 k l0 a1 a2 true (strOfNums l0) t224 t228 true)) else (squelchlaw02_CrcFrames.j0 k l0 a1 a2 true (strOfNums l0) t224 t228 true)) else (squelchlaw02_CrcFrames.j0 k l0 a1 a2 true (strOfNums l0) t224 t228 true)))))) = some r := H
   have A13 := Aside0.mk A130
   clear A130
   replace H := Option.bind_eq_some_iff.mp H
   obtain ⟨⟨t232, t235⟩, A140, H⟩ := H
   replace H : ((squelchref02_Open.f k l0).bind fun bt236 => ((crc_Patch.f k l0 a1 a2).bind fun bt240 => ((squelchref02_Patch.f k l0 a1 a2).bind fun bt244 => (if (strOfNums t224).toList = (strOfNums t228).toList then (if t227 = t231 then (if (strOfNums t232).toList = (strOfNums bt236.1).toList then (if t235 = bt236.2 then (if (strOfNums bt240.1).toList = (strOfNums bt244.1).toList then (squelchlaw02_CrcFrames.j0 k l0 a1 a2 true (strOfNums l0) t224 t228 (bt240.2 != bt244.2)) else (squelchlaw02_CrcFrames.j0 k l0 a1 a2 true (strOfNums l0) t224 t228 true)) else (squelchlaw02_CrcFrames.j0 k l0 a1 a2 true (strOfNums l0) t224 t228 true)) else (squelchlaw02_CrcFrames.j0 k l0 a1 a2 true (strOfNums l0) t224 t228 true)) else (squelchlaw02_CrcFrames.j0 k l0 a1 a2 true (strOfNums l0) t224 t228 true)) else (squelchlaw02_CrcFrames.j0 k l0 a1 a2 true (strOfNums l0) t224 t228 true))))) = some r := H
   have A14 := Aside0.mk A140
   clear A140
   replace H := Option.bind_eq_some_iff.mp H
   obtain ⟨⟨t236, t237⟩, A150, H⟩ := H
   replace H : ((crc_Patch.f k l0 a1 a2).bind fun bt240 => ((squelchref02_Patch.f k l0 a1 a2).bind fun bt244 => (if (strOfNums t224).toList = (strOfNums t228).toList then (if t227 = t231 then (if (strOfNums t232).toList = (strOfNums t236).toList then (if t235 = t237 then (if (strOfNums bt240.1).toList = (strOfNums bt244.1).toList then (squelchlaw02_CrcFrames.j0 k l0 a1 a2 true (strOfNums l0) t224 t228 (bt240.2 != bt244.2)) else (squelchlaw02_CrcFrames.j0 k l0 a1 a2 true (strOfNums l0) t224 t228 true)) else (squelchlaw02_CrcFrames.j0 k l0 a1 a2 true (strOfNums l0) t224 t228 true)) else (squelchlaw02_CrcFrames.j0 k l0 a1 a2 true (strOfNums l0) t224 t228 true)) else (squelchlaw02_CrcFrames.j0 k l0 a1 a2 true (strOfNums l0) t224 t228 true)) else (squelchlaw02_CrcFrames.j0 k l0 a1 a2 true (strOfNums l0) t224 t228 true)))) = some r := H
   have A15 := Aside0.mk A150
   clear A150
   replace H := Option.bind_eq_some_iff.mp H
   obtain ⟨⟨t240, t241⟩, A160, H⟩ := H
   replace H : ((squelchref02_Patch.f k l0 a1 a2).bind fun bt244 => (if (strOfNums t224).toList = (strOfNums t228).toList then (if t227 = t231 then (if (strOfNums t232).toList = (strOfNums t236).toList then (if t235 = t237 then (if (strOfNums t240).toList = (strOfNums bt244.1).toList then (squelchlaw02_CrcFrames.j0 k l0 a1 a2 true (strOfNums l0) t224 t228 (t241 != bt244.2)) else (squelchlaw02_CrcFrames.j0 k l0 a1 a2 true (strOfNums l0) t224 t228 true)) else (squelchlaw02_CrcFrames.j0 k l0 a1 a2 true (strOfNums l0) t224 t228 true)) else (squelchlaw02_CrcFrames.j0 k l0 a1 a2 true (strOfNums l0) t224 t228 true)) else (squelchlaw02_CrcFrames.j0 k l0 a1 a2 true (strOfNums l0) t224 t228 true)) else (squelchlaw02_CrcFrames.j0 k l0 a1 a2 true (strOfNums l0) t224 t228 true))) = some r := H
   have A16 := Aside0.mk A160
   clear A160
   replace H := Option.bind_eq_some_iff.mp H
   obtain ⟨⟨t244, t245⟩, A170, H⟩ := H
   replace H : (if (strOfNums t224).toList = (strOfNums t228).toList then (if t227 = t231 then (if (strOfNums t232).toList = (strOfNums t236).toList then (if t235 = t237 then (if (strOfNums t240).toList = (strOfNums t244).toList then (squelchlaw02_CrcFrames.j0 k l0 a1 a2 true (strOfNums l0) t224 t228 (t241 != t245)) else (squelchlaw02_CrcFrames.j0 k l0 a1 a2 true (strOfNums l0) t224 t228 true)) else (squelchlaw02_CrcFrames.j0 k l0 a1 a2 true (strOfNums l0) t224 t228 true)) else (squelchlaw02_CrcFrames.j0 k l0 a1 a2 true (strOfNums l0) t224 t228 true)) else (squelchlaw02_CrcFrames.j0 k l0 a1 a2 true (strOfNums l0) t224 t228 true)) else (squelchlaw02_CrcFrames.j0 k l0 a1 a2 true (strOfNums l0) t224 t228 true)) = some r := H
   have A17 := Aside0.mk A170
   clear A170
   have HC18 := Aside0.mk H
   clear H
   go_enter Try.func7, Try.ntmps7
   go_upto_region 13 with (first | ((with_reducible refine gate_callee (f := 9) rfl ?_); refine goesL_ (some 22) rfl rfl Try.func9 (by kernel_rfl) rfl #[] rfl (by (try simp only [List.map_toArray, List.map_cons, List.map_nil]); first | done | rfl | (simp only [List.length_drop, List.length_take]; rfl)) ?_; (with_reducible refine (squelchlaw02_live.calls  true _ A4.out).mono ?_); rintro e w19 ⟨rfl, hb⟩; refine ⟨_, rfl, ?_⟩; have n0_ := Aside0.mk (Kd.V_below (by (with_reducible repeat (first | apply Kd.V_alloc | apply Kd.V_drewN | apply Kd.V_drew)); exact HO0.out) hb); have n1_ := Aside0.mk (below_step (by repeat (first | (with_reducible first | exact HB.out | apply below_alloc | apply pw_below_drewN | apply below_drew1) | exact HB.out)) hb); clear HO0; clear HB; have HO0 := n0_; have HB := n1_; clear n0_ n1_; (try clear hb); (try clear hb2); (try clear hk); (try clear hi)) | ((with_reducible refine gate_dst (N := 26) rfl ?_); refine Kd.N_lit (Kd.slice 5 (Kd.int .u8)) _ 22 ?hg (N' := 26) ?hd (xs := ([l0] : List (List Int))) (inner := [.slice A0 l0.length c0]) (ok := (fun k_ => (P0_ k_ ∨ w.heap.size ≤ k_))) (okp := (fun k_ => (P0_ k_ ∨ w.heap.size ≤ k_))) ?hr ?hp (fun _ hk => hk) ((show ∀ k_, w19.heap.size ≤ k_ → (fun k_ => (P0_ k_ ∨ w.heap.size ≤ k_)) k_ from fun k_ hk => (.inr (Nat.le_trans (below_size (by repeat (first | (with_reducible first | exact HB.out | apply below_alloc | apply pw_below_drewN | apply below_drew1) | exact HB.out))) hk))) _ (Nat.le_refl _)) (Below.refl _ _) (Nat.le_refl _) (by simp) ?_; (case hd => rfl); (case hg => rfl); (case hr => first | (go_simp; done) | (go_simp; rfl)); (case hp => exact (Reps.one (show Kd.FK (Kd.slice 5 (Kd.int .u8)) _ _ l0 [.slice A0 l0.length c0] from (Kd.FK_slice_mk (Kd.V_reads' (Kd.V_mono (ok' := (fun k_ => (P0_ k_ ∨ w.heap.size ≤ k_))) (HO0.out) (fun k_ hk => hk))).2.1 (Kd.V_F (Kd.V_mono (ok' := (fun k_ => (P0_ k_ ∨ w.heap.size ≤ k_))) (HO0.out) (fun k_ hk => hk))))) (Reps.none _ _))); intro v221 w20 ho21 hb hg_ hnew_; clear hg_ hnew_; (first | rw [← Ny220.out] at ho21 | (simp only [Int.reduceToNat] at ho21; rw [← Ny220.out] at ho21)); have n0_ := Aside0.mk (Kd.V_elder' (by (with_reducible repeat (first | apply Kd.V_alloc | apply Kd.V_drewN | apply Kd.V_drew)); exact HO0.out) (Kd.N_base ho21) hb); have n1_ := Aside0.mk (Kd.N_lower ho21 (below_size (by repeat (first | (with_reducible first | exact HB.out | apply below_alloc | apply pw_below_drewN | apply below_drew1) | exact HB.out)))); have n2_ := Aside0.mk (below_step (by repeat (first | (with_reducible first | exact HB.out | apply below_alloc | apply pw_below_drewN | apply below_drew1) | exact HB.out)) hb); clear HO0; clear HB; have HO0 := n0_; have HO222 := n1_; have HB := n2_; clear n0_ n1_ n2_; clear hb ho21; obtain ⟨Ao22, co22, eo22⟩ := Kd.N_slice HO222.out; subst eo22) | ((with_reducible refine gate_callee (f := 11) rfl ?_); refine goesL_ (some 27) rfl rfl Try.func11 (by kernel_rfl) rfl #[.slice Ao22 y220.length co22] rfl (by (try simp only [List.map_toArray, List.map_cons, List.map_nil]); first | done | rfl | (simp only [List.length_drop, List.length_take]; rfl)) ?_; (with_reducible refine (squelchlaw02_big.calls k _ _ y220 false _ ?side1 ?side2 A6.out).mono ?_); (case side1 => repeat (first | exact (Kd.N_reads' HO222.out).2.2 | (with_reducible refine Kd.C_alloc ?_ _) | (with_reducible refine Kd.C_drewN ?_ _) | (with_reducible refine Kd.C_drew ?_))); (case side2 => exact (Kd.N_reads' HO222.out).2.1); rintro e w' ⟨rfl, ⟨nd, rfl⟩⟩; refine ⟨_, rfl, ?_⟩; have hcv23 := Kd.C_string (P := Try.prog) (A := A0) (c := c0) Try.underlying22 Try.underlying5 Try.underlying9 (Kd.V_reads' HO0.out).2.2; have hcv23d := fun n_ => Kd.C_string (P := Try.prog) (A := A0) (c := c0) Try.underlying22 Try.underlying5 Try.underlying9 (Kd.V_reads' (Kd.V_drewN HO0.out n_)).2.2) | ((with_reducible refine gate_callee (f := 15) rfl ?_); refine goesL_ (some 33) rfl rfl Try.func15 (by kernel_rfl) rfl #[.slice A0 l0.length c0] rfl (by (try simp only [List.map_toArray, List.map_cons, List.map_nil]); first | done | rfl | (simp only [List.length_drop, List.length_take]; rfl)) ?_; (with_reducible refine (crc_Seal.calls k (fun k_ => ((P0_ k_ ∨ w.heap.size ≤ k_) ∧ some k_ ≠ (.slice Ao22 y220.length co22 : Value).ownBlock)) _ _ l0 t224 t227 _ ?side1 A12.out).mono ?_); (case side1 => exact HO0.out); rintro e w24 ⟨v225, rfl, ho0, hb⟩; refine ⟨_, rfl, ?_⟩; have n0_ := Aside0.mk (Kd.V_elder' (by (with_reducible repeat (first | apply Kd.V_alloc | apply Kd.V_drewN | apply Kd.V_drew)); exact HO0.out) (Kd.R_base ho0) hb); have n1_ := Aside0.mk (Kd.N_elder' (by (with_reducible repeat (first | apply Kd.N_alloc | apply Kd.N_drewN | apply Kd.N_drew)); exact HO222.out) (Kd.R_base ho0) hb); have n2_ := Aside0.mk (Kd.R_lower (Kd.R_newM (M := fun k_ => (w.heap.size ≤ k_)) (Kd.R_mono (ok' := fun k_ => True) ho0 (fun _ hk_ => trivial)) (below_size (by repeat (first | (with_reducible first | exact HB.out | apply below_alloc | apply pw_below_drewN | apply below_drew1) | exact HB.out))) (fun k_ h_ => h_)) (below_size (by repeat (first | (with_reducible first | exact HB.out | apply below_alloc | apply pw_below_drewN | apply below_drew1) | exact HB.out)))); have n3_ := Aside0.mk (below_step (by repeat (first | (with_reducible first | exact HB.out | apply below_alloc | apply pw_below_drewN | apply below_drew1) | exact HB.out)) hb); clear HO0; clear HO222; clear HB; have HO0 := n0_; have HO222 := n1_; have HO226 := n2_; have HB := n3_; clear n0_ n1_ n2_ n3_; (try clear hb); (try clear hb2); (try clear hk); (try clear hi); (try clear ho0)) | ((with_reducible refine gate_callee (f := 17) rfl ?_); refine goesL_ (some 38) rfl rfl Try.func17 (by kernel_rfl) rfl #[.slice A0 l0.length c0] rfl (by (try simp only [List.map_toArray, List.map_cons, List.map_nil]); first | done | rfl | (simp only [List.length_drop, List.length_take]; rfl)) ?_; (with_reducible refine (squelchref02_Seal.calls k (fun k_ => (((P0_ k_ ∨ w.heap.size ≤ k_) ∧ some k_ ≠ (.slice Ao22 y220.length co22 : Value).ownBlock) ∧ some k_ ≠ (v225 : Value).ownBlock)) _ _ l0 t228 t231 _ ?side1 A13.out).mono ?_); (case side1 => exact HO0.out); rintro e w25 ⟨v229, rfl, ho0, hb⟩; refine ⟨_, rfl, ?_⟩; have n0_ := Aside0.mk (Kd.V_elder' (by (with_reducible repeat (first | apply Kd.V_alloc | apply Kd.V_drewN | apply Kd.V_drew)); exact HO0.out) (Kd.R_base ho0) hb); have n1_ := Aside0.mk (Kd.N_elder' (by (with_reducible repeat (first | apply Kd.N_alloc | apply Kd.N_drewN | apply Kd.N_drew)); exact HO222.out) (Kd.R_base ho0) hb); have n2_ := Aside0.mk (Kd.R_elder' (by (with_reducible repeat (first | apply Kd.R_alloc | apply Kd.R_drewN | apply Kd.R_drew)); exact HO226.out) (Kd.R_base ho0) hb); have n3_ := Aside0.mk (Kd.R_lower (Kd.R_new' (Kd.R_newM (M := fun k_ => (w.heap.size ≤ k_)) (Kd.R_mono (ok' := fun k_ => True) ho0 (fun _ hk_ => trivial)) (below_size (by repeat (first | (with_reducible first | exact HB.out | apply below_alloc | apply pw_below_drewN | apply below_drew1) | exact HB.out))) (fun k_ h_ => h_)) (Kd.R_lt (by (with_reducible repeat (first | apply Kd.R_alloc | apply Kd.R_drewN | apply Kd.R_drew)); exact HO226.out))) (below_size (by repeat (first | (with_reducible first | exact HB.out | apply below_alloc | apply pw_below_drewN | apply below_drew1) | exact HB.out)))); have n4_ := Aside0.mk (below_step (by repeat (first | (with_reducible first | exact HB.out | apply below_alloc | apply pw_below_drewN | apply below_drew1) | exact HB.out)) hb); clear HO0; clear HO222; clear HO226; clear HB; have HO0 := n0_; have HO222 := n1_; have HO226 := n2_; have HO230 := n3_; have HB := n4_; clear n0_ n1_ n2_ n3_ n4_; (try clear hb); (try clear hb2); (try clear hk); (try clear hi); (try clear ho0)) | ((with_reducible refine gate_callee (f := 16) rfl ?_); refine goesL_ (some 43) rfl rfl Try.func16 (by kernel_rfl) rfl #[.slice A0 l0.length c0] rfl (by (try simp only [List.map_toArray, List.map_cons, List.map_nil]); first | done | rfl | (simp only [List.length_drop, List.length_take]; rfl)) ?_; (with_reducible refine (crc_Open.calls k (fun k_ => ((((P0_ k_ ∨ w.heap.size ≤ k_) ∧ some k_ ≠ (.slice Ao22 y220.length co22 : Value).ownBlock) ∧ some k_ ≠ (v225 : Value).ownBlock) ∧ some k_ ≠ (v229 : Value).ownBlock)) _ _ l0 t232 t235 _ ?side1 A14.out).mono ?_); (case side1 => exact HO0.out); rintro e w26 ⟨v233, rfl, ho0, hb⟩; refine ⟨_, rfl, ?_⟩; have n0_ := Aside0.mk (Kd.V_elder' (by (with_reducible repeat (first | apply Kd.V_alloc | apply Kd.V_drewN | apply Kd.V_drew)); exact HO0.out) (Kd.R_base ho0) hb); have n1_ := Aside0.mk (Kd.N_elder' (by (with_reducible repeat (first | apply Kd.N_alloc | apply Kd.N_drewN | apply Kd.N_drew)); exact HO222.out) (Kd.R_base ho0) hb); have n2_ := Aside0.mk (Kd.R_elder' (by (with_reducible repeat (first | apply Kd.R_alloc | apply Kd.R_drewN | apply Kd.R_drew)); exact HO226.out) (Kd.R_base ho0) hb); have n3_ := Aside0.mk (Kd.R_elder' (by (with_reducible repeat (first | apply Kd.R_alloc | apply Kd.R_drewN | apply Kd.R_drew)); exact HO230.out) (Kd.R_base ho0) hb); have n4_ := Aside0.mk (Kd.R_lower (Kd.R_new' (Kd.R_new' (Kd.R_newM (M := fun k_ => (w.heap.size ≤ k_)) (Kd.R_mono (ok' := fun k_ => True) ho0 (fun _ hk_ => trivial)) (below_size (by repeat (first | (with_reducible first | exact HB.out | apply below_alloc | apply pw_below_drewN | apply below_drew1) | exact HB.out))) (fun k_ h_ => h_)) (Kd.R_lt (by (with_reducible repeat (first | apply Kd.R_alloc | apply Kd.R_drewN | apply Kd.R_drew)); exact HO226.out))) (Kd.R_lt (by (with_reducible repeat (first | apply Kd.R_alloc | apply Kd.R_drewN | apply Kd.R_drew)); exact HO230.out))) (below_size (by repeat (first | (with_reducible first | exact HB.out | apply below_alloc | apply pw_below_drewN | apply below_drew1) | exact HB.out)))); have n5_ := Aside0.mk (below_step (by repeat (first | (with_reducible first | exact HB.out | apply below_alloc | apply pw_below_drewN | apply below_drew1) | exact HB.out)) hb); clear HO0; clear HO222; clear HO226; clear HO230; clear HB; have HO0 := n0_; have HO222 := n1_; have HO226 := n2_; have HO230 := n3_; have HO234 := n4_; have HB := n5_; clear n0_ n1_ n2_ n3_ n4_ n5_; (try clear hb); (try clear hb2); (try clear hk); (try clear hi); (try clear ho0)) | ((with_reducible refine gate_callee (f := 18) rfl ?_); refine goesL_ (some 48) rfl rfl Try.func18 (by kernel_rfl) rfl #[.slice A0 l0.length c0] rfl (by (try simp only [List.map_toArray, List.map_cons, List.map_nil]); first | done | rfl | (simp only [List.length_drop, List.length_take]; rfl)) ?_; (with_reducible refine (squelchref02_Open.calls k _ _ l0 t236 t237 _ ?side1 ?side2 A15.out).mono ?_); (case side1 => repeat (first | exact (Kd.V_reads' HO0.out).2.2 | (with_reducible refine Kd.C_alloc ?_ _) | (with_reducible refine Kd.C_drewN ?_ _) | (with_reducible refine Kd.C_drew ?_))); (case side2 => exact (Kd.V_reads' HO0.out).2.1); rintro e w27 ⟨v238, rfl, ho0, hb⟩; refine ⟨_, rfl, ?_⟩; have n0_ := Aside0.mk (Kd.V_elder' (by (with_reducible repeat (first | apply Kd.V_alloc | apply Kd.V_drewN | apply Kd.V_drew)); exact HO0.out) (Kd.R_base ho0) hb); have n1_ := Aside0.mk (Kd.N_elder' (by (with_reducible repeat (first | apply Kd.N_alloc | apply Kd.N_drewN | apply Kd.N_drew)); exact HO222.out) (Kd.R_base ho0) hb); have n2_ := Aside0.mk (Kd.R_elder' (by (with_reducible repeat (first | apply Kd.R_alloc | apply Kd.R_drewN | apply Kd.R_drew)); exact HO226.out) (Kd.R_base ho0) hb); have n3_ := Aside0.mk (Kd.R_elder' (by (with_reducible repeat (first | apply Kd.R_alloc | apply Kd.R_drewN | apply Kd.R_drew)); exact HO230.out) (Kd.R_base ho0) hb); have n4_ := Aside0.mk (Kd.R_elder' (by (with_reducible repeat (first | apply Kd.R_alloc | apply Kd.R_drewN | apply Kd.R_drew)); exact HO234.out) (Kd.R_base ho0) hb); have n5_ := Aside0.mk (Kd.R_lower (Kd.R_new' (Kd.R_new' (Kd.R_new' (Kd.R_newM (M := fun k_ => (w.heap.size ≤ k_)) ho0 (below_size (by repeat (first | (with_reducible first | exact HB.out | apply below_alloc | apply pw_below_drewN | apply below_drew1) | exact HB.out))) (fun k_ h_ => h_)) (Kd.R_lt (by (with_reducible repeat (first | apply Kd.R_alloc | apply Kd.R_drewN | apply Kd.R_drew)); exact HO226.out))) (Kd.R_lt (by (with_reducible repeat (first | apply Kd.R_alloc | apply Kd.R_drewN | apply Kd.R_drew)); exact HO230.out))) (Kd.R_lt (by (with_reducible repeat (first | apply Kd.R_alloc | apply Kd.R_drewN | apply Kd.R_drew)); exact HO234.out))) (below_size (by repeat (first | (with_reducible first | exact HB.out | apply below_alloc | apply pw_below_drewN | apply below_drew1) | exact HB.out)))); have n6_ := Aside0.mk (below_step (by repeat (first | (with_reducible first | exact HB.out | apply below_alloc | apply pw_below_drewN | apply below_drew1) | exact HB.out)) hb); clear HO0; clear HO222; clear HO226; clear HO230; clear HO234; clear HB; have HO0 := n0_; have HO222 := n1_; have HO226 := n2_; have HO230 := n3_; have HO234 := n4_; have HO239 := n5_; have HB := n6_; clear n0_ n1_ n2_ n3_ n4_ n5_ n6_; (try clear hb); (try clear hb2); (try clear hk); (try clear hi); (try clear ho0)) | ((with_reducible refine gate_callee (f := 19) rfl ?_); refine goesL_ (some 55) rfl rfl Try.func19 (by kernel_rfl) rfl #[.slice A0 l0.length c0, .int .i64 a1, .int .u8 a2] rfl (by (try simp only [List.map_toArray, List.map_cons, List.map_nil]); first | done | rfl | (simp only [List.length_drop, List.length_take]; rfl)) ?_; (with_reducible refine (crc_Patch.calls k _ _ l0 a1 a2 t240 t241 _ ?side1 ?side2 A16.out).mono ?_); (case side1 => repeat (first | exact (Kd.V_reads' HO0.out).2.2 | (with_reducible refine Kd.C_alloc ?_ _) | (with_reducible refine Kd.C_drewN ?_ _) | (with_reducible refine Kd.C_drew ?_))); (case side2 => exact (Kd.V_reads' HO0.out).2.1); rintro e w28 ⟨v242, rfl, ho0, hb⟩; refine ⟨_, rfl, ?_⟩; have n0_ := Aside0.mk (Kd.V_elder' (by (with_reducible repeat (first | apply Kd.V_alloc | apply Kd.V_drewN | apply Kd.V_drew)); exact HO0.out) (Kd.R_base ho0) hb); have n1_ := Aside0.mk (Kd.N_elder' (by (with_reducible repeat (first | apply Kd.N_alloc | apply Kd.N_drewN | apply Kd.N_drew)); exact HO222.out) (Kd.R_base ho0) hb); have n2_ := Aside0.mk (Kd.R_elder' (by (with_reducible repeat (first | apply Kd.R_alloc | apply Kd.R_drewN | apply Kd.R_drew)); exact HO226.out) (Kd.R_base ho0) hb); have n3_ := Aside0.mk (Kd.R_elder' (by (with_reducible repeat (first | apply Kd.R_alloc | apply Kd.R_drewN | apply Kd.R_drew)); exact HO230.out) (Kd.R_base ho0) hb); have n4_ := Aside0.mk (Kd.R_elder' (by (with_reducible repeat (first | apply Kd.R_alloc | apply Kd.R_drewN | apply Kd.R_drew)); exact HO234.out) (Kd.R_base ho0) hb); have n5_ := Aside0.mk (Kd.R_elder' (by (with_reducible repeat (first | apply Kd.R_alloc | apply Kd.R_drewN | apply Kd.R_drew)); exact HO239.out) (Kd.R_base ho0) hb); have n6_ := Aside0.mk (Kd.R_lower (Kd.R_new' (Kd.R_new' (Kd.R_new' (Kd.R_new' (Kd.R_newM (M := fun k_ => (w.heap.size ≤ k_)) ho0 (below_size (by repeat (first | (with_reducible first | exact HB.out | apply below_alloc | apply pw_below_drewN | apply below_drew1) | exact HB.out))) (fun k_ h_ => h_)) (Kd.R_lt (by (with_reducible repeat (first | apply Kd.R_alloc | apply Kd.R_drewN | apply Kd.R_drew)); exact HO226.out))) (Kd.R_lt (by (with_reducible repeat (first | apply Kd.R_alloc | apply Kd.R_drewN | apply Kd.R_drew)); exact HO230.out))) (Kd.R_lt (by (with_reducible repeat (first | apply Kd.R_alloc | apply Kd.R_drewN | apply Kd.R_drew)); exact HO234.out))) (Kd.R_lt (by (with_reducible repeat (first | apply Kd.R_alloc | apply Kd.R_drewN | apply Kd.R_drew)); exact HO239.out))) (below_size (by repeat (first | (with_reducible first | exact HB.out | apply below_alloc | apply pw_below_drewN | apply below_drew1) | exact HB.out)))); have n7_ := Aside0.mk (below_step (by repeat (first | (with_reducible first | exact HB.out | apply below_alloc | apply pw_below_drewN | apply below_drew1) | exact HB.out)) hb); clear HO0; clear HO222; clear HO226; clear HO230; clear HO234; clear HO239; clear HB; have HO0 := n0_; have HO222 := n1_; have HO226 := n2_; have HO230 := n3_; have HO234 := n4_; have HO239 := n5_; have HO243 := n6_; have HB := n7_; clear n0_ n1_ n2_ n3_ n4_ n5_ n6_ n7_; (try clear hb); (try clear hb2); (try clear hk); (try clear hi); (try clear ho0)) | ((with_reducible refine gate_callee (f := 20) rfl ?_); refine goesL_ (some 62) rfl rfl Try.func20 (by kernel_rfl) rfl #[.slice A0 l0.length c0, .int .i64 a1, .int .u8 a2] rfl (by (try simp only [List.map_toArray, List.map_cons, List.map_nil]); first | done | rfl | (simp only [List.length_drop, List.length_take]; rfl)) ?_; (with_reducible refine (squelchref02_Patch.calls k _ _ l0 a1 a2 t244 t245 _ ?side1 ?side2 A17.out).mono ?_); (case side1 => repeat (first | exact (Kd.V_reads' HO0.out).2.2 | (with_reducible refine Kd.C_alloc ?_ _) | (with_reducible refine Kd.C_drewN ?_ _) | (with_reducible refine Kd.C_drew ?_))); (case side2 => exact (Kd.V_reads' HO0.out).2.1); rintro e w29 ⟨v246, rfl, ho0, hb⟩; refine ⟨_, rfl, ?_⟩; have n0_ := Aside0.mk (Kd.V_elder' (by (with_reducible repeat (first | apply Kd.V_alloc | apply Kd.V_drewN | apply Kd.V_drew)); exact HO0.out) (Kd.R_base ho0) hb); have n1_ := Aside0.mk (Kd.N_elder' (by (with_reducible repeat (first | apply Kd.N_alloc | apply Kd.N_drewN | apply Kd.N_drew)); exact HO222.out) (Kd.R_base ho0) hb); have n2_ := Aside0.mk (Kd.R_elder' (by (with_reducible repeat (first | apply Kd.R_alloc | apply Kd.R_drewN | apply Kd.R_drew)); exact HO226.out) (Kd.R_base ho0) hb); have n3_ := Aside0.mk (Kd.R_elder' (by (with_reducible repeat (first | apply Kd.R_alloc | apply Kd.R_drewN | apply Kd.R_drew)); exact HO230.out) (Kd.R_base ho0) hb); have n4_ := Aside0.mk (Kd.R_elder' (by (with_reducible repeat (first | apply Kd.R_alloc | apply Kd.R_drewN | apply Kd.R_drew)); exact HO234.out) (Kd.R_base ho0) hb); have n5_ := Aside0.mk (Kd.R_elder' (by (with_reducible repeat (first | apply Kd.R_alloc | apply Kd.R_drewN | apply Kd.R_drew)); exact HO239.out) (Kd.R_base ho0) hb); have n6_ := Aside0.mk (Kd.R_elder' (by (with_reducible repeat (first | apply Kd.R_alloc | apply Kd.R_drewN | apply Kd.R_drew)); exact HO243.out) (Kd.R_base ho0) hb); have n7_ := Aside0.mk (Kd.R_lower (Kd.R_new' (Kd.R_new' (Kd.R_new' (Kd.R_new' (Kd.R_new' (Kd.R_newM (M := fun k_ => (w.heap.size ≤ k_)) ho0 (below_size (by repeat (first | (with_reducible first | exact HB.out | apply below_alloc | apply pw_below_drewN | apply below_drew1) | exact HB.out))) (fun k_ h_ => h_)) (Kd.R_lt (by (with_reducible repeat (first | apply Kd.R_alloc | apply Kd.R_drewN | apply Kd.R_drew)); exact HO226.out))) (Kd.R_lt (by (with_reducible repeat (first | apply Kd.R_alloc | apply Kd.R_drewN | apply Kd.R_drew)); exact HO230.out))) (Kd.R_lt (by (with_reducible repeat (first | apply Kd.R_alloc | apply Kd.R_drewN | apply Kd.R_drew)); exact HO234.out))) (Kd.R_lt (by (with_reducible repeat (first | apply Kd.R_alloc | apply Kd.R_drewN | apply Kd.R_drew)); exact HO239.out))) (Kd.R_lt (by (with_reducible repeat (first | apply Kd.R_alloc | apply Kd.R_drewN | apply Kd.R_drew)); exact HO243.out))) (below_size (by repeat (first | (with_reducible first | exact HB.out | apply below_alloc | apply pw_below_drewN | apply below_drew1) | exact HB.out)))); have n8_ := Aside0.mk (below_step (by repeat (first | (with_reducible first | exact HB.out | apply below_alloc | apply pw_below_drewN | apply below_drew1) | exact HB.out)) hb); clear HO0; clear HO222; clear HO226; clear HO230; clear HO234; clear HO239; clear HO243; clear HB; have HO0 := n0_; have HO222 := n1_; have HO226 := n2_; have HO230 := n3_; have HO234 := n4_; have HO239 := n5_; have HO243 := n6_; have HO247 := n7_; have HB := n8_; clear n0_ n1_ n2_ n3_ n4_ n5_ n6_ n7_ n8_; (try clear hb); (try clear hb2); (try clear hk); (try clear hi); (try clear ho0)))
   (try simp only [Act.put, List.setIfInBounds_toArray, List.set_cons_zero, List.set_cons_succ])
   go_cut [98] (fun v98 wc => ∃ (kq : Nat) (x98_17 : Bool), v98 = .bool x98_17 ∧ Aside0 (squelchlaw02_CrcFrames.j0 kq l0 a1 a2 true (strOfNums l0) t224 t228 x98_17 = some r) ∧ Aside0 (kq ≤ k) ∧ Aside0 (Kd.V (Kd.int .u8) 5 wc w.heap.size (fun k_ => (P0_ k_ ∨ w.heap.size ≤ k_) ∧ some k_ ≠ (v225 : Value).ownBlock ∧ some k_ ≠ (v229 : Value).ownBlock) (.slice A0 l0.length c0) l0) ∧ Aside0 (Kd.R (Kd.int .u8) 5 wc w.heap.size (fun k_ => (w.heap.size ≤ k_) ∧ some k_ ≠ (v229 : Value).ownBlock) v225 t224) ∧ Aside0 (Kd.R (Kd.int .u8) 5 wc w.heap.size (fun k_ => (w.heap.size ≤ k_) ∧ some k_ ≠ (v225 : Value).ownBlock) v229 t228) ∧ Aside0 (Below w.heap.size w wc))
   case first =>
    have H := HC18.out
    clear HC18
    by_cases c30 : (strOfNums t224).toList = (strOfNums t228).toList
    ·rw [if_pos c30] at H
     have c30b0 : ((strOfNums t224).toList == (strOfNums t228).toList) = true := beq_iff_eq.mpr c30
     have c30b1 : ((strOfNums t224).toList != (strOfNums t228).toList) = false := bne_eq_false_iff_eq.mpr c30
     clear c30
     (first | rw [c30b0] | (simp only [i64_w, i32_w]; rw [c30b0]) | skip)
     by_cases c31 : t227 = t231
     ·rw [if_pos c31] at H
      have c31b0 : (t227 == t231) = true := beq_iff_eq.mpr c31
      have c31b1 : (t227 != t231) = false := bne_eq_false_iff_eq.mpr c31
      clear c31
      by_cases c32 : (strOfNums t232).toList = (strOfNums t236).toList
      ·rw [if_pos c32] at H
       have c32b0 : ((strOfNums t232).toList == (strOfNums t236).toList) = true := beq_iff_eq.mpr c32
       have c32b1 : ((strOfNums t232).toList != (strOfNums t236).toList) = false := bne_eq_false_iff_eq.mpr c32
       clear c32
       by_cases c33 : t235 = t237
       ·rw [if_pos c33] at H
        have c33b0 : (t235 == t237) = true := beq_iff_eq.mpr c33
        have c33b1 : (t235 != t237) = false := bne_eq_false_iff_eq.mpr c33
        clear c33
        by_cases c34 : (strOfNums t240).toList = (strOfNums t244).toList
        ·rw [if_pos c34] at H
         have c34b0 : ((strOfNums t240).toList == (strOfNums t244).toList) = true := beq_iff_eq.mpr c34
         have c34b1 : ((strOfNums t240).toList != (strOfNums t244).toList) = false := bne_eq_false_iff_eq.mpr c34
         clear c34
         have H' := Aside0.mk H
         clear H
         have hcv35 := own_string (P := Try.prog) Try.underlying22 Try.underlying5 Try.underlying9 (Kd.own_of_R HO226.out)
         have hcv35d := fun n_ => own_string (P := Try.prog) Try.underlying22 Try.underlying5 Try.underlying9 (Kd.own_of_R (Kd.R_drewN HO226.out n_))
         have hcv36 := own_string (P := Try.prog) Try.underlying22 Try.underlying5 Try.underlying9 (Kd.own_of_R HO230.out)
         have hcv36d := fun n_ => own_string (P := Try.prog) Try.underlying22 Try.underlying5 Try.underlying9 (Kd.own_of_R (Kd.R_drewN HO230.out n_))
         have hcv37 := own_string (P := Try.prog) Try.underlying22 Try.underlying5 Try.underlying9 (Kd.own_of_R HO234.out)
         have hcv37d := fun n_ => own_string (P := Try.prog) Try.underlying22 Try.underlying5 Try.underlying9 (Kd.own_of_R (Kd.R_drewN HO234.out n_))
         have hcv38 := own_string (P := Try.prog) Try.underlying22 Try.underlying5 Try.underlying9 (Kd.own_of_R HO239.out)
         have hcv38d := fun n_ => own_string (P := Try.prog) Try.underlying22 Try.underlying5 Try.underlying9 (Kd.own_of_R (Kd.R_drewN HO239.out n_))
         have hcv39 := own_string (P := Try.prog) Try.underlying22 Try.underlying5 Try.underlying9 (Kd.own_of_R HO243.out)
         have hcv39d := fun n_ => own_string (P := Try.prog) Try.underlying22 Try.underlying5 Try.underlying9 (Kd.own_of_R (Kd.R_drewN HO243.out n_))
         have hcv40 := own_string (P := Try.prog) Try.underlying22 Try.underlying5 Try.underlying9 (Kd.own_of_R HO247.out)
         have hcv40d := fun n_ => own_string (P := Try.prog) Try.underlying22 Try.underlying5 Try.underlying9 (Kd.own_of_R (Kd.R_drewN HO247.out n_))
         go_wp2
         go_meet
         case rel => exact ⟨_, ((t241 != t245)), (by first | rfl | (simp; done) | (simp [*]; done)), H', ⟨by first | omega | exact Nat.le_refl _⟩, ⟨by (with_reducible repeat (first | apply Kd.V_alloc | apply Kd.V_drewN | apply Kd.V_drew)); exact Kd.V_mono HO0.out (fun _ hk => ⟨hk.1.1.1.1.1.1.1, ⟨hk.1.1.1.1.1.2, hk.1.1.1.1.2⟩⟩)⟩, ⟨by (with_reducible repeat (first | apply Kd.R_alloc | apply Kd.R_drewN | apply Kd.R_drew)); exact Kd.R_mono HO226.out (fun _ hk => ⟨hk.1.1.1.1.1.1, hk.1.1.1.1.2⟩)⟩, ⟨by (with_reducible repeat (first | apply Kd.R_alloc | apply Kd.R_drewN | apply Kd.R_drew)); exact Kd.R_mono HO230.out (fun _ hk => ⟨hk.1.1.1.1.1.1, hk.1.1.1.1.2⟩)⟩, ⟨by repeat (first | (with_reducible first | exact HB.out | apply below_alloc | apply pw_below_drewN | apply below_drew1) | exact HB.out)⟩⟩
        ·rw [if_neg c34] at H
         have c34b0 : ((strOfNums t240).toList == (strOfNums t244).toList) = false := beq_eq_false_iff_ne.mpr c34
         have c34b1 : ((strOfNums t240).toList != (strOfNums t244).toList) = true := bne_iff_ne.mpr c34
         have H' := Aside0.mk H
         clear H
         have hcv41 := own_string (P := Try.prog) Try.underlying22 Try.underlying5 Try.underlying9 (Kd.own_of_R HO226.out)
         have hcv41d := fun n_ => own_string (P := Try.prog) Try.underlying22 Try.underlying5 Try.underlying9 (Kd.own_of_R (Kd.R_drewN HO226.out n_))
         have hcv42 := own_string (P := Try.prog) Try.underlying22 Try.underlying5 Try.underlying9 (Kd.own_of_R HO230.out)
         have hcv42d := fun n_ => own_string (P := Try.prog) Try.underlying22 Try.underlying5 Try.underlying9 (Kd.own_of_R (Kd.R_drewN HO230.out n_))
         have hcv43 := own_string (P := Try.prog) Try.underlying22 Try.underlying5 Try.underlying9 (Kd.own_of_R HO234.out)
         have hcv43d := fun n_ => own_string (P := Try.prog) Try.underlying22 Try.underlying5 Try.underlying9 (Kd.own_of_R (Kd.R_drewN HO234.out n_))
         have hcv44 := own_string (P := Try.prog) Try.underlying22 Try.underlying5 Try.underlying9 (Kd.own_of_R HO239.out)
         have hcv44d := fun n_ => own_string (P := Try.prog) Try.underlying22 Try.underlying5 Try.underlying9 (Kd.own_of_R (Kd.R_drewN HO239.out n_))
         have hcv45 := own_string (P := Try.prog) Try.underlying22 Try.underlying5 Try.underlying9 (Kd.own_of_R HO243.out)
         have hcv45d := fun n_ => own_string (P := Try.prog) Try.underlying22 Try.underlying5 Try.underlying9 (Kd.own_of_R (Kd.R_drewN HO243.out n_))
         have hcv46 := own_string (P := Try.prog) Try.underlying22 Try.underlying5 Try.underlying9 (Kd.own_of_R HO247.out)
         have hcv46d := fun n_ => own_string (P := Try.prog) Try.underlying22 Try.underlying5 Try.underlying9 (Kd.own_of_R (Kd.R_drewN HO247.out n_))
         go_wp2
         go_meet
         case rel => exact ⟨_, (true), (by first | rfl | (simp; done) | (simp [*]; done)), H', ⟨by first | omega | exact Nat.le_refl _⟩, ⟨by (with_reducible repeat (first | apply Kd.V_alloc | apply Kd.V_drewN | apply Kd.V_drew)); exact Kd.V_mono HO0.out (fun _ hk => ⟨hk.1.1.1.1.1.1.1, ⟨hk.1.1.1.1.1.2, hk.1.1.1.1.2⟩⟩)⟩, ⟨by (with_reducible repeat (first | apply Kd.R_alloc | apply Kd.R_drewN | apply Kd.R_drew)); exact Kd.R_mono HO226.out (fun _ hk => ⟨hk.1.1.1.1.1.1, hk.1.1.1.1.2⟩)⟩, ⟨by (with_reducible repeat (first | apply Kd.R_alloc | apply Kd.R_drewN | apply Kd.R_drew)); exact Kd.R_mono HO230.out (fun _ hk => ⟨hk.1.1.1.1.1.1, hk.1.1.1.1.2⟩)⟩, ⟨by repeat (first | (with_reducible first | exact HB.out | apply below_alloc | apply pw_below_drewN | apply below_drew1) | exact HB.out)⟩⟩
       ·rw [if_neg c33] at H
        have c33b0 : (t235 == t237) = false := beq_eq_false_iff_ne.mpr c33
        have c33b1 : (t235 != t237) = true := bne_iff_ne.mpr c33
        have H' := Aside0.mk H
        clear H
        have hcv47 := own_string (P := Try.prog) Try.underlying22 Try.underlying5 Try.underlying9 (Kd.own_of_R HO226.out)
        have hcv47d := fun n_ => own_string (P := Try.prog) Try.underlying22 Try.underlying5 Try.underlying9 (Kd.own_of_R (Kd.R_drewN HO226.out n_))
        have hcv48 := own_string (P := Try.prog) Try.underlying22 Try.underlying5 Try.underlying9 (Kd.own_of_R HO230.out)
        have hcv48d := fun n_ => own_string (P := Try.prog) Try.underlying22 Try.underlying5 Try.underlying9 (Kd.own_of_R (Kd.R_drewN HO230.out n_))
        have hcv49 := own_string (P := Try.prog) Try.underlying22 Try.underlying5 Try.underlying9 (Kd.own_of_R HO234.out)
        have hcv49d := fun n_ => own_string (P := Try.prog) Try.underlying22 Try.underlying5 Try.underlying9 (Kd.own_of_R (Kd.R_drewN HO234.out n_))
        have hcv50 := own_string (P := Try.prog) Try.underlying22 Try.underlying5 Try.underlying9 (Kd.own_of_R HO239.out)
        have hcv50d := fun n_ => own_string (P := Try.prog) Try.underlying22 Try.underlying5 Try.underlying9 (Kd.own_of_R (Kd.R_drewN HO239.out n_))
        go_wp2
        go_meet
        case rel => exact ⟨_, (true), (by first | rfl | (simp; done) | (simp [*]; done)), H', ⟨by first | omega | exact Nat.le_refl _⟩, ⟨by (with_reducible repeat (first | apply Kd.V_alloc | apply Kd.V_drewN | apply Kd.V_drew)); exact Kd.V_mono HO0.out (fun _ hk => ⟨hk.1.1.1.1.1.1.1, ⟨hk.1.1.1.1.1.2, hk.1.1.1.1.2⟩⟩)⟩, ⟨by (with_reducible repeat (first | apply Kd.R_alloc | apply Kd.R_drewN | apply Kd.R_drew)); exact Kd.R_mono HO226.out (fun _ hk => ⟨hk.1.1.1.1.1.1, hk.1.1.1.1.2⟩)⟩, ⟨by (with_reducible repeat (first | apply Kd.R_alloc | apply Kd.R_drewN | apply Kd.R_drew)); exact Kd.R_mono HO230.out (fun _ hk => ⟨hk.1.1.1.1.1.1, hk.1.1.1.1.2⟩)⟩, ⟨by repeat (first | (with_reducible first | exact HB.out | apply below_alloc | apply pw_below_drewN | apply below_drew1) | exact HB.out)⟩⟩
      ·rw [if_neg c32] at H
       have c32b0 : ((strOfNums t232).toList == (strOfNums t236).toList) = false := beq_eq_false_iff_ne.mpr c32
       have c32b1 : ((strOfNums t232).toList != (strOfNums t236).toList) = true := bne_iff_ne.mpr c32
       have H' := Aside0.mk H
       clear H
       have hcv51 := own_string (P := Try.prog) Try.underlying22 Try.underlying5 Try.underlying9 (Kd.own_of_R HO226.out)
       have hcv51d := fun n_ => own_string (P := Try.prog) Try.underlying22 Try.underlying5 Try.underlying9 (Kd.own_of_R (Kd.R_drewN HO226.out n_))
       have hcv52 := own_string (P := Try.prog) Try.underlying22 Try.underlying5 Try.underlying9 (Kd.own_of_R HO230.out)
       have hcv52d := fun n_ => own_string (P := Try.prog) Try.underlying22 Try.underlying5 Try.underlying9 (Kd.own_of_R (Kd.R_drewN HO230.out n_))
       have hcv53 := own_string (P := Try.prog) Try.underlying22 Try.underlying5 Try.underlying9 (Kd.own_of_R HO234.out)
       have hcv53d := fun n_ => own_string (P := Try.prog) Try.underlying22 Try.underlying5 Try.underlying9 (Kd.own_of_R (Kd.R_drewN HO234.out n_))
       have hcv54 := own_string (P := Try.prog) Try.underlying22 Try.underlying5 Try.underlying9 (Kd.own_of_R HO239.out)
       have hcv54d := fun n_ => own_string (P := Try.prog) Try.underlying22 Try.underlying5 Try.underlying9 (Kd.own_of_R (Kd.R_drewN HO239.out n_))
       go_wp2
       go_meet
       case rel => exact ⟨_, (true), (by first | rfl | (simp; done) | (simp [*]; done)), H', ⟨by first | omega | exact Nat.le_refl _⟩, ⟨by (with_reducible repeat (first | apply Kd.V_alloc | apply Kd.V_drewN | apply Kd.V_drew)); exact Kd.V_mono HO0.out (fun _ hk => ⟨hk.1.1.1.1.1.1.1, ⟨hk.1.1.1.1.1.2, hk.1.1.1.1.2⟩⟩)⟩, ⟨by (with_reducible repeat (first | apply Kd.R_alloc | apply Kd.R_drewN | apply Kd.R_drew)); exact Kd.R_mono HO226.out (fun _ hk => ⟨hk.1.1.1.1.1.1, hk.1.1.1.1.2⟩)⟩, ⟨by (with_reducible repeat (first | apply Kd.R_alloc | apply Kd.R_drewN | apply Kd.R_drew)); exact Kd.R_mono HO230.out (fun _ hk => ⟨hk.1.1.1.1.1.1, hk.1.1.1.1.2⟩)⟩, ⟨by repeat (first | (with_reducible first | exact HB.out | apply below_alloc | apply pw_below_drewN | apply below_drew1) | exact HB.out)⟩⟩
     ·rw [if_neg c31] at H
      have c31b0 : (t227 == t231) = false := beq_eq_false_iff_ne.mpr c31
      have c31b1 : (t227 != t231) = true := bne_iff_ne.mpr c31
      have H' := Aside0.mk H
      clear H
      have hcv55 := own_string (P := Try.prog) Try.underlying22 Try.underlying5 Try.underlying9 (Kd.own_of_R HO226.out)
      have hcv55d := fun n_ => own_string (P := Try.prog) Try.underlying22 Try.underlying5 Try.underlying9 (Kd.own_of_R (Kd.R_drewN HO226.out n_))
      have hcv56 := own_string (P := Try.prog) Try.underlying22 Try.underlying5 Try.underlying9 (Kd.own_of_R HO230.out)
      have hcv56d := fun n_ => own_string (P := Try.prog) Try.underlying22 Try.underlying5 Try.underlying9 (Kd.own_of_R (Kd.R_drewN HO230.out n_))
      go_wp2
      go_meet
      case rel => exact ⟨_, (true), (by first | rfl | (simp; done) | (simp [*]; done)), H', ⟨by first | omega | exact Nat.le_refl _⟩, ⟨by (with_reducible repeat (first | apply Kd.V_alloc | apply Kd.V_drewN | apply Kd.V_drew)); exact Kd.V_mono HO0.out (fun _ hk => ⟨hk.1.1.1.1.1.1.1, ⟨hk.1.1.1.1.1.2, hk.1.1.1.1.2⟩⟩)⟩, ⟨by (with_reducible repeat (first | apply Kd.R_alloc | apply Kd.R_drewN | apply Kd.R_drew)); exact Kd.R_mono HO226.out (fun _ hk => ⟨hk.1.1.1.1.1.1, hk.1.1.1.1.2⟩)⟩, ⟨by (with_reducible repeat (first | apply Kd.R_alloc | apply Kd.R_drewN | apply Kd.R_drew)); exact Kd.R_mono HO230.out (fun _ hk => ⟨hk.1.1.1.1.1.1, hk.1.1.1.1.2⟩)⟩, ⟨by repeat (first | (with_reducible first | exact HB.out | apply below_alloc | apply pw_below_drewN | apply below_drew1) | exact HB.out)⟩⟩
    ·rw [if_neg c30] at H
     have c30b0 : ((strOfNums t224).toList == (strOfNums t228).toList) = false := beq_eq_false_iff_ne.mpr c30
     have c30b1 : ((strOfNums t224).toList != (strOfNums t228).toList) = true := bne_iff_ne.mpr c30
     (first | rw [c30b0] | (simp only [i64_w, i32_w]; rw [c30b0]) | skip)
     have H' := Aside0.mk H
     clear H
     have hcv57 := own_string (P := Try.prog) Try.underlying22 Try.underlying5 Try.underlying9 (Kd.own_of_R HO226.out)
     have hcv57d := fun n_ => own_string (P := Try.prog) Try.underlying22 Try.underlying5 Try.underlying9 (Kd.own_of_R (Kd.R_drewN HO226.out n_))
     have hcv58 := own_string (P := Try.prog) Try.underlying22 Try.underlying5 Try.underlying9 (Kd.own_of_R HO230.out)
     have hcv58d := fun n_ => own_string (P := Try.prog) Try.underlying22 Try.underlying5 Try.underlying9 (Kd.own_of_R (Kd.R_drewN HO230.out n_))
     go_wp2
     go_meet
     case rel => exact ⟨_, (true), (by first | rfl | (simp; done) | (simp [*]; done)), H', ⟨by first | omega | exact Nat.le_refl _⟩, ⟨by (with_reducible repeat (first | apply Kd.V_alloc | apply Kd.V_drewN | apply Kd.V_drew)); exact Kd.V_mono HO0.out (fun _ hk => ⟨hk.1.1.1.1.1.1.1, ⟨hk.1.1.1.1.1.2, hk.1.1.1.1.2⟩⟩)⟩, ⟨by (with_reducible repeat (first | apply Kd.R_alloc | apply Kd.R_drewN | apply Kd.R_drew)); exact Kd.R_mono HO226.out (fun _ hk => ⟨hk.1.1.1.1.1.1, hk.1.1.1.1.2⟩)⟩, ⟨by (with_reducible repeat (first | apply Kd.R_alloc | apply Kd.R_drewN | apply Kd.R_drew)); exact Kd.R_mono HO230.out (fun _ hk => ⟨hk.1.1.1.1.1.1, hk.1.1.1.1.2⟩)⟩, ⟨by repeat (first | (with_reducible first | exact HB.out | apply below_alloc | apply pw_below_drewN | apply below_drew1) | exact HB.out)⟩⟩
   case rest =>
    clear HC18
    try clear c1
    try clear c2
    try clear p2
    try clear hcv2
    try clear c3
    try clear hcv3
    try clear hcv4
    try clear c5
    try clear hcv5
    try clear c7
    try clear c9
    try clear c11
    try clear c15
    try clear c16
    try clear c17
    try clear c18
    try clear c19
    try clear c20
    try clear hcv23
    try clear c30
    try clear c30b0
    try clear c30b1
    try clear c31
    try clear c31b0
    try clear c31b1
    try clear c32
    try clear c32b0
    try clear c32b1
    try clear c33
    try clear c33b0
    try clear c33b1
    try clear c34
    try clear c34b0
    try clear c34b1
    try clear hcv35
    try clear hcv36
    try clear hcv37
    try clear hcv38
    try clear hcv39
    try clear hcv40
    try clear hcv41
    try clear hcv42
    try clear hcv43
    try clear hcv44
    try clear hcv45
    try clear hcv46
    try clear hcv47
    try clear hcv48
    try clear hcv49
    try clear hcv50
    try clear hcv51
    try clear hcv52
    try clear hcv53
    try clear hcv54
    try clear hcv55
    try clear hcv56
    try clear hcv57
    try clear hcv58
    obtain ⟨kq, x98_17, rfl, HA, HJ17, HO_0, HO_9, HO_11, HB⟩ := hcut
    cases kq with
    | zero => exact absurd HA.out (by simp [squelchlaw02_CrcFrames.j0])
    | succ kj17 =>
     have H := HA.out
     clear HA
     simp only [squelchlaw02_CrcFrames.j0] at H
     by_cases c59 : x98_17 = true
     ·subst c59
      have H1 : (some false) = some r := by rw [if_pos rfl] at H; exact H
      clear H
      have H := H1
      clear H1
      obtain rfl := Option.some.inj H
      go_wp2
      go_ret
      exact ⟨by first | rfl | (simp [errW_none, errW_some] <;> rfl) | (simp [*, errW_none, errW_some] <;> rfl), by repeat (first | (with_reducible first | exact HB.out | apply below_alloc | apply pw_below_drewN | apply below_drew1) | exact HB.out)⟩
     ·replace c59 := Bool.eq_false_iff.mpr c59
      subst c59
      have H1 : ((crc_Patch.f kj17 t224 a1 a2).bind fun bt248 => ((squelchref02_Patch.f kj17 t228 a1 a2).bind fun bt252 => (squelchlaw02_CrcFrames.l0 kj17 l0 true (strOfNums l0) t224 bt248.1 bt248.2 bt252.1 bt252.2 (t224.length : Int) 0))) = some r := by rw [if_neg (show ¬ (false = true) by decide)] at H; exact H
      clear H
      have H := H1
      clear H1
      replace H := Option.bind_eq_some_iff.mp H
      obtain ⟨⟨t248, t249⟩, A600, H⟩ := H
      replace H : ((squelchref02_Patch.f kj17 t228 a1 a2).bind fun bt252 => (squelchlaw02_CrcFrames.l0 kj17 l0 true (strOfNums l0) t224 t248 t249 bt252.1 bt252.2 (t224.length : Int) 0)) = some r := H
      have A60 := Aside0.mk A600
      clear A600
      replace H := Option.bind_eq_some_iff.mp H
      obtain ⟨⟨t252, t253⟩, A610, H⟩ := H
      replace H : (squelchlaw02_CrcFrames.l0 kj17 l0 true (strOfNums l0) t224 t248 t249 t252 t253 (t224.length : Int) 0) = some r := H
      have A61 := Aside0.mk A610
      clear A610
      have H' := Aside0.mk H
      clear H
      obtain ⟨Ao62, co62, eo62⟩ := Kd.R_slice HO_9.out
      subst eo62
      go_wp2_with (first | ((with_reducible refine gate_callee (f := 19) rfl ?_); refine goesL_ (some 103) rfl rfl Try.func19 (by kernel_rfl) rfl #[.slice Ao62 t224.length co62, .int .i64 a1, .int .u8 a2] rfl (by (try simp only [List.map_toArray, List.map_cons, List.map_nil]); first | done | rfl | (simp only [List.length_drop, List.length_take]; rfl)) ?_; (with_reducible refine (crc_Patch.calls kj17 _ _ t224 a1 a2 t248 t249 _ ?side1 ?side2 A60.out).mono ?_); (case side1 => repeat (first | exact (Kd.R_reads' HO_9.out).2.2 | (with_reducible refine Kd.C_alloc ?_ _) | (with_reducible refine Kd.C_drewN ?_ _) | (with_reducible refine Kd.C_drew ?_))); (case side2 => exact (Kd.R_reads' HO_9.out).2.1); rintro e w63 ⟨v250, rfl, ho0, hb⟩; refine ⟨_, rfl, ?_⟩; have n0_ := Aside0.mk (Kd.V_elder' (by (with_reducible repeat (first | apply Kd.V_alloc | apply Kd.V_drewN | apply Kd.V_drew)); exact HO_0.out) (Kd.R_base ho0) hb); have n1_ := Aside0.mk (Kd.R_elder' (by (with_reducible repeat (first | apply Kd.R_alloc | apply Kd.R_drewN | apply Kd.R_drew)); exact HO_9.out) (Kd.R_base ho0) hb); have n2_ := Aside0.mk (Kd.R_elder' (by (with_reducible repeat (first | apply Kd.R_alloc | apply Kd.R_drewN | apply Kd.R_drew)); exact HO_11.out) (Kd.R_base ho0) hb); have n3_ := Aside0.mk (Kd.R_lower (Kd.R_new' (Kd.R_new' (Kd.R_newM (M := fun k_ => (w.heap.size ≤ k_)) ho0 (below_size (by repeat (first | (with_reducible first | exact HB.out | apply below_alloc | apply pw_below_drewN | apply below_drew1) | exact HB.out))) (fun k_ h_ => h_)) (Kd.R_lt (by (with_reducible repeat (first | apply Kd.R_alloc | apply Kd.R_drewN | apply Kd.R_drew)); exact HO_9.out))) (Kd.R_lt (by (with_reducible repeat (first | apply Kd.R_alloc | apply Kd.R_drewN | apply Kd.R_drew)); exact HO_11.out))) (below_size (by repeat (first | (with_reducible first | exact HB.out | apply below_alloc | apply pw_below_drewN | apply below_drew1) | exact HB.out)))); have n4_ := Aside0.mk (below_step (by repeat (first | (with_reducible first | exact HB.out | apply below_alloc | apply pw_below_drewN | apply below_drew1) | exact HB.out)) hb); clear HO_0; clear HO_9; clear HO_11; clear HB; have HO_0 := n0_; have HO_9 := n1_; have HO_11 := n2_; have HO251 := n3_; have HB := n4_; clear n0_ n1_ n2_ n3_ n4_; (try clear hb); (try clear hb2); (try clear hk); (try clear hi); (try clear ho0); obtain ⟨Ao64, co64, eo64⟩ := Kd.R_slice HO_11.out; subst eo64) | ((with_reducible refine gate_callee (f := 20) rfl ?_); refine goesL_ (some 110) rfl rfl Try.func20 (by kernel_rfl) rfl #[.slice Ao64 t228.length co64, .int .i64 a1, .int .u8 a2] rfl (by (try simp only [List.map_toArray, List.map_cons, List.map_nil]); first | done | rfl | (simp only [List.length_drop, List.length_take]; rfl)) ?_; (with_reducible refine (squelchref02_Patch.calls kj17 _ _ t228 a1 a2 t252 t253 _ ?side1 ?side2 A61.out).mono ?_); (case side1 => repeat (first | exact (Kd.R_reads' HO_11.out).2.2 | (with_reducible refine Kd.C_alloc ?_ _) | (with_reducible refine Kd.C_drewN ?_ _) | (with_reducible refine Kd.C_drew ?_))); (case side2 => exact (Kd.R_reads' HO_11.out).2.1); rintro e w65 ⟨v254, rfl, ho0, hb⟩; refine ⟨_, rfl, ?_⟩; have n0_ := Aside0.mk (Kd.V_elder' (by (with_reducible repeat (first | apply Kd.V_alloc | apply Kd.V_drewN | apply Kd.V_drew)); exact HO_0.out) (Kd.R_base ho0) hb); have n1_ := Aside0.mk (Kd.R_elder' (by (with_reducible repeat (first | apply Kd.R_alloc | apply Kd.R_drewN | apply Kd.R_drew)); exact HO_9.out) (Kd.R_base ho0) hb); have n2_ := Aside0.mk (Kd.R_elder' (by (with_reducible repeat (first | apply Kd.R_alloc | apply Kd.R_drewN | apply Kd.R_drew)); exact HO_11.out) (Kd.R_base ho0) hb); have n3_ := Aside0.mk (Kd.R_elder' (by (with_reducible repeat (first | apply Kd.R_alloc | apply Kd.R_drewN | apply Kd.R_drew)); exact HO251.out) (Kd.R_base ho0) hb); have n4_ := Aside0.mk (Kd.R_lower (Kd.R_new' (Kd.R_new' (Kd.R_new' (Kd.R_newM (M := fun k_ => (w.heap.size ≤ k_)) ho0 (below_size (by repeat (first | (with_reducible first | exact HB.out | apply below_alloc | apply pw_below_drewN | apply below_drew1) | exact HB.out))) (fun k_ h_ => h_)) (Kd.R_lt (by (with_reducible repeat (first | apply Kd.R_alloc | apply Kd.R_drewN | apply Kd.R_drew)); exact HO_9.out))) (Kd.R_lt (by (with_reducible repeat (first | apply Kd.R_alloc | apply Kd.R_drewN | apply Kd.R_drew)); exact HO_11.out))) (Kd.R_lt (by (with_reducible repeat (first | apply Kd.R_alloc | apply Kd.R_drewN | apply Kd.R_drew)); exact HO251.out))) (below_size (by repeat (first | (with_reducible first | exact HB.out | apply below_alloc | apply pw_below_drewN | apply below_drew1) | exact HB.out)))); have n5_ := Aside0.mk (below_step (by repeat (first | (with_reducible first | exact HB.out | apply below_alloc | apply pw_below_drewN | apply below_drew1) | exact HB.out)) hb); clear HO_0; clear HO_9; clear HO_11; clear HO251; clear HB; have HO_0 := n0_; have HO_9 := n1_; have HO_11 := n2_; have HO251 := n3_; have HO255 := n4_; have HB := n5_; clear n0_ n1_ n2_ n3_ n4_ n5_; (try clear hb); (try clear hb2); (try clear hk); (try clear hi); (try clear ho0)))
      (try simp only [Act.put, List.setIfInBounds_toArray, List.set_cons_zero, List.set_cons_succ])
      go_loopg [115] kj17 (fun kq v115 w' => ∃ (x9_2 : List Int) (x115_2 : Int), v115 = .int .i64 x115_2 ∧ Aside0 (squelchlaw02_CrcFrames.l0 kq l0 true (strOfNums l0) x9_2 t248 t249 t252 t253 (t224.length : Int) x115_2 = some r) ∧ Aside0 (kq ≤ kj17) ∧ Aside0 (Kd.V (Kd.int .u8) 5 w' w.heap.size (fun k_ => (P0_ k_ ∨ w.heap.size ≤ k_) ∧ some k_ ≠ ((.slice Ao62 t224.length co62) : Value).ownBlock ∧ some k_ ≠ (v250 : Value).ownBlock ∧ some k_ ≠ (v254 : Value).ownBlock) (.slice A0 l0.length c0) l0) ∧ Aside0 (Kd.R (Kd.int .u8) 5 w' w.heap.size (fun k_ => (w.heap.size ≤ k_) ∧ some k_ ≠ (v250 : Value).ownBlock ∧ some k_ ≠ (v254 : Value).ownBlock) (.slice Ao62 t224.length co62) x9_2) ∧ Aside0 (Kd.R (Kd.int .u8) 5 w' w.heap.size (fun k_ => (w.heap.size ≤ k_) ∧ some k_ ≠ ((.slice Ao62 t224.length co62) : Value).ownBlock ∧ some k_ ≠ (v254 : Value).ownBlock) v250 t248) ∧ Aside0 (Kd.R (Kd.int .u8) 5 w' w.heap.size (fun k_ => (w.heap.size ≤ k_) ∧ some k_ ≠ ((.slice Ao62 t224.length co62) : Value).ownBlock ∧ some k_ ≠ (v250 : Value).ownBlock) v254 t252) ∧ Aside0 (Below w.heap.size w w'))
      case atStart => exact ⟨(t224), (0), (by first | rfl | (simp; done) | (simp [*]; done)), H', ⟨Nat.le_refl _⟩, ⟨by (with_reducible repeat (first | apply Kd.V_alloc | apply Kd.V_drewN | apply Kd.V_drew)); exact Kd.V_mono HO_0.out (fun _ hk => ⟨hk.1.1.1, ⟨hk.1.1.2.1, ⟨hk.1.2, hk.2⟩⟩⟩)⟩, ⟨by (with_reducible repeat (first | apply Kd.R_alloc | apply Kd.R_drewN | apply Kd.R_drew)); exact Kd.R_mono HO_9.out (fun _ hk => ⟨hk.1.1.1, ⟨hk.1.2, hk.2⟩⟩)⟩, ⟨by (with_reducible repeat (first | apply Kd.R_alloc | apply Kd.R_drewN | apply Kd.R_drew)); exact Kd.R_mono HO251.out (fun _ hk => ⟨hk.1.1.1.1, ⟨hk.1.1.2, hk.2⟩⟩)⟩, ⟨by (with_reducible repeat (first | apply Kd.R_alloc | apply Kd.R_drewN | apply Kd.R_drew)); exact Kd.R_mono HO255.out (fun _ hk => ⟨hk.1.1.1.1, ⟨hk.1.1.2, hk.2⟩⟩)⟩, ⟨by repeat (first | (with_reducible first | exact HB.out | apply below_alloc | apply pw_below_drewN | apply below_drew1) | exact HB.out)⟩⟩
      case round =>
       clear H'
       try clear c1
       try clear c2
       try clear p2
       try clear hcv2
       try clear c3
       try clear hcv3
       try clear hcv4
       try clear c5
       try clear hcv5
       try clear c7
       try clear c9
       try clear c11
       try clear c15
       try clear c16
       try clear c17
       try clear c18
       try clear c19
       try clear c20
       try clear hcv23
       try clear c30
       try clear c30b0
       try clear c30b1
       try clear c31
       try clear c31b0
       try clear c31b1
       try clear c32
       try clear c32b0
       try clear c32b1
       try clear c33
       try clear c33b0
       try clear c33b1
       try clear c34
       try clear c34b0
       try clear c34b1
       try clear hcv35
       try clear hcv36
       try clear hcv37
       try clear hcv38
       try clear hcv39
       try clear hcv40
       try clear hcv41
       try clear hcv42
       try clear hcv43
       try clear hcv44
       try clear hcv45
       try clear hcv46
       try clear hcv47
       try clear hcv48
       try clear hcv49
       try clear hcv50
       try clear hcv51
       try clear hcv52
       try clear hcv53
       try clear hcv54
       try clear hcv55
       try clear hcv56
       try clear hcv57
       try clear hcv58
       try clear c59
       try clear p2
       obtain ⟨x9_2, x115_2, rfl, HA, HK2, HO_0, HO_9, HO_17, HO_19, HB⟩ := hrel
       have hl9_2 := (Kd.R_reads' HO_9.out).1
       rw [hl9_2] at HO_9
       (try simp only [hl9_2])
       (try simp only [hl9_2] at HO_0)
       (try simp only [hl9_2] at HO_17)
       (try simp only [hl9_2] at HO_19)
       cases gk with
       | zero => exact absurd HA.out (by simp [squelchlaw02_CrcFrames.l0])
       | succ k2 =>
        have H := HA.out
        clear HA
        simp only [squelchlaw02_CrcFrames.l0] at H
        by_cases c66 : x115_2 < (t224.length : Int)
        ·rw [if_pos c66] at H
         have c66b0 : decide (x115_2 < (t224.length : Int)) = true := decide_eq_true c66
         clear c66
         by_cases c67 : 0 ≤ x115_2
         ·rw [if_pos c67] at H
          have c67b0 : decide (0 ≤ x115_2) = true := decide_eq_true c67
          clear c67
          by_cases c68 : x115_2 < (x9_2.length : Int)
          ·rw [if_pos c68] at H
           have c68b0 : decide (x115_2 < (x9_2.length : Int)) = true := decide_eq_true c68
           clear c68
           obtain ⟨y257, hy257⟩ : ∃ y_ : List Int, y_ = (x9_2.set (x115_2 : Int).toNat (((rd x9_2 x115_2) + 1) % 256)) := ⟨_, rfl⟩
           replace H : (squelchlaw02_CrcFrames.l0 k2 l0 true (strOfNums l0) y257 t248 t249 t252 t253 (t224.length : Int) (wrap64 (x115_2 + 1))) = some r := by first | (rw [hy257]; with_reducible exact H) | (have H2_ := (Option.bind_some _ _).symm.trans H; rw [hy257]; with_reducible exact H2_) | (have H2_ := (Option.bind_some _ _).symm.trans H; with_reducible exact H2_) | with_reducible exact H | (rw [hy257]; exact H) | exact H
           have Ny257 := Aside0.mk hy257
           clear hy257
           have H' := Aside0.mk H
           clear H
           have p256 : 0 ≤ (x115_2 : Int) := of_decide_eq_true (by first | (with_reducible assumption) | assumption)
           have q256 : x115_2 < (x9_2.length : Int) := of_decide_eq_true (by first | (with_reducible assumption) | assumption)
           obtain ⟨ad256, e256, hx256_0⟩ := Kd.at_int (Kd.R_reads' HO_9.out).2.2 x115_2 p256 q256
           cases e256
           replace p256 := eq_true p256
           replace q256 := eq_true q256
           have p69 : 0 ≤ (x115_2 : Int) := of_decide_eq_true (by first | (with_reducible assumption) | assumption)
           have q69 : (x115_2 : Int) < ((x9_2.length : Int) : Int) := of_decide_eq_true (by first | (with_reducible assumption) | assumption)
           obtain ⟨go69, co69, eo69, gb69, gl69, cl69, HG69⟩ := Kd.R_form HO_9.out (by omega)
           (first | cases eo69 | (injection eo69 with ea_ en_ ec_; (first | subst ea_ | (injection ea_ with ea_; subst ea_)); subst ec_; clear en_))
           have GB69 := Aside0.mk gb69
           have GG69 := Aside0.mk HG69
           clear gb69 gl69 HG69
           (first | simp only [add_plain] at hx256_0 | skip)
           obtain ⟨hx69_0, hf69_0⟩ := Kd.R_celln 0 HO_9.out (x115_2 : Int) p69 q69
           replace p69 := eq_true p69
           replace q69 := eq_true q69
           have HP70 := Kd.R_putg HO_9.out (x115_2 : Int) (((rd x9_2 x115_2) + 1) % 256)
           (try simp only [hl9_2] at c66b0)
           (try simp only [hl9_2] at c68b0)
           go_wp2_with (first | ((with_reducible refine gate_store (t := 5) (p := 123) rfl ?_); refine store_event (t := 5) (p := 123) (v := ?vo_w71) (w1 := (wr.setCell ⟨go69, (x115_2 : Int).toNat, none⟩ (.int .u8 (((rd x9_2 x115_2) + 1) % 256)))) ?hg ?ho ?hn ?hr ?_; (case ho => rfl); (case hg => rfl); (case hn => rfl); (case hr => first | (go_simp; done) | (go_simp; rfl)); intro w71 hw; have hg : wr.grownBy w71 (some go69) := (by rw [hw]; exact HP70.2); have hp_ : Kd.R (Kd.int .u8) 5 w71 w.heap.size (fun k_ => (w.heap.size ≤ k_) ∧ some k_ ≠ (v250 : Value).ownBlock ∧ some k_ ≠ (v254 : Value).ownBlock) (.slice (some ⟨go69, 0, none⟩) x9_2.length co62) y257 := (by rw [hw, Ny257.out]; exact HP70.1); clear HP70; have n0_ := Aside0.mk (Kd.V_afterv (v := (.slice (some ⟨go69, 0, none⟩) x9_2.length co62)) (v1 := (.slice (some ⟨go69, 0, none⟩) x9_2.length co62)) (ok := (fun k_ => (P0_ k_ ∨ w.heap.size ≤ k_) ∧ some k_ ≠ (v250 : Value).ownBlock ∧ some k_ ≠ (v254 : Value).ownBlock)) (by (with_reducible repeat (first | apply Kd.V_alloc | apply Kd.V_drewN | apply Kd.V_drew)); exact Kd.V_mono HO_0.out (fun _ hk => ⟨⟨hk.1, ⟨hk.2.2.1, hk.2.2.2⟩⟩, hk.2.1⟩)) hg (.inl rfl)); have n1_ := Aside0.mk (hp_); have n2_ := Aside0.mk (Kd.R_after (v := (.slice (some ⟨go69, 0, none⟩) x9_2.length co62)) (v1 := (.slice (some ⟨go69, 0, none⟩) x9_2.length co62)) (ok := (fun k_ => (w.heap.size ≤ k_) ∧ some k_ ≠ (v254 : Value).ownBlock)) (by (with_reducible repeat (first | apply Kd.R_alloc | apply Kd.R_drewN | apply Kd.R_drew)); exact Kd.R_mono HO_17.out (fun _ hk => ⟨⟨hk.1, hk.2.2⟩, hk.2.1⟩)) hg (.inl rfl)); have n3_ := Aside0.mk (Kd.R_after (v := (.slice (some ⟨go69, 0, none⟩) x9_2.length co62)) (v1 := (.slice (some ⟨go69, 0, none⟩) x9_2.length co62)) (ok := (fun k_ => (w.heap.size ≤ k_) ∧ some k_ ≠ (v250 : Value).ownBlock)) (by (with_reducible repeat (first | apply Kd.R_alloc | apply Kd.R_drewN | apply Kd.R_drew)); exact Kd.R_mono HO_19.out (fun _ hk => ⟨⟨hk.1, hk.2.2⟩, hk.2.1⟩)) hg (.inl rfl)); have n4_ := Aside0.mk ((by rw [hw]; exact below_set (HB.out) GB69.out : Below w.heap.size w w71)); clear HO_0; clear HO_9; clear HO_17; clear HO_19; clear HB; have HO_0 := n0_; have HO_9 := n1_; have HO_17 := n2_; have HO_19 := n3_; have HB := n4_; clear n0_ n1_ n2_ n3_ n4_; clear hg hw hp_))
           (try simp only [← hl9_2])
           go_roundg k2
           case measure => have := HJ17.out; have := HK2.out; omega
           case rel => exact ⟨(y257), (wrap64 (x115_2 + 1)), (by first | rfl | (simp; done) | (simp [*]; done)), H', ⟨by have := HJ17.out; have := HK2.out; omega⟩, ⟨by (try simp only [hl9_2]); (with_reducible repeat (first | apply Kd.V_alloc | apply Kd.V_drewN | apply Kd.V_drew)); exact Kd.V_mono HO_0.out (fun _ hk => ⟨hk.1.1, ⟨hk.2, ⟨hk.1.2.1, hk.1.2.2⟩⟩⟩)⟩, ⟨by (try simp only [hl9_2]); (with_reducible repeat (first | apply Kd.R_alloc | apply Kd.R_drewN | apply Kd.R_drew)); exact HO_9.out⟩, ⟨by (try simp only [hl9_2]); (with_reducible repeat (first | apply Kd.R_alloc | apply Kd.R_drewN | apply Kd.R_drew)); exact Kd.R_mono HO_17.out (fun _ hk => ⟨hk.1.1, ⟨hk.2, hk.1.2⟩⟩)⟩, ⟨by (try simp only [hl9_2]); (with_reducible repeat (first | apply Kd.R_alloc | apply Kd.R_drewN | apply Kd.R_drew)); exact Kd.R_mono HO_19.out (fun _ hk => ⟨hk.1.1, ⟨hk.2, hk.1.2⟩⟩)⟩, ⟨by repeat (first | (with_reducible first | exact HB.out | apply below_alloc | apply pw_below_drewN | apply below_drew1) | exact HB.out)⟩⟩
          ·rw [if_neg c68] at H
           exact absurd H (by simp)
         ·rw [if_neg c67] at H
          exact absurd H (by simp)
        ·rw [if_neg c66] at H
         have c66b0 : decide (x115_2 < (t224.length : Int)) = false := decide_eq_false c66
         clear c66
         have H1 : (if (strOfNums t248).toList = (strOfNums t252).toList then (if t249 = t253 then (some ((strOfNums l0).toList == (strOfNums l0).toList)) else (some false)) else (some false)) = some r := by first | (rw [if_pos rfl] at H; exact H) | (rw [if_pos trivial] at H; exact H)
         clear H
         have H := H1
         clear H1
         by_cases c72 : (strOfNums t248).toList = (strOfNums t252).toList
         ·rw [if_pos c72] at H
          have c72b0 : ((strOfNums t248).toList == (strOfNums t252).toList) = true := beq_iff_eq.mpr c72
          have c72b1 : ((strOfNums t248).toList != (strOfNums t252).toList) = false := bne_eq_false_iff_eq.mpr c72
          clear c72
          by_cases c73 : t249 = t253
          ·rw [if_pos c73] at H
           have c73b0 : (t249 == t253) = true := beq_iff_eq.mpr c73
           have c73b1 : (t249 != t253) = false := bne_eq_false_iff_eq.mpr c73
           clear c73
           obtain rfl := Option.some.inj H
           have hcv74 := own_string (P := Try.prog) Try.underlying22 Try.underlying5 Try.underlying9 (Kd.own_of_R HO_17.out)
           have hcv74d := fun n_ => own_string (P := Try.prog) Try.underlying22 Try.underlying5 Try.underlying9 (Kd.own_of_R (Kd.R_drewN HO_17.out n_))
           have hcv75 := own_string (P := Try.prog) Try.underlying22 Try.underlying5 Try.underlying9 (Kd.own_of_R HO_19.out)
           have hcv75d := fun n_ => own_string (P := Try.prog) Try.underlying22 Try.underlying5 Try.underlying9 (Kd.own_of_R (Kd.R_drewN HO_19.out n_))
           have hcv76 := Kd.C_string (P := Try.prog) (A := A0) (c := c0) Try.underlying22 Try.underlying5 Try.underlying9 (Kd.V_reads' HO_0.out).2.2
           have hcv76d := fun n_ => Kd.C_string (P := Try.prog) (A := A0) (c := c0) Try.underlying22 Try.underlying5 Try.underlying9 (Kd.V_reads' (Kd.V_drewN HO_0.out n_)).2.2
           (try simp only [hl9_2] at c66b0)
           (try simp only [hl9_2] at c66b0)
           go_wp2
           go_ret
           exact ⟨by first | rfl | (simp [errW_none, errW_some] <;> rfl) | (simp [*, errW_none, errW_some] <;> rfl), by repeat (first | (with_reducible first | exact HB.out | apply below_alloc | apply pw_below_drewN | apply below_drew1) | exact HB.out)⟩
          ·rw [if_neg c73] at H
           have c73b0 : (t249 == t253) = false := beq_eq_false_iff_ne.mpr c73
           have c73b1 : (t249 != t253) = true := bne_iff_ne.mpr c73
           obtain rfl := Option.some.inj H
           have hcv77 := own_string (P := Try.prog) Try.underlying22 Try.underlying5 Try.underlying9 (Kd.own_of_R HO_17.out)
           have hcv77d := fun n_ => own_string (P := Try.prog) Try.underlying22 Try.underlying5 Try.underlying9 (Kd.own_of_R (Kd.R_drewN HO_17.out n_))
           have hcv78 := own_string (P := Try.prog) Try.underlying22 Try.underlying5 Try.underlying9 (Kd.own_of_R HO_19.out)
           have hcv78d := fun n_ => own_string (P := Try.prog) Try.underlying22 Try.underlying5 Try.underlying9 (Kd.own_of_R (Kd.R_drewN HO_19.out n_))
           (try simp only [hl9_2] at c66b0)
           (try simp only [hl9_2] at c66b0)
           go_wp2
           go_ret
           exact ⟨by first | rfl | (simp [errW_none, errW_some] <;> rfl) | (simp [*, errW_none, errW_some] <;> rfl), by repeat (first | (with_reducible first | exact HB.out | apply below_alloc | apply pw_below_drewN | apply below_drew1) | exact HB.out)⟩
         ·rw [if_neg c72] at H
          have c72b0 : ((strOfNums t248).toList == (strOfNums t252).toList) = false := beq_eq_false_iff_ne.mpr c72
          have c72b1 : ((strOfNums t248).toList != (strOfNums t252).toList) = true := bne_iff_ne.mpr c72
          obtain rfl := Option.some.inj H
          have hcv79 := own_string (P := Try.prog) Try.underlying22 Try.underlying5 Try.underlying9 (Kd.own_of_R HO_17.out)
          have hcv79d := fun n_ => own_string (P := Try.prog) Try.underlying22 Try.underlying5 Try.underlying9 (Kd.own_of_R (Kd.R_drewN HO_17.out n_))
          have hcv80 := own_string (P := Try.prog) Try.underlying22 Try.underlying5 Try.underlying9 (Kd.own_of_R HO_19.out)
          have hcv80d := fun n_ => own_string (P := Try.prog) Try.underlying22 Try.underlying5 Try.underlying9 (Kd.own_of_R (Kd.R_drewN HO_19.out n_))
          (try simp only [hl9_2] at c66b0)
          (try simp only [hl9_2] at c66b0)
          go_wp2
          go_ret
          exact ⟨by first | rfl | (simp [errW_none, errW_some] <;> rfl) | (simp [*, errW_none, errW_some] <;> rfl), by repeat (first | (with_reducible first | exact HB.out | apply below_alloc | apply pw_below_drewN | apply below_drew1) | exact HB.out)⟩
 ·replace c5 := Bool.eq_false_iff.mpr c5
  subst c5
  have H1 : (some false) = some r := by rw [if_neg (show ¬ (false = true) by decide)] at H; exact H
  clear H
  have H := H1
  clear H1
  obtain rfl := Option.some.inj H
  go_enter Try.func7, Try.ntmps7
  go_wp2_with (first | ((with_reducible refine gate_callee (f := 9) rfl ?_); refine goesL_ (some 22) rfl rfl Try.func9 (by kernel_rfl) rfl #[] rfl (by (try simp only [List.map_toArray, List.map_cons, List.map_nil]); first | done | rfl | (simp only [List.length_drop, List.length_take]; rfl)) ?_; (with_reducible refine (squelchlaw02_live.calls  false _ A4.out).mono ?_); rintro e w81 ⟨rfl, hb⟩; refine ⟨_, rfl, ?_⟩; have n0_ := Aside0.mk (Kd.V_below (by (with_reducible repeat (first | apply Kd.V_alloc | apply Kd.V_drewN | apply Kd.V_drew)); exact HO0.out) hb); have n1_ := Aside0.mk (below_step (by repeat (first | (with_reducible first | exact HB.out | apply below_alloc | apply pw_below_drewN | apply below_drew1) | exact HB.out)) hb); clear HO0; clear HB; have HO0 := n0_; have HB := n1_; clear n0_ n1_; (try clear hb); (try clear hb2); (try clear hk); (try clear hi)))
  go_ret
  exact ⟨by first | rfl | (simp [errW_none, errW_some] <;> rfl) | (simp [*, errW_none, errW_some] <;> rfl), by repeat (first | (with_reducible first | exact HB.out | apply below_alloc | apply pw_below_drewN | apply below_drew1) | exact HB.out)⟩

def squelchlaw02_CrcFrames.Pure : Prop := ∀ (l0 : List Int) (a1 : Int) (a2 : Int), (l0.length * 1 ≤ 140737488351232 ∧ l0.length ≤ 9223372036854775807 ∧ ∀ y0_ ∈ l0, (Lit.int .u8 y0_).wf = true) → (Lit.int .i64 a1).wf = true → (Lit.int .u8 a2).wf = true → ∃ k, squelchlaw02_CrcFrames.f k l0 a1 a2 = some true

end Go.Proofs.Ytfjcehjdendjnaa.PA
-- slim
