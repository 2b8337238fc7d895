/- The chapter's example: live is true; walked by hand. A state that lies in a block of its own. -/
import Derived.Test.YtkjgibdbbklejaaHPut
import Derived.Test.YtkjgibdbbklejaaHPull
import Derived.Test.YtkjgibdbbklejaaHEqJ
namespace Go.Proofs.Ytkjgibdbbklejaa.PA
open Go.RowKit Go.Proofs.YtkjgibdbbklejaaW.PrintWords Go.Proofs.YtkjgibdbbklejaaW.PrintLast Go.Proofs.YtkjgibdbbklejaaW.PrintMore
set_option linter.unusedVariables false
set_option linter.unusedSimpArgs false
theorem froz5 {w : World} {g : Nat} {t : TypeId} {cs : Array Value} (h : w.heap[g]? = some (.cells cs t (0, 0))) : w.frozen? ⟨g, 0, none⟩ = false ∧ w.frozen? ⟨g, 1, none⟩ = false ∧ w.frozen? ⟨g, 2, none⟩ = false ∧ w.frozen? ⟨g, 3, none⟩ = false ∧ w.frozen? ⟨g, 4, none⟩ = false := ⟨blk_frozen h 0, blk_frozen h 1, blk_frozen h 2, blk_frozen h 3, blk_frozen h 4⟩
theorem blk_put5 {w : World} {g : Nat} {t : TypeId} {c0 c1 c2 c3 c4 u0 u1 u2 u3 u4 : Value} (h : w.heap[g]? = some (.cells #[c0, c1, c2, c3, c4] t (0, 0))) : (((((w.setCell ⟨g, 0, none⟩ u0).setCell ⟨g, 1, none⟩ u1).setCell ⟨g, 2, none⟩ u2).setCell ⟨g, 3, none⟩ u3).setCell ⟨g, 4, none⟩ u4).heap[g]? = some (.cells #[u0, u1, u2, u3, u4] t (0, 0)) := (blk_put (cs' := #[u0, u1, u2, u3, u4]) (blk_put (cs' := #[u0, u1, u2, u3, c4]) (blk_put (cs' := #[u0, u1, u2, c3, c4]) (blk_put (cs' := #[u0, u1, c2, c3, c4]) (blk_put (cs' := #[u0, c1, c2, c3, c4]) h 0 u0 rfl) 1 u1 rfl) 2 u2 rfl) 3 u3 rfl) 4 u4 rfl)
theorem V_far5 {α : Type} {d : Kd α} {e : TypeId} {W : World} {base : Nat} {ok : Nat → Prop} {v : Value} {xs : List α} {g : Nat} (h : Kd.V d e W base ok v xs) (hok : ∀ k, ok k → k ≠ g) (u0 u1 u2 u3 u4 : Value) : Kd.V d e (((((W.setCell ⟨g, 0, none⟩ u0).setCell ⟨g, 1, none⟩ u1).setCell ⟨g, 2, none⟩ u2).setCell ⟨g, 3, none⟩ u3).setCell ⟨g, 4, none⟩ u4) base ok v xs := (Kd.V_far (p := ⟨g, 4, none⟩) (Kd.V_far (p := ⟨g, 3, none⟩) (Kd.V_far (p := ⟨g, 2, none⟩) (Kd.V_far (p := ⟨g, 1, none⟩) (Kd.V_far (p := ⟨g, 0, none⟩) h hok u0) hok u1) hok u2) hok u3) hok u4)
theorem bS5 {w W : World} {g : Nat} {u0 u1 u2 u3 u4 : Value} (h : Below w.heap.size w W) (hg : w.heap.size ≤ g) : Below w.heap.size w (((((W.setCell ⟨g, 0, none⟩ u0).setCell ⟨g, 1, none⟩ u1).setCell ⟨g, 2, none⟩ u2).setCell ⟨g, 3, none⟩ u3).setCell ⟨g, 4, none⟩ u4) := below_set (below_set (below_set (below_set (below_set h hg) hg) hg) hg) hg
theorem bnd64 {n : Int} (h : (Lit.int .i64 n).wf = true) : -9223372036854775808 ≤ n ∧ n ≤ 9223372036854775807 := by
  have hmin : IntKind.min .i64 = -9223372036854775808 := by decide
  have hmax : IntKind.max .i64 = 9223372036854775807 := by decide
  have h2 : (decide (IntKind.min .i64 ≤ n) && decide (n ≤ IntKind.max .i64)) = true := h
  rw [hmin, hmax, Bool.and_eq_true_iff] at h2
  exact ⟨of_decide_eq_true h2.1, of_decide_eq_true h2.2⟩
/-- A state in a block of its own. -/
structure FJ (W : World) (g6 base : Nat) (on : Bool) (nx dp dr : Int) (q : List S41) (v : Value) : Prop where
  blk : W.heap[g6]? = some (.cells #[.bool on, .int .i64 nx, .int .i64 dp, .int .i64 dr, v] 26 (0, 0))
  row : Kd.V k41 41 W base (fun k => k ≠ g6) v q
  b6 : base ≤ g6
theorem FJ.below {W W' : World} {g6 base : Nat} {on : Bool} {nx dp dr : Int} {q : List S41} {v : Value} (h : FJ W g6 base on nx dp dr q v) (hb : Below W.heap.size W W') : FJ W' g6 base on nx dp dr q v := ⟨blk_below h.blk hb, Kd.V_below h.row hb, h.b6⟩
/-- Another state, put into the block. -/
theorem FJ.put {W : World} {g6 base : Nat} {on on' : Bool} {nx dp dr nx' dp' dr' : Int} {q q' : List S41} {v v' : Value} (h : FJ W g6 base on nx dp dr q v) (hr : Kd.V k41 41 W base (fun k => k ≠ g6) v' q') : FJ (((((W.setCell ⟨g6, 0, none⟩ (.bool on')).setCell ⟨g6, 1, none⟩ (.int .i64 nx')).setCell ⟨g6, 2, none⟩ (.int .i64 dp')).setCell ⟨g6, 3, none⟩ (.int .i64 dr')).setCell ⟨g6, 4, none⟩ v') g6 base on' nx' dp' dr' q' v' :=
  ⟨blk_put5 h.blk, V_far5 hr (fun k hk => hk) _ _ _ _ _, h.b6⟩
theorem C_byte {W : World} {g t : Nat} {b : Int} (h : W.heap[g]? = some (.cells #[.int .u8 b] t (0, 0))) : (Kd.int .u8).C W (some ⟨g, 0, none⟩) [b].length [b] := by
  refine ⟨rfl, (by show (1 : Nat) ≤ _; decide), fun _ => ⟨_, rfl, fun j x hj => ?_⟩⟩
  match j, hj with
  | 0, hj =>
    obtain rfl := Option.some.inj hj
    refine ⟨[.int .u8 b], rfl, rfl, fun i u hu => ?_⟩
    match i, hu with
    | 0, hu => obtain rfl := Option.some.inj hu; exact (blk_cell h 0).trans rfl
theorem C_int1 {W : World} {g t : Nat} {b : Int} (h : W.heap[g]? = some (.cells #[.int .i64 b] t (0, 0))) : (Kd.int .i64).C W (some ⟨g, 0, none⟩) [b].length [b] := by
  refine ⟨rfl, (by show (1 : Nat) ≤ _; decide), fun _ => ⟨_, rfl, fun j x hj => ?_⟩⟩
  match j, hj with
  | 0, hj =>
    obtain rfl := Option.some.inj hj
    refine ⟨[.int .i64 b], rfl, rfl, fun i u hu => ?_⟩
    match i, hu with
    | 0, hu => obtain rfl := Option.some.inj hu; exact (blk_cell h 0).trans rfl
theorem C_pkt {W : World} {g g1 t t1 : Nat} {s b : Int} (h : W.heap[g]? = some (.cells #[.int .i64 s, .slice (some ⟨g1, 0, none⟩) 1 1] t (0, 0))) (h1 : W.heap[g1]? = some (.cells #[.int .u8 b] t1 (0, 0))) : k41.C W (some ⟨g, 0, none⟩) [(⟨s, [b]⟩ : S41)].length [(⟨s, [b]⟩ : S41)] := by
  refine ⟨rfl, (by show (1 : Nat) ≤ _; decide), fun _ => ⟨_, rfl, fun j x hj => ?_⟩⟩
  match j, hj with
  | 0, hj =>
    obtain rfl := Option.some.inj hj
    refine ⟨[.int .i64 s, .slice (some ⟨g1, 0, none⟩) 1 1], rfl, k41_mk W ⟨s, [b]⟩ (Nat.le_refl 1) (C_byte h1), fun i u hu => ?_⟩
    match i, hu with
    | 0, hu => obtain rfl := Option.some.inj hu; exact (blk_cell h 0).trans rfl
    | 1, hu => obtain rfl := Option.some.inj hu; exact (blk_cell h 1).trans rfl
theorem lv0 : jitter_New.f 2 = some (false, 0, 2, 0, [], 0) := by kernel_rfl
theorem lv1 : jitter_Put.f 200 false 0 2 0 [] [⟨5, [5]⟩] = some (false, 0, 2, 0, [⟨5, [5]⟩], [0], 0) := by kernel_rfl
theorem lv2 : jitter_Pull.f 200 false 0 2 0 [⟨5, [5]⟩] = some (false, 0, 2, 0, [⟨5, [5]⟩], 0, [], 0) := by kernel_rfl
theorem lv3 : jitter_Put.f 200 false 0 2 0 [⟨5, [5]⟩] [⟨4, [4]⟩] = some (false, 0, 2, 0, [⟨4, [4]⟩, ⟨5, [5]⟩], [0], 0) := by kernel_rfl
theorem lv4 : jitter_Pull.f 200 false 0 2 0 [⟨4, [4]⟩, ⟨5, [5]⟩] = some (true, 5, 2, 0, [⟨5, [5]⟩], 1, [4], 0) := by kernel_rfl
theorem lv5 : jitter_Pull.f 200 true 5 2 0 [⟨5, [5]⟩] = some (true, 6, 2, 0, [], 1, [5], 0) := by kernel_rfl
theorem lv6 : jitter_Pull.f 200 true 6 2 0 [] = some (true, 7, 2, 1, [], 2, [], 0) := by kernel_rfl
theorem lve : squelchref03_Equal.f 200 [0] [0] = some true := by kernel_rfl
/-- A row that was made since the block. -/
theorem V_since {α : Type} {d : Kd α} {e : TypeId} {W W' : World} {g6 b0 base : Nat} {ok : Nat → Prop} {v : Value} {q : List α} (h : Kd.V d e W' b0 ok v q) (hg : g6 < W.heap.size) (hok : ∀ k, ok k → W.heap.size ≤ k) : Kd.V d e W' base (fun k => k ≠ g6) v q := Kd.V_map (base' := base) h (fun A hf => Kd.F_mono hf (fun k hk => Nat.ne_of_gt (Nat.lt_of_lt_of_le hg (hok k hk))))
theorem R_since {α : Type} {d : Kd α} {e : TypeId} {W W' : World} {g6 base : Nat} {ok : Nat → Prop} {v : Value} {q : List α} (h : Kd.R d e W' W.heap.size ok v q) (hg : g6 < W.heap.size) : Kd.V d e W' base (fun k => k ≠ g6) v q := V_since (Kd.R_V (base' := 0) (Kd.R_mono (Kd.R_bound h) (ok' := fun k => W.heap.size ≤ k) (fun k hk => hk.2.1))) hg (fun k hk => hk)
set_option maxHeartbeats 4000000 in
set_option maxRecDepth 100000 in
theorem live_calls (w : World) : Calls Try.prog 8 #[] w fun e w' => e = .returned (.bool true) ∧ Below w.heap.size w w' := by
  have HB := aM (Below.refl w.heap.size w)
  go_enter Try.func8, Try.ntmps8
  go_upto_region 2 with (go_at_call 9; refine (jitter_New.calls _ _ _ _ _ _ _ _ lv0).mono ?_; rintro e w1 ⟨v4, rfl, h4, hb⟩; have HB1 := aM (below_step HB.out hb); have HV1 := aM (Kd.R_mono (Kd.R_bound (Kd.S_R h4)) (fun k hk => hk.2.2.1)); obtain ⟨A0, c0, ev⟩ := Kd.R_slice (Kd.S_R h4); subst ev; clear hb h4)
  have HF := aM (show FJ (w1.alloc (.cells #[.bool false, .int .i64 0, .int .i64 2, .int .i64 0, .slice A0 0 c0] 26)) w1.heap.size w.heap.size false 0 2 0 [] (.slice A0 0 c0) from ⟨heap_alloc_new w1 _, Kd.V_alloc (Kd.V_mono (Kd.R_V HV1.out) (fun k (hk : k < w1.heap.size) => Nat.ne_of_lt hk)) _, HB1.out.size⟩)
  have HB2 := aM (below_alloc HB1.out (.cells #[.bool false, .int .i64 0, .int .i64 2, .int .i64 0, .slice A0 0 c0] 26))
  generalize (w1.alloc (.cells #[.bool false, .int .i64 0, .int .i64 2, .int .i64 0, .slice A0 0 c0] 26)) = w2 at HF HB2 ⊢
  generalize w1.heap.size = g6 at HF ⊢
  clear HB HB1 HV1
  obtain ⟨hf0, hf1, hf2, hf3, hf4⟩ := cells5 HF.out.blk
  obtain ⟨hz0, hz1, hz2, hz3, hz4⟩ := froz5 HF.out.blk
  go_wp2_with (fail)
  go_at_call 11
  have hb5 := heap_alloc_new w2 (.cells #[.int .u8 5] 5)
  have hb6 := blk_alloc hb5 (.cells #[.int .i64 5, .slice (some ⟨w2.heap.size, 0, none⟩) 1 1] 41)
  have hb7 := heap_alloc_new (w2.alloc (.cells #[.int .u8 5] 5)) (.cells #[.int .i64 5, .slice (some ⟨w2.heap.size, 0, none⟩) 1 1] 41)
  rw [World.size_alloc] at hb7
  have hbb := below_alloc (below_alloc (Below.refl _ w2) (.cells #[.int .u8 5] 5)) (.cells #[.int .i64 5, .slice (some ⟨w2.heap.size, 0, none⟩) 1 1] 41)
  have HF3 := aM (HF.out.below hbb)
  have HB3 := aM (below_step HB2.out hbb)
  refine (jitter_Put.calls 200 false 0 2 0 _ _ [] _ _ [⟨5, [5]⟩] _ _ _ _ _ _ _ _ (Kd.V_reads' HF3.out.row).2.2 (Kd.V_reads' HF3.out.row).2.1 (C_pkt hb7 hb6) (Nat.le_refl 1) lv1).mono ?_
  rintro e w3 ⟨v4, v5, rfl, h4, h5, hb⟩
  have HB4 := aM (below_step HB3.out hb)
  have HF4 := aM (HF3.out.below hb)
  have HV4 := aM (R_since (base := w.heap.size) (Kd.S_R h4) (blk_lt HF3.out.blk))
  have HO3 := aM (R_since (base := 0) h5 (blk_lt HF3.out.blk))
  obtain ⟨A4, c4, ev⟩ := Kd.R_slice (Kd.S_R h4)
  subst ev
  obtain ⟨AO3, cO3, ev⟩ := Kd.R_slice h5
  subst ev
  clear hb h4 h5 hf0 hf1 hf2 hf3 hf4 hz0 hz1 hz2 hz3 hz4 hb5 hb6 hb7 hbb HF3 HB3 HF HB2 
  obtain ⟨hf0, hf1, hf2, hf3, hf4⟩ := cells5 HF4.out.blk
  obtain ⟨hz0, hz1, hz2, hz3, hz4⟩ := froz5 HF4.out.blk
  go_upto_region 3 with (fail)
  have HFn := aM (FJ.put (on' := false) (nx' := 0) (dp' := 2) (dr' := 0) HF4.out HV4.out)
  have HBn := aM (bS5 (u0 := .bool false) (u1 := .int .i64 0) (u2 := .int .i64 2) (u3 := .int .i64 0) (u4 := .slice A4 1 c4) HB4.out HF4.out.b6)
  have HO3n := aM (V_far5 (g := g6) HO3.out (fun k hk => hk) (.bool false) (.int .i64 0) (.int .i64 2) (.int .i64 0) (.slice A4 1 c4))
  clear hf0 hf1 hf2 hf3 hf4 hz0 hz1 hz2 hz3 hz4 HF4 HB4 HV4 HO3
  generalize (((((w3.setCell ⟨g6, 0, none⟩ (.bool false)).setCell ⟨g6, 1, none⟩ (.int .i64 0)).setCell ⟨g6, 2, none⟩ (.int .i64 2)).setCell ⟨g6, 3, none⟩ (.int .i64 0)).setCell ⟨g6, 4, none⟩ (.slice A4 1 c4)) = w4 at HFn HBn HO3n ⊢
  have HF := HFn
  have HB2 := HBn
  have HO3 := HO3n
  clear HFn HBn HO3n
  obtain ⟨hf0, hf1, hf2, hf3, hf4⟩ := cells5 HF.out.blk
  obtain ⟨hz0, hz1, hz2, hz3, hz4⟩ := froz5 HF.out.blk
  go_wp2_with (fail)
  go_at_call 12
  refine (jitter_Pull.calls 200 false 0 2 0 _ _ [(⟨5, [5]⟩ : S41)] _ _ _ _ _ _ _ _ _ (Kd.V_reads' HF.out.row).2.2 (Kd.V_reads' HF.out.row).2.1 lv2).mono ?_
  rintro e w5 ⟨v4, v6, rfl, h4, h6, hb⟩
  have HB4 := aM (below_step HB2.out hb)
  have HF4 := aM (HF.out.below hb)
  have HV4 := aM (V_since (base := w.heap.size) h4 (blk_lt HF.out.blk) (fun k hk => hk.1))
  have HO5 := aM (R_since (base := 0) h6 (blk_lt HF.out.blk))
  obtain ⟨A4, c4, ev⟩ := Kd.V_slice h4
  subst ev
  obtain ⟨AO5, cO5, ev⟩ := Kd.R_slice h6
  subst ev
  have HO3b := aM (Kd.V_below HO3.out hb)
  clear hb h4 h6 hf0 hf1 hf2 hf3 hf4 hz0 hz1 hz2 hz3 hz4 HF HB2 HO3
  have HO3 := HO3b
  clear HO3b
  obtain ⟨hf0, hf1, hf2, hf3, hf4⟩ := cells5 HF4.out.blk
  obtain ⟨hz0, hz1, hz2, hz3, hz4⟩ := froz5 HF4.out.blk
  go_upto_region 4 with (fail)
  have HFn := aM (FJ.put (on' := false) (nx' := 0) (dp' := 2) (dr' := 0) HF4.out HV4.out)
  have HBn := aM (bS5 (u0 := .bool false) (u1 := .int .i64 0) (u2 := .int .i64 2) (u3 := .int .i64 0) (u4 := .slice A4 1 c4) HB4.out HF4.out.b6)
  have HO3n := aM (V_far5 (g := g6) HO3.out (fun k hk => hk) (.bool false) (.int .i64 0) (.int .i64 2) (.int .i64 0) (.slice A4 1 c4))
  clear hf0 hf1 hf2 hf3 hf4 hz0 hz1 hz2 hz3 hz4 HF4 HB4 HV4 HO3
  generalize (((((w5.setCell ⟨g6, 0, none⟩ (.bool false)).setCell ⟨g6, 1, none⟩ (.int .i64 0)).setCell ⟨g6, 2, none⟩ (.int .i64 2)).setCell ⟨g6, 3, none⟩ (.int .i64 0)).setCell ⟨g6, 4, none⟩ (.slice A4 1 c4)) = w6 at HFn HBn HO3n ⊢
  have HF := HFn
  have HB2 := HBn
  have HO3 := HO3n
  clear HFn HBn HO3n
  obtain ⟨hf0, hf1, hf2, hf3, hf4⟩ := cells5 HF.out.blk
  obtain ⟨hz0, hz1, hz2, hz3, hz4⟩ := froz5 HF.out.blk
  go_wp2_with (fail)
  go_at_call 11
  have hb5 := heap_alloc_new w6 (.cells #[.int .u8 4] 5)
  have hb6 := blk_alloc hb5 (.cells #[.int .i64 4, .slice (some ⟨w6.heap.size, 0, none⟩) 1 1] 41)
  have hb7 := heap_alloc_new (w6.alloc (.cells #[.int .u8 4] 5)) (.cells #[.int .i64 4, .slice (some ⟨w6.heap.size, 0, none⟩) 1 1] 41)
  rw [World.size_alloc] at hb7
  have hbb := below_alloc (below_alloc (Below.refl _ w6) (.cells #[.int .u8 4] 5)) (.cells #[.int .i64 4, .slice (some ⟨w6.heap.size, 0, none⟩) 1 1] 41)
  have HF3 := aM (HF.out.below hbb)
  have HB3 := aM (below_step HB2.out hbb)
  have HO3a := aM (Kd.V_below HO3.out hbb)
  refine (jitter_Put.calls 200 false 0 2 0 _ _ [(⟨5, [5]⟩ : S41)] _ _ [⟨4, [4]⟩] _ _ _ _ _ _ _ _ (Kd.V_reads' HF3.out.row).2.2 (Kd.V_reads' HF3.out.row).2.1 (C_pkt hb7 hb6) (Nat.le_refl 1) lv3).mono ?_
  rintro e w7 ⟨v4, v5, rfl, h4, h5, hb⟩
  have HB4 := aM (below_step HB3.out hb)
  have HF4 := aM (HF3.out.below hb)
  have HV4 := aM (R_since (base := w.heap.size) (Kd.S_R h4) (blk_lt HF3.out.blk))
  have HO7 := aM (R_since (base := 0) h5 (blk_lt HF3.out.blk))
  obtain ⟨A4, c4, ev⟩ := Kd.R_slice (Kd.S_R h4)
  subst ev
  obtain ⟨AO7, cO7, ev⟩ := Kd.R_slice h5
  subst ev
  have HO3b := aM (Kd.V_below HO3a.out hb)
  clear hb h4 h5 hf0 hf1 hf2 hf3 hf4 hz0 hz1 hz2 hz3 hz4 hb5 hb6 hb7 hbb HF3 HB3 HF HB2 HO3 HO3a
  have HO3 := HO3b
  clear HO3b
  obtain ⟨hf0, hf1, hf2, hf3, hf4⟩ := cells5 HF4.out.blk
  obtain ⟨hz0, hz1, hz2, hz3, hz4⟩ := froz5 HF4.out.blk
  go_upto_region 5 with (fail)
  have HFn := aM (FJ.put (on' := false) (nx' := 0) (dp' := 2) (dr' := 0) HF4.out HV4.out)
  have HBn := aM (bS5 (u0 := .bool false) (u1 := .int .i64 0) (u2 := .int .i64 2) (u3 := .int .i64 0) (u4 := .slice A4 2 c4) HB4.out HF4.out.b6)
  have HO3n := aM (V_far5 (g := g6) HO3.out (fun k hk => hk) (.bool false) (.int .i64 0) (.int .i64 2) (.int .i64 0) (.slice A4 2 c4))
  have HO7n := aM (V_far5 (g := g6) HO7.out (fun k hk => hk) (.bool false) (.int .i64 0) (.int .i64 2) (.int .i64 0) (.slice A4 2 c4))
  clear hf0 hf1 hf2 hf3 hf4 hz0 hz1 hz2 hz3 hz4 HF4 HB4 HV4 HO3 HO7
  generalize (((((w7.setCell ⟨g6, 0, none⟩ (.bool false)).setCell ⟨g6, 1, none⟩ (.int .i64 0)).setCell ⟨g6, 2, none⟩ (.int .i64 2)).setCell ⟨g6, 3, none⟩ (.int .i64 0)).setCell ⟨g6, 4, none⟩ (.slice A4 2 c4)) = w8 at HFn HBn HO3n HO7n ⊢
  have HF := HFn
  have HB2 := HBn
  have HO3 := HO3n
  have HO7 := HO7n
  clear HFn HBn HO3n HO7n
  obtain ⟨hf0, hf1, hf2, hf3, hf4⟩ := cells5 HF.out.blk
  obtain ⟨hz0, hz1, hz2, hz3, hz4⟩ := froz5 HF.out.blk
  go_wp2_with (fail)
  go_at_call 12
  refine (jitter_Pull.calls 200 false 0 2 0 _ _ [(⟨4, [4]⟩ : S41), ⟨5, [5]⟩] _ _ _ _ _ _ _ _ _ (Kd.V_reads' HF.out.row).2.2 (Kd.V_reads' HF.out.row).2.1 lv4).mono ?_
  rintro e w11 ⟨v4, v6, rfl, h4, h6, hb⟩
  have HB4 := aM (below_step HB2.out hb)
  have HF4 := aM (HF.out.below hb)
  have HV4 := aM (V_since (base := w.heap.size) h4 (blk_lt HF.out.blk) (fun k hk => hk.1))
  have HO11 := aM (R_since (base := 0) h6 (blk_lt HF.out.blk))
  obtain ⟨A4, c4, ev⟩ := Kd.V_slice h4
  subst ev
  obtain ⟨AO11, cO11, ev⟩ := Kd.R_slice h6
  subst ev
  have HO3b := aM (Kd.V_below HO3.out hb)
  have HO7b := aM (Kd.V_below HO7.out hb)
  clear hb h4 h6 hf0 hf1 hf2 hf3 hf4 hz0 hz1 hz2 hz3 hz4 HF HB2 HO3 HO7
  have HO3 := HO3b
  clear HO3b
  have HO7 := HO7b
  clear HO7b
  obtain ⟨hf0, hf1, hf2, hf3, hf4⟩ := cells5 HF4.out.blk
  obtain ⟨hz0, hz1, hz2, hz3, hz4⟩ := froz5 HF4.out.blk
  go_upto_region 6 with (fail)
  have HFn := aM (FJ.put (on' := true) (nx' := 5) (dp' := 2) (dr' := 0) HF4.out HV4.out)
  have HBn := aM (bS5 (u0 := .bool true) (u1 := .int .i64 5) (u2 := .int .i64 2) (u3 := .int .i64 0) (u4 := .slice A4 1 c4) HB4.out HF4.out.b6)
  have HO3n := aM (V_far5 (g := g6) HO3.out (fun k hk => hk) (.bool true) (.int .i64 5) (.int .i64 2) (.int .i64 0) (.slice A4 1 c4))
  have HO7n := aM (V_far5 (g := g6) HO7.out (fun k hk => hk) (.bool true) (.int .i64 5) (.int .i64 2) (.int .i64 0) (.slice A4 1 c4))
  have HO11n := aM (V_far5 (g := g6) HO11.out (fun k hk => hk) (.bool true) (.int .i64 5) (.int .i64 2) (.int .i64 0) (.slice A4 1 c4))
  clear hf0 hf1 hf2 hf3 hf4 hz0 hz1 hz2 hz3 hz4 HF4 HB4 HV4 HO3 HO7 HO11
  generalize (((((w11.setCell ⟨g6, 0, none⟩ (.bool true)).setCell ⟨g6, 1, none⟩ (.int .i64 5)).setCell ⟨g6, 2, none⟩ (.int .i64 2)).setCell ⟨g6, 3, none⟩ (.int .i64 0)).setCell ⟨g6, 4, none⟩ (.slice A4 1 c4)) = w12 at HFn HBn HO3n HO7n HO11n ⊢
  have HF := HFn
  have HB2 := HBn
  have HO3 := HO3n
  have HO7 := HO7n
  have HO11 := HO11n
  clear HFn HBn HO3n HO7n HO11n
  obtain ⟨hf0, hf1, hf2, hf3, hf4⟩ := cells5 HF.out.blk
  obtain ⟨hz0, hz1, hz2, hz3, hz4⟩ := froz5 HF.out.blk
  go_wp2_with (fail)
  go_at_call 12
  refine (jitter_Pull.calls 200 true 5 2 0 _ _ [(⟨5, [5]⟩ : S41)] _ _ _ _ _ _ _ _ _ (Kd.V_reads' HF.out.row).2.2 (Kd.V_reads' HF.out.row).2.1 lv5).mono ?_
  rintro e w13 ⟨v4, v6, rfl, h4, h6, hb⟩
  have HB4 := aM (below_step HB2.out hb)
  have HF4 := aM (HF.out.below hb)
  have HV4 := aM (V_since (base := w.heap.size) h4 (blk_lt HF.out.blk) (fun k hk => hk.1))
  have HO13 := aM (R_since (base := 0) h6 (blk_lt HF.out.blk))
  obtain ⟨A4, c4, ev⟩ := Kd.V_slice h4
  subst ev
  obtain ⟨AO13, cO13, ev⟩ := Kd.R_slice h6
  subst ev
  have HO3b := aM (Kd.V_below HO3.out hb)
  have HO7b := aM (Kd.V_below HO7.out hb)
  have HO11b := aM (Kd.V_below HO11.out hb)
  clear hb h4 h6 hf0 hf1 hf2 hf3 hf4 hz0 hz1 hz2 hz3 hz4 HF HB2 HO3 HO7 HO11
  have HO3 := HO3b
  clear HO3b
  have HO7 := HO7b
  clear HO7b
  have HO11 := HO11b
  clear HO11b
  obtain ⟨hf0, hf1, hf2, hf3, hf4⟩ := cells5 HF4.out.blk
  obtain ⟨hz0, hz1, hz2, hz3, hz4⟩ := froz5 HF4.out.blk
  go_upto_region 7 with (fail)
  have HFn := aM (FJ.put (on' := true) (nx' := 6) (dp' := 2) (dr' := 0) HF4.out HV4.out)
  have HBn := aM (bS5 (u0 := .bool true) (u1 := .int .i64 6) (u2 := .int .i64 2) (u3 := .int .i64 0) (u4 := .slice A4 0 c4) HB4.out HF4.out.b6)
  have HO3n := aM (V_far5 (g := g6) HO3.out (fun k hk => hk) (.bool true) (.int .i64 6) (.int .i64 2) (.int .i64 0) (.slice A4 0 c4))
  have HO7n := aM (V_far5 (g := g6) HO7.out (fun k hk => hk) (.bool true) (.int .i64 6) (.int .i64 2) (.int .i64 0) (.slice A4 0 c4))
  have HO11n := aM (V_far5 (g := g6) HO11.out (fun k hk => hk) (.bool true) (.int .i64 6) (.int .i64 2) (.int .i64 0) (.slice A4 0 c4))
  have HO13n := aM (V_far5 (g := g6) HO13.out (fun k hk => hk) (.bool true) (.int .i64 6) (.int .i64 2) (.int .i64 0) (.slice A4 0 c4))
  clear hf0 hf1 hf2 hf3 hf4 hz0 hz1 hz2 hz3 hz4 HF4 HB4 HV4 HO3 HO7 HO11 HO13
  generalize (((((w13.setCell ⟨g6, 0, none⟩ (.bool true)).setCell ⟨g6, 1, none⟩ (.int .i64 6)).setCell ⟨g6, 2, none⟩ (.int .i64 2)).setCell ⟨g6, 3, none⟩ (.int .i64 0)).setCell ⟨g6, 4, none⟩ (.slice A4 0 c4)) = w13_ at HFn HBn HO3n HO7n HO11n HO13n ⊢
  have HF := HFn
  have HB2 := HBn
  have HO3 := HO3n
  have HO7 := HO7n
  have HO11 := HO11n
  have HO13 := HO13n
  clear HFn HBn HO3n HO7n HO11n HO13n
  obtain ⟨hf0, hf1, hf2, hf3, hf4⟩ := cells5 HF.out.blk
  go_upto_region 8 with (go_at_call 12; refine (jitter_Pull.calls 200 true 6 2 0 _ _ [] _ _ _ _ _ _ _ _ _ (Kd.V_reads' HF.out.row).2.2 (Kd.V_reads' HF.out.row).2.1 lv6).mono ?_; rintro e w14 ⟨v4, v6, rfl, h4, h6, hb⟩; have HB14 := aM (below_step HB2.out hb); have HP3 := aM (Kd.V_below HO3.out hb); have HP7 := aM (Kd.V_below HO7.out hb); have HP11 := aM (Kd.V_below HO11.out hb); have HP13 := aM (Kd.V_below HO13.out hb); obtain ⟨A14, c14, ev⟩ := Kd.V_slice h4; subst ev; obtain ⟨A15, c15, ev⟩ := Kd.R_slice h6; subst ev; clear hb h4 h6 hf0 hf1 hf2 hf3 hf4)
  clear HO3 HO7 HO11 HO13 HB2 HF
  have HB15 := aM (below_alloc HB14.out (.cells #[.bool true, .int .i64 7, .int .i64 2, .int .i64 1, .slice A14 0 c14] 26))
  have HO3 := aM (Kd.V_alloc HP3.out (.cells #[.bool true, .int .i64 7, .int .i64 2, .int .i64 1, .slice A14 0 c14] 26))
  have HO7 := aM (Kd.V_alloc HP7.out (.cells #[.bool true, .int .i64 7, .int .i64 2, .int .i64 1, .slice A14 0 c14] 26))
  have HO11 := aM (Kd.V_alloc HP11.out (.cells #[.bool true, .int .i64 7, .int .i64 2, .int .i64 1, .slice A14 0 c14] 26))
  have HO13 := aM (Kd.V_alloc HP13.out (.cells #[.bool true, .int .i64 7, .int .i64 2, .int .i64 1, .slice A14 0 c14] 26))
  generalize (w14.alloc (.cells #[.bool true, .int .i64 7, .int .i64 2, .int .i64 1, .slice A14 0 c14] 26)) = w15 at HB15 HO3 HO7 HO11 HO13 ⊢
  clear HB14 HP3 HP7 HP11 HP13
  go_wp2_with (fail)
  go_at_call 16
  refine (squelchref03_Equal.calls 200 _ _ [0] _ _ [0] true _ (Kd.C_alloc (Kd.V_reads' HO3.out).2.2 _) (Kd.V_reads' HO3.out).2.1 (C_int1 (heap_alloc_new w15 _)) (Nat.le_refl 1) lve).mono ?_
  rintro e w16 ⟨rfl, hb⟩
  replace hb := hb.below
  have HB16 := aM (below_step (below_alloc HB15.out _) hb)
  have HP7 := aM (Kd.V_below (Kd.V_alloc HO7.out _) hb)
  have HP11 := aM (Kd.V_below (Kd.V_alloc HO11.out _) hb)
  have HP13 := aM (Kd.V_below (Kd.V_alloc HO13.out _) hb)
  clear hb
  go_wp2_with (fail)
  go_at_call 16
  refine (squelchref03_Equal.calls 200 _ _ [0] _ _ [0] true _ (Kd.C_alloc (Kd.V_reads' HP7.out).2.2 _) (Kd.V_reads' HP7.out).2.1 (C_int1 (heap_alloc_new w16 _)) (Nat.le_refl 1) lve).mono ?_
  rintro e w17 ⟨rfl, hb⟩
  replace hb := hb.below
  have HB17 := aM (below_step (below_alloc HB16.out _) hb)
  have hcv4 := Kd.C_string (P := Try.prog) (c := cO11) Try.underlying36 Try.underlying5 Try.underlying9 (Kd.V_reads' (Kd.V_below (Kd.V_alloc HP11.out _) hb)).2.2
  have hcv5 := Kd.C_string (P := Try.prog) (c := cO13) Try.underlying36 Try.underlying5 Try.underlying9 (Kd.V_reads' (Kd.V_below (Kd.V_alloc HP13.out _) hb)).2.2
  rw [show strOfNums [4] = { data := #[4] } from rfl] at hcv4
  rw [show strOfNums [5] = { data := #[5] } from rfl] at hcv5
  simp only [List.length_cons, List.length_nil, Nat.zero_add] at hcv4 hcv5
  clear hb
  go_wp2
  go_ret
  exact ⟨rfl, HB17.out⟩
end Go.Proofs.Ytkjgibdbbklejaa.PA
