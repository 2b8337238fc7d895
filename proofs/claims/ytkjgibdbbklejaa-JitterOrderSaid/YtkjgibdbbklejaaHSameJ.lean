/- jitter.Same at two states that are told alike and may be: it says so; by hand. -/
import Derived.Test.YtkjgibdbbklejaaJtR
import Derived.Test.YtkjgibdbbklejaaHEqJ
import Derived.Test.YtkjgibdbbklejaaPAx80
namespace Go.Proofs.Ytkjgibdbbklejaa.PA
open Go.RowKit Go.Proofs.YtkjgibdbbklejaaW.PrintWords Go.Proofs.YtkjgibdbbklejaaW.PrintLast Go.Proofs.YtkjgibdbbklejaaW.PrintMore Go.Proofs.Ytkjgibdbbklejaa.Jt
set_option linter.unusedVariables false
set_option linter.unusedSimpArgs false
theorem und58 (w : World) : (underlying 58).run Try.prog w = .ok (.array 3 3) w := by kernel_rfl
theorem und3a (w : World) : (underlying 3).run Try.prog w = .ok (.int .i64) w := by kernel_rfl
theorem size3a (w : World) : (sizeOf 3).run Try.prog w = .ok 1 w := by kernel_rfl
theorem eqInt3 (d : Nat) (a b : Int) (w : World) : (Op.equalIn (d + 1) 3 (.int .i64 a) (.int .i64 b)).run Try.prog w = .ok (a == b) w := by
  unfold Op.equalIn
  simp only [Sem.run_bind, und3a, Result.andThen_ok]
  rfl
theorem eq3 (h p u : Int) (w : World) : (Op.equalIn 10000 58 (.agg #[.int .i64 h, .int .i64 p, .int .i64 u]) (.agg #[.int .i64 h, .int .i64 p, .int .i64 u])).run Try.prog w = .ok true w := by
  rw [show (10000 : Nat) = 9998 + 1 + 1 from rfl]
  rw [Op.equalIn]
  simp only [Sem.run_bind, und58, Result.andThen_ok, size3a]
  have e2 : List.range' 0 3 1 = [0, 1, 2] := by decide
  have p0 : ∀ (a0 a1 a2 : Value) (w : World), (part 3 #[a0, a1, a2] (0 * 1)).run Try.prog w = .ok a0 w := fun a0 a1 a2 w => by kernel_rfl
  have p1 : ∀ (a0 a1 a2 : Value) (w : World), (part 3 #[a0, a1, a2] (1 * 1)).run Try.prog w = .ok a1 w := fun a0 a1 a2 w => by kernel_rfl
  have p2 : ∀ (a0 a1 a2 : Value) (w : World), (part 3 #[a0, a1, a2] (2 * 1)).run Try.prog w = .ok a2 w := fun a0 a1 a2 w => by kernel_rfl
  simp only [Std.Legacy.Range.forIn_eq_forIn_range', Std.Legacy.Range.size, Nat.sub_zero, Nat.add_one_sub_one, Nat.div_one, Nat.reduceAdd, Nat.reduceSub, e2, List.forIn_cons, Sem.run_bind, size3a, Result.andThen_ok, p0, p1, p2, eqInt3]
  simp [Result.andThen, p1, p2, eqInt3]
theorem eqb_l0 (l : List Int) (hl : l.length ≤ 4611686018427387904) : ∀ (d k i : Nat), i + d = l.length → d < k → slices_Equal_byte_byte.l0 k l l (l.length : Int) (i : Int) = some true := by
  intro d
  induction d with
  | zero =>
    intro k i hi hk
    obtain ⟨k, rfl⟩ := some_of k 1 (by omega)
    rw [slices_Equal_byte_byte.l0, if_neg (by omega)]
  | succ d ih =>
    intro k i hi hk
    obtain ⟨k, rfl⟩ := some_of k 1 (by omega)
    rw [slices_Equal_byte_byte.l0, if_pos (by omega), if_pos (by omega), if_pos (by omega), if_pos (by omega), if_pos rfl, w64 _ (by omega) (by omega)]
    exact ih k (i + 1) (by omega) (by omega)
theorem eqb_f (l : List Int) (hl : l.length ≤ 4611686018427387904) (k : Nat) (hk : l.length < k) : slices_Equal_byte_byte.f k l l = some true := by
  unfold slices_Equal_byte_byte.f
  rw [if_pos rfl]
  exact eqb_l0 l hl l.length k 0 (by omega) hk
theorem same1_f (p : S41) (h : p.f1.length ≤ 40) : jitter_Same_1.f 100 p.f0 p.f1 p.f0 p.f1 = some true := by
  unfold jitter_Same_1.f
  rw [if_pos rfl, eqb_f _ (by omega) 100 (by omega)]
  rfl
set_option maxHeartbeats 4000000 in
set_option maxRecDepth 100000 in
theorem eqfunc_calls (q : List S41) (A : Option Addr) (c : Nat) (A' : Option Addr) (c' : Nat) (w : World) (h1 : Kd.C k41 w A q.length q) (h2 : Kd.C k41 w A' q.length q) (hb : ∀ p ∈ q, p.f1.length ≤ 40) :
    Calls Try.prog 37 #[.slice A q.length c, .slice A' q.length c', .func (.func 38) #[] #[]] w fun e w' => e = .returned (.bool true) ∧ Below w.heap.size w w' := by
  have HC := aM h1
  have HC' := aM h2
  have HL := aM h1.2.1
  have HBB := aM hb
  have HB := aM (Below.refl w.heap.size w)
  clear h1 h2 hb
  have n5 : ((q.length : Int) != (q.length : Int)) = false := by simp
  go_enter Try.func37, Try.ntmps37
  go_wp2
  clear n5
  go_loopg [17] q.length (fun kx s17 wr => ∃ (i : Nat), s17 = .int .i64 i ∧ i ≤ q.length ∧ q.length - i ≤ kx ∧ Aside0 (Below w.heap.size w wr))
  case atStart => exact ⟨0, rfl, Nat.zero_le _, by omega, HB⟩
  case round =>
    obtain ⟨i, rfl, hil, hkx, HBR⟩ := hrel
    by_cases hlt : i < q.length
    rotate_left
    · have hltz : ¬ ((i : Int) < (q.length : Int)) := by omega
      clear hlt hil hkx
      go_wp2
      go_ret
      exact ⟨rfl, HBR.out⟩
    have hltz : (i : Int) < (q.length : Int) := by omega
    have hiz : (0 : Int) ≤ (i : Int) := by omega
    obtain ⟨ad, A1, c1, e1, ha0, ha1, hl1, hC1⟩ := at_T41 (Kd.C_below HC.out HBR.out) (i : Int) hiz hltz
    obtain ⟨ad', A2, c2, e2, hb0, hb1, hl2, hC2⟩ := at_T41 (Kd.C_below HC'.out HBR.out) (i : Int) hiz hltz
    subst e1
    subst e2
    rw [rdJ q i hlt, Int.toNat_natCast] at ha0 ha1 hb0 hb1
    rw [rdJ q i hlt] at hC1 hC2 hl1 hl2
    have hbl := HBB.out _ (List.getElem_mem hlt)
    obtain ⟨x, hx⟩ : ∃ x, x = q[i] := ⟨_, rfl⟩
    rw [← hx] at ha0 ha1 hb0 hb1 hC1 hC2 hl1 hl2 hbl
    have HF := aM (same1_f x hbl)
    have HC1 := aM hC1
    have HC2 := aM hC2
    have HL1 := aM hl1
    have HL2 := aM hl2
    have RI : Aside0 (IntKind.i64.wrap ((i : Int) + 1) = ((i + 1 : Nat) : Int)) := aM (by rw [IntKind.wrap_i64]; have := HL.out; omega)
    have H56 := aM (And.intro (show q.length - (i + 1) < gk by omega) (show i + 1 ≤ q.length by omega))
    have hb0' := fun o => (show (wr.alloc o).cell? (ad'.add (i * 2)) = some (.int .i64 x.f0) from ((below_alloc (Below.refl _ wr) o).cell (World.block_lt_of_cell? _ _ hb0)).trans hb0)
    have hb1' := fun o => (show (wr.alloc o).cell? ⟨(ad'.add (i * 2)).block, (ad'.add (i * 2)).off + 1, none⟩ = some (.slice A2 x.f1.length c2) from ((below_alloc (Below.refl _ wr) o).cell (World.block_lt_of_cell? _ _ hb1)).trans hb1)
    clear hx hkx hil hl1 hl2 hC1 hC2 hbl
    have ri := RI.out
    go_wp2_with (go_at_call 38; refine (jitter_Same_1.calls 100 x.f0 A1 c1 x.f1 x.f0 A2 c2 x.f1 true _ (Kd.C_below HC1.out (below_alloc (below_alloc (Below.refl _ wr) _) _)) HL1.out (Kd.C_below HC2.out (below_alloc (below_alloc (Below.refl _ wr) _) _)) HL2.out HF.out).mono ?_; rintro e w3 ⟨rfl, hb⟩; have HB3 := aM (below_step (below_alloc (below_alloc HBR.out _) _) hb); clear hb)
    go_roundg (q.length - (i + 1))
    case measure => exact H56.out.1
    case rel => exact ⟨i + 1, by first | rfl | (simp [ri]; done), H56.out.2, Nat.le_refl _, HB3⟩
set_option maxHeartbeats 4000000 in
set_option maxRecDepth 100000 in
theorem same_calls (on : Bool) (nx dp dr : Int) (q : List S41) (A : Option Addr) (c : Nat) (A' : Option Addr) (c' : Nat) (w : World) (h1 : Kd.C k41 w A q.length q) (l1 : q.length ≤ c) (h2 : Kd.C k41 w A' q.length q) (l2 : q.length ≤ c') (hok : OK on nx dp dr q) :
    Calls Try.prog 18 #[.agg #[.bool on, .int .i64 nx, .int .i64 dp, .int .i64 dr, .slice A q.length c], .agg #[.bool on, .int .i64 nx, .int .i64 dp, .int .i64 dr, .slice A' q.length c']] w fun e w' => e = .returned (.bool true) ∧ Below w.heap.size w w' := by
  have HA := aM h1
  have HA' := aM h2
  have HB := aM (Below.refl w.heap.size w)
  have HL1 := aM l1
  have HL2 := aM l2
  have hck := check_f on nx dp dr q (by have := hok.len; omega) 1000 (by have := hok.len; omega)
  rw [if_pos (ok_to hok)] at hck
  have HCK := aM hck
  have HEF := aM (fun p (hp : p ∈ q) => ((gd_iff p).1 (hok.gds p hp)).2.2.2)
  clear h1 h2 l1 l2 hok hck
  have n1 : (on == on) = true := by simp
  have n2 := eq3 nx dp dr
  go_enter Try.func18, Try.ntmps18
  go_upto_region 1 with (fail)
  have hb2 := blk_alloc (heap_alloc_new w (.cells #[.bool on, .int .i64 nx, .int .i64 dp, .int .i64 dr, .slice A q.length c] 26)) (.cells #[.bool on, .int .i64 nx, .int .i64 dp, .int .i64 dr, .slice A' q.length c'] 26)
  have hb3 := heap_alloc_new (w.alloc (.cells #[.bool on, .int .i64 nx, .int .i64 dp, .int .i64 dr, .slice A q.length c] 26)) (.cells #[.bool on, .int .i64 nx, .int .i64 dp, .int .i64 dr, .slice A' q.length c'] 26)
  have hB0 := below_alloc (below_alloc HB.out (.cells #[.bool on, .int .i64 nx, .int .i64 dp, .int .i64 dr, .slice A q.length c] 26)) (.cells #[.bool on, .int .i64 nx, .int .i64 dp, .int .i64 dr, .slice A' q.length c'] 26)
  simp only [World.size_alloc] at hb2 hb3
  generalize ((w.alloc (.cells #[.bool on, .int .i64 nx, .int .i64 dp, .int .i64 dr, .slice A q.length c] 26)).alloc (.cells #[.bool on, .int .i64 nx, .int .i64 dp, .int .i64 dr, .slice A' q.length c'] 26)) = w0 at hb2 hb3 hB0 ⊢
  generalize w.heap.size + 1 = g3 at hb3 ⊢
  obtain ⟨g2, hg2e⟩ : ∃ g2, g2 = w.heap.size := ⟨_, rfl⟩
  rw [← hg2e] at hb2 ⊢
  clear hg2e
  have BK2 := aM hb2
  have BK3 := aM hb3
  have HB0 := aM hB0
  have HC := aM (Kd.C_below HA.out hB0)
  have HC' := aM (Kd.C_below HA'.out hB0)
  obtain ⟨hx0, hx1, hx2, hx3, hx4⟩ := cells5 hb2
  obtain ⟨hy0, hy1, hy2, hy3, hy4⟩ := cells5 hb3
  clear hb2 hb3 hB0 HA HA' HB
  go_wp2_with (fail)
  go_at_call 23
  refine (jitter_Check.calls 1000 on nx dp dr A c q 0 _ HC.out HL1.out HCK.out).mono ?_
  rintro e w1 ⟨rfl, hb⟩
  have HB1 := aM (below_step HB0.out hb)
  have HCa := aM (Kd.C_below HC.out hb)
  have HCb := aM (Kd.C_below HC'.out hb)
  have BK2a := aM (blk_below BK2.out hb)
  have BK3a := aM (blk_below BK3.out hb)
  clear hb hx0 hx1 hx2 hx3 hx4 hy0 hy1 hy2 hy3 hy4 HC HC' BK2 BK3 HB0
  obtain ⟨hx0, hx1, hx2, hx3, hx4⟩ := cells5 BK2a.out
  obtain ⟨hy0, hy1, hy2, hy3, hy4⟩ := cells5 BK3a.out
  go_wp2_with (fail)
  go_at_call 23
  refine (jitter_Check.calls 1000 on nx dp dr A' c' q 0 _ HCb.out HL2.out HCK.out).mono ?_
  rintro e w2 ⟨rfl, hb⟩
  have HB2 := aM (below_step HB1.out hb)
  have HCc := aM (Kd.C_below HCa.out hb)
  have HCd := aM (Kd.C_below HCb.out hb)
  have BK2b := aM (blk_below BK2a.out hb)
  have BK3b := aM (blk_below BK3a.out hb)
  clear hb hx0 hx1 hx2 hx3 hx4 hy0 hy1 hy2 hy3 hy4 HCa HCb BK2a BK3a HB1
  obtain ⟨hx0, hx1, hx2, hx3, hx4⟩ := cells5 BK2b.out
  obtain ⟨hy0, hy1, hy2, hy3, hy4⟩ := cells5 BK3b.out
  go_wp2_with (fail)
  go_at_call 37
  refine (eqfunc_calls q A c A' c' _ HCc.out HCd.out HEF.out).mono ?_
  rintro e w3 ⟨rfl, hb⟩
  have HB3 := aM (below_step HB2.out hb)
  clear hb
  go_wp2
  go_ret
  exact ⟨rfl, HB3.out⟩
end Go.Proofs.Ytkjgibdbbklejaa.PA
