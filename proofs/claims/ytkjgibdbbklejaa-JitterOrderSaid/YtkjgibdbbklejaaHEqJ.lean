/- The document's Equal at two states that are told alike: they are equal; by hand. -/
import Derived.Test.YtkjgibdbbklejaaPAx0
namespace Go.Proofs.Ytkjgibdbbklejaa.PA
open Go.RowKit Go.Proofs.YtkjgibdbbklejaaW.PrintWords Go.Proofs.YtkjgibdbbklejaaW.PrintLast Go.Proofs.YtkjgibdbbklejaaW.PrintMore
set_option linter.unusedVariables false
set_option linter.unusedSimpArgs false
theorem cells2 {w : World} {g : Nat} {t : TypeId} {v0 v1 : Value} (h : w.heap[g]? = some (.cells #[v0, v1] t (0, 0))) : w.cell? ⟨g, 0, none⟩ = some v0 ∧ w.cell? ⟨g, 1, none⟩ = some v1 := ⟨(blk_cell h 0).trans rfl, (blk_cell h 1).trans rfl⟩
theorem cells5 {w : World} {g : Nat} {t : TypeId} {v0 v1 v2 v3 v4 : Value} (h : w.heap[g]? = some (.cells #[v0, v1, v2, v3, v4] t (0, 0))) : w.cell? ⟨g, 0, none⟩ = some v0 ∧ w.cell? ⟨g, 1, none⟩ = some v1 ∧ w.cell? ⟨g, 2, none⟩ = some v2 ∧ w.cell? ⟨g, 3, none⟩ = some v3 ∧ w.cell? ⟨g, 4, none⟩ = some v4 := ⟨(blk_cell h 0).trans rfl, (blk_cell h 1).trans rfl, (blk_cell h 2).trans rfl, (blk_cell h 3).trans rfl, (blk_cell h 4).trans rfl⟩
theorem rdJ (l : List S41) (j : Nat) (h : j < l.length) : rd_T41 l (j : Int) = l[j] := by
  unfold rd_T41
  rw [Int.toNat_natCast, List.getD_eq_getElem?_getD, List.getElem?_eq_getElem h]; rfl
set_option maxHeartbeats 4000000 in
set_option maxRecDepth 100000 in
theorem equal_calls (on : Bool) (nx dp dr : Int) (q : List S41) (A : Option Addr) (c : Nat) (A' : Option Addr) (c' : Nat) (w : World) (h1 : Kd.C k41 w A q.length q) (h2 : Kd.C k41 w A' q.length q) :
    Calls Try.prog 14 #[.agg #[.bool on, .int .i64 nx, .int .i64 dp, .int .i64 dr, .slice A q.length c], .agg #[.bool on, .int .i64 nx, .int .i64 dp, .int .i64 dr, .slice A' q.length c']] w fun e w' => e = .returned (.bool true) ∧ Below w.heap.size w w' := by
  have HA := aM h1
  have HA' := aM h2
  have HB := aM (Below.refl w.heap.size w)
  have HL := aM h1.2.1
  clear h1 h2
  have n1 : (on != on) = false := by simp
  have n2 : (nx != nx) = false := by simp
  have n3 : (dp != dp) = false := by simp
  have n4 : (dr != dr) = false := by simp
  have n5 : ((q.length : Int) != (q.length : Int)) = false := by simp
  go_enter Try.func14, Try.ntmps14
  go_upto_region 1 with (fail)
  have hb2 := blk_alloc (heap_alloc_new w (.cells #[.bool on, .int .i64 nx, .int .i64 dp, .int .i64 dr, .slice A q.length c] 26)) (.cells #[.bool on, .int .i64 nx, .int .i64 dp, .int .i64 dr, .slice A' q.length c'] 26)
  have hb3 := heap_alloc_new (w.alloc (.cells #[.bool on, .int .i64 nx, .int .i64 dp, .int .i64 dr, .slice A q.length c] 26)) (.cells #[.bool on, .int .i64 nx, .int .i64 dp, .int .i64 dr, .slice A' q.length c'] 26)
  have hB0 := below_alloc (below_alloc HB.out (.cells #[.bool on, .int .i64 nx, .int .i64 dp, .int .i64 dr, .slice A q.length c] 26)) (.cells #[.bool on, .int .i64 nx, .int .i64 dp, .int .i64 dr, .slice A' q.length c'] 26)
  simp only [World.size_alloc] at hb2 hb3
  generalize ((w.alloc (.cells #[.bool on, .int .i64 nx, .int .i64 dp, .int .i64 dr, .slice A q.length c] 26)).alloc (.cells #[.bool on, .int .i64 nx, .int .i64 dp, .int .i64 dr, .slice A' q.length c'] 26)) = w0 at hb2 hb3 hB0 ⊢
  generalize w.heap.size + 1 = g3 at hb3 ⊢
  obtain ⟨g2, hg2e⟩ : ∃ g2, g2 = w.heap.size := ⟨_, rfl⟩
  rw [← hg2e] at hb2 ⊢
  clear hg2e
  have BK2 := aM hb2
  have BK3 := aM hb3
  have HB0 := aM hB0
  have HC := aM (Kd.C_below HA.out hB0)
  have HC' := aM (Kd.C_below HA'.out hB0)
  obtain ⟨hx0, hx1, hx2, hx3, hx4⟩ := cells5 hb2
  obtain ⟨hy0, hy1, hy2, hy3, hy4⟩ := cells5 hb3
  clear hb2 hb3 hB0 HA HA' HB
  go_wp2
  clear hx0 hx1 hx2 hx3 hx4 hy0 hy1 hy2 hy3 hy4 n1 n2 n3 n4 n5
  go_loopg [44] q.length (fun kx s44 wr => ∃ (i : Nat), s44 = .int .i64 i ∧ i ≤ q.length ∧ q.length - i ≤ kx ∧ Aside0 (Below w0.heap.size w0 wr))
  case atStart => exact ⟨0, rfl, Nat.zero_le _, by omega, aM (Below.refl _ _)⟩
  case round =>
    obtain ⟨i, rfl, hil, hkx, HBR⟩ := hrel
    obtain ⟨hx0, hx1, hx2, hx3, hx4⟩ := cells5 (blk_below BK2.out HBR.out)
    obtain ⟨hy0, hy1, hy2, hy3, hy4⟩ := cells5 (blk_below BK3.out HBR.out)
    by_cases hlt : i < q.length
    rotate_left
    · have hltz : ¬ ((i : Int) < (q.length : Int)) := by omega
      clear hlt hil hkx
      go_wp2
      go_ret
      exact ⟨rfl, below_step HB0.out HBR.out⟩
    have hltz : (i : Int) < (q.length : Int) := by omega
    have hiz : (0 : Int) ≤ (i : Int) := by omega
    obtain ⟨ad, A1, c1, e1, ha0, ha1, hl1, hC1⟩ := at_T41 (Kd.C_below HC.out HBR.out) (i : Int) hiz hltz
    obtain ⟨ad', A2, c2, e2, hb0, hb1, hl2, hC2⟩ := at_T41 (Kd.C_below HC'.out HBR.out) (i : Int) hiz hltz
    subst e1
    subst e2
    rw [rdJ q i hlt, Int.toNat_natCast] at ha0 ha1 hb0 hb1
    rw [rdJ q i hlt] at hC1 hC2
    have hcv1 := fun n => Kd.C_string (P := Try.prog) (A := A1) (c := c1) Try.underlying36 Try.underlying5 Try.underlying9 (Kd.C_drewN hC1 n)
    have hcv2 := fun n => Kd.C_string (P := Try.prog) (A := A2) (c := c2) Try.underlying36 Try.underlying5 Try.underlying9 (Kd.C_drewN hC2 n)
    obtain ⟨x, hx⟩ : ∃ x, x = q[i] := ⟨_, rfl⟩
    rw [← hx] at ha0 ha1 hb0 hb1 hcv1 hcv2
    generalize strOfNums x.f1 = s at hcv1 hcv2
    have n1 : (x.f0 != x.f0) = false := by simp
    have n2 : (s.toList != s.toList) = false := by simp
    have n3 : (s.toList == s.toList) = true := by simp
    have RI : Aside0 (IntKind.i64.wrap ((i : Int) + 1) = ((i + 1 : Nat) : Int)) := aM (by rw [IntKind.wrap_i64]; have := HL.out; omega)
    have H56 := aM (And.intro (show q.length - (i + 1) < gk by omega) (show i + 1 ≤ q.length by omega))
    clear hx hkx hil hl1 hl2 hC1 hC2
    have ri := RI.out
    go_wp2
    go_quiet (fail)
    go_wp2
    go_roundg (q.length - (i + 1))
    case measure => exact H56.out.1
    case rel => exact ⟨i + 1, by first | rfl | (simp [ri]; done), H56.out.2, Nat.le_refl _, aM (bN HBR.out nq)⟩
end Go.Proofs.Ytkjgibdbbklejaa.PA
