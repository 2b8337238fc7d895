import Derived.Test.YtflfmpfmnhpbmaaPAx0
import Derived.Test.YtflfmpfmnhpbmaaHReq
import Derived.Test.YtflfmpfmnhpbmaaHJoin
import Derived.Test.YtflfmpfmnhpbmaaHRel
import Derived.Test.YtflfmpfmnhpbmaaHTick
import Derived.Test.YtflfmpfmnhpbmaaHCheck
/- A map of six functions, made and asked; by its objects. -/
namespace Go.Proofs.Ytflfmpfmnhpbmaa.PA
open Go.RowKit Go.Proofs.YtflfmpfmnhpbmaaW.PrintWords Go.Proofs.YtflfmpfmnhpbmaaW.PrintLast Go.Proofs.YtflfmpfmnhpbmaaW.PrintMore
set_option linter.unusedVariables false
set_option linter.unusedSimpArgs false
theorem und59 (w : World) : (underlying 59).run Try.prog w = .ok (.map 3 1) w := by kernel_rfl
theorem und3 (w : World) : (underlying 3).run Try.prog w = .ok (.int .i64) w := by kernel_rfl
theorem zero1 (w : World) : (zeroValue 1).run Try.prog w = .ok .nilFunc w := by kernel_rfl
theorem key_ok (empty : Bool) (k : Int) (w : World) : (Instr.checkKey empty 10000 3 (.int .i64 k)).run Try.prog w = .ok () w := by
  unfold Instr.checkKey
  simp only [Sem.run_bind, und3, Result.andThen_ok]
  rfl
theorem find_now (k : Int) (es : List MapEntry) (r : Option (Nat × Value)) (w : World) (h : Instr.findNow (.int .i64) (.int .i64 k) es 0 = some r) : (Instr.findKey 3 (.int .i64 k) es).run Try.prog w = .ok r w := by
  unfold Instr.findKey
  simp only [Sem.run_bind, und3, Result.andThen_ok, h]
  rfl
theorem map_put {W : World} {b clock : Nat} {es : Array MapEntry} (h : W.heap[b]? = some (.map es clock)) (k : Int) (v : Value) (hn : Instr.findNow (.int .i64) (.int .i64 k) es.toList 0 = some none) :
    ∃ W', (Instr.mapUpdate 59 (.map (some b)) (.int .i64 k) v).run Try.prog W = .ok () W' ∧ W'.heap[b]? = some (.map (es.push { key := .int .i64 k, val := v, born := clock }) (clock + 1)) ∧ W.grownBy W' (some b) := by
  have hl := blk_lt h
  refine ⟨{ W with heap := W.heap.setIfInBounds b (.map (es.push { key := .int .i64 k, val := v, born := clock }) (clock + 1)) }, ?_, ?_, rfl, rfl, rfl, ?_, fun j _ hj => ?_⟩
  · unfold Instr.mapUpdate
    simp only [Sem.run_bind, und59, Result.andThen_ok, MapKept.run_getObj_map h, key_ok, find_now k es.toList none W hn, MapKept.run_setObj_map _ h]
  · show (W.heap.setIfInBounds b _)[b]? = _
    rw [Array.getElem?_setIfInBounds]
    simp [hl]
  · show W.heap.size ≤ (W.heap.setIfInBounds b _).size
    rw [Array.size_setIfInBounds]
    exact Nat.le_refl _
  · show (W.heap.setIfInBounds b _)[j]? = _
    rw [Array.getElem?_setIfInBounds, if_neg (fun e => hj (by rw [e]))]
theorem map_look {W : World} {b clock : Nat} {es : Array MapEntry} (h : W.heap[b]? = some (.map es clock)) (k : Int) (i : Nat) (v : Value) (hn : Instr.findNow (.int .i64) (.int .i64 k) es.toList 0 = some (some (i, v))) :
    (Instr.lookup 59 (.map (some b)) (.int .i64 k) false).run Try.prog W = .ok v W := by
  unfold Instr.lookup
  simp only [Sem.run_bind, und59, Result.andThen_ok, MapKept.run_getObj_map h, Sem.run_pure, key_ok, find_now k es.toList (some (i, v)) W hn]
  rfl
theorem map_none {W : World} {b clock : Nat} {es : Array MapEntry} (h : W.heap[b]? = some (.map es clock)) (k : Int) (hn : Instr.findNow (.int .i64) (.int .i64 k) es.toList 0 = some none) :
    (Instr.lookup 59 (.map (some b)) (.int .i64 k) false).run Try.prog W = .ok .nilFunc W := by
  unfold Instr.lookup
  simp only [Sem.run_bind, und59, Result.andThen_ok, MapKept.run_getObj_map h, Sem.run_pure, key_ok, find_now k es.toList none W hn, zero1]
  rfl
/-- The map of six. -/
def six (f1 f2 f3 f4 f5 f6 : Value) : Array MapEntry := #[{ key := .int .i64 1, val := f1, born := 0 }, { key := .int .i64 2, val := f2, born := 1 }, { key := .int .i64 3, val := f3, born := 2 }, { key := .int .i64 4, val := f4, born := 3 }, { key := .int .i64 5, val := f5, born := 4 }, { key := .int .i64 6, val := f6, born := 5 }]
theorem six_put {W0 : World} {b : Nat} (h : W0.heap[b]? = some (.map #[] 0)) (f1 f2 f3 f4 f5 f6 : Value) :
    ∃ W1 W2 W3 W4 W5 W6, (Instr.mapUpdate 59 (.map (some b)) (.int .i64 1) f1).run Try.prog W0 = .ok () W1 ∧ (Instr.mapUpdate 59 (.map (some b)) (.int .i64 2) f2).run Try.prog W1 = .ok () W2 ∧ (Instr.mapUpdate 59 (.map (some b)) (.int .i64 3) f3).run Try.prog W2 = .ok () W3 ∧ (Instr.mapUpdate 59 (.map (some b)) (.int .i64 4) f4).run Try.prog W3 = .ok () W4 ∧ (Instr.mapUpdate 59 (.map (some b)) (.int .i64 5) f5).run Try.prog W4 = .ok () W5 ∧ (Instr.mapUpdate 59 (.map (some b)) (.int .i64 6) f6).run Try.prog W5 = .ok () W6 ∧ W6.heap[b]? = some (.map (six f1 f2 f3 f4 f5 f6) 6) ∧ W0.grownBy W6 (some b) := by
  obtain ⟨W1, r1, h1, g1⟩ := map_put h 1 f1 (by rfl)
  obtain ⟨W2, r2, h2, g2⟩ := map_put h1 2 f2 (by rfl)
  obtain ⟨W3, r3, h3, g3⟩ := map_put h2 3 f3 (by rfl)
  obtain ⟨W4, r4, h4, g4⟩ := map_put h3 4 f4 (by rfl)
  obtain ⟨W5, r5, h5, g5⟩ := map_put h4 5 f5 (by rfl)
  obtain ⟨W6, r6, h6, g6⟩ := map_put h5 6 f6 (by rfl)
  exact ⟨W1, W2, W3, W4, W5, W6, r1, r2, r3, r4, r5, r6, h6, ((((g1.trans g2).trans g3).trans g4).trans g5).trans g6⟩
theorem six_none (f1 f2 f3 f4 f5 f6 : Value) (k : Int) (h : k < 1 ∨ 6 < k) : Instr.findNow (.int .i64) (.int .i64 k) (six f1 f2 f3 f4 f5 f6).toList 0 = some none := by
  have e : ∀ j : Int, 1 ≤ j → j ≤ 6 → (k == j) = false := fun j h1 h2 => by simp; omega
  simp [six, Instr.findNow, Instr.sameNow, e 1 (by decide) (by decide), e 2 (by decide) (by decide), e 3 (by decide) (by decide), e 4 (by decide) (by decide), e 5 (by decide) (by decide), e 6 (by decide) (by decide)]
end Go.Proofs.Ytflfmpfmnhpbmaa.PA

/- floor.Do: what it comes to, told as plain functions. -/
namespace Go.Proofs.Ytflfmpfmnhpbmaa.PA
open Go.RowKit Go.Proofs.YtflfmpfmnhpbmaaW.PrintWords Go.Proofs.YtflfmpfmnhpbmaaW.PrintLast Go.Proofs.YtflfmpfmnhpbmaaW.PrintMore
set_option linter.unusedVariables false
set_option linter.unusedSimpArgs false
def whoOk (a : S32) : Bool := decide (a.f1 > 0) && decide (a.f1 ≤ 1073741824)
/-- Whether it may be asked. -/
def askOk (n : Int) (a : S32) : Bool :=
  if a.f0 = 6 then decide (a.f4 ≥ n) && decide (a.f4 ≤ 1099511627776) else if a.f0 = 3 then wiB a.f2 7 && whoOk a else whoOk a
def doD (D : Dk) (a : S32) : Dk :=
  if a.f0 = 1 then joinD D a.f1 (less a.f1 D.mem : Int) (decide (a.f1 ∈ D.mem))
  else if a.f0 = 2 then leaveD D a.f1 (less a.f1 D.mem : Int) (decide (a.f1 ∈ D.mem))
  else if a.f0 = 3 then requestD D a (decide (a.f1 ∈ D.mem))
  else if a.f0 = 4 then releaseD D a.f1
  else if a.f0 = 5 then renewD D a
  else tickD D a
def doOk (s e h p u l n : Int) (wait : List S43) (mem : List Int) (a : S32) : Bool := decide (1 ≤ a.f0 ∧ a.f0 ≤ 6) && floorOk s e h p u l n wait mem && askOk n a
def packD (D : Dk) : Int × Int × Int × Int × Int × Int × Int × List S43 × List Int × List S38 × Int := (D.s, D.e, D.h, D.p, D.u, D.l, D.n, D.wait, D.mem, D.out, 0)
def floor_Do.f (k : Nat) (s e h p u l n : Int) (wait : List S43) (mem : List Int) (b0 b1 b2 b3 b4 : Int) : Option (Int × Int × Int × Int × Int × Int × Int × List S43 × List Int × List S38 × Int) :=
  if wait.length < 100000 ∧ mem.length < 100000 then
    (if doOk s e h p u l n wait mem ⟨b0, b1, b2, b3, b4⟩ = true then some (packD (doD ⟨s, e, h, p, u, l, n, wait, mem, []⟩ ⟨b0, b1, b2, b3, b4⟩)) else some (0, 0, 0, 0, 0, 0, 0, [], [], [], 1))
  else none
theorem floor_Do.mono : ∀ a0 a1 a2 a3 a4 a5 a6 a7 a8 a9 a10 a11 a12 a13 k, LeO (floor_Do.f k a0 a1 a2 a3 a4 a5 a6 a7 a8 a9 a10 a11 a12 a13) (floor_Do.f (k + 1) a0 a1 a2 a3 a4 a5 a6 a7 a8 a9 a10 a11 a12 a13) := fun _ _ _ _ _ _ _ _ _ _ _ _ _ _ _ => LeO.refl _
end Go.Proofs.Ytflfmpfmnhpbmaa.PA

