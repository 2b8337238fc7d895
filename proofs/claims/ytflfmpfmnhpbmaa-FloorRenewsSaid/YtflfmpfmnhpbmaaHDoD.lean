/- floor.Do: what it comes to, told as plain functions. -/
import Derived.Test.YtflfmpfmnhpbmaaHReq
import Derived.Test.YtflfmpfmnhpbmaaHJoin
import Derived.Test.YtflfmpfmnhpbmaaHRel
import Derived.Test.YtflfmpfmnhpbmaaHTick
import Derived.Test.YtflfmpfmnhpbmaaHCheck
namespace Go.Proofs.Ytflfmpfmnhpbmaa.PA
open Go.RowKit Go.Proofs.YtflfmpfmnhpbmaaW.PrintWords Go.Proofs.YtflfmpfmnhpbmaaW.PrintLast Go.Proofs.YtflfmpfmnhpbmaaW.PrintMore
set_option linter.unusedVariables false
set_option linter.unusedSimpArgs false
def whoOk (a : S32) : Bool := decide (a.f1 > 0) && decide (a.f1 ≤ 1073741824)
/-- Whether it may be asked. -/
def askOk (n : Int) (a : S32) : Bool :=
  if a.f0 = 6 then decide (a.f4 ≥ n) && decide (a.f4 ≤ 1099511627776) else if a.f0 = 3 then wiB a.f2 7 && whoOk a else whoOk a
def doD (D : Dk) (a : S32) : Dk :=
  if a.f0 = 1 then joinD D a.f1 (less a.f1 D.mem : Int) (decide (a.f1 ∈ D.mem))
  else if a.f0 = 2 then leaveD D a.f1 (less a.f1 D.mem : Int) (decide (a.f1 ∈ D.mem))
  else if a.f0 = 3 then requestD D a (decide (a.f1 ∈ D.mem))
  else if a.f0 = 4 then releaseD D a.f1
  else if a.f0 = 5 then renewD D a
  else tickD D a
def doOk (s e h p u l n : Int) (wait : List S43) (mem : List Int) (a : S32) : Bool := decide (1 ≤ a.f0 ∧ a.f0 ≤ 6) && floorOk s e h p u l n wait mem && askOk n a
def packD (D : Dk) : Int × Int × Int × Int × Int × Int × Int × List S43 × List Int × List S38 × Int := (D.s, D.e, D.h, D.p, D.u, D.l, D.n, D.wait, D.mem, D.out, 0)
def floor_Do.f (k : Nat) (s e h p u l n : Int) (wait : List S43) (mem : List Int) (b0 b1 b2 b3 b4 : Int) : Option (Int × Int × Int × Int × Int × Int × Int × List S43 × List Int × List S38 × Int) :=
  if wait.length < 100000 ∧ mem.length < 100000 then
    (if doOk s e h p u l n wait mem ⟨b0, b1, b2, b3, b4⟩ = true then some (packD (doD ⟨s, e, h, p, u, l, n, wait, mem, []⟩ ⟨b0, b1, b2, b3, b4⟩)) else some (0, 0, 0, 0, 0, 0, 0, [], [], [], 1))
  else none
theorem floor_Do.mono : ∀ a0 a1 a2 a3 a4 a5 a6 a7 a8 a9 a10 a11 a12 a13 k, LeO (floor_Do.f k a0 a1 a2 a3 a4 a5 a6 a7 a8 a9 a10 a11 a12 a13) (floor_Do.f (k + 1) a0 a1 a2 a3 a4 a5 a6 a7 a8 a9 a10 a11 a12 a13) := fun _ _ _ _ _ _ _ _ _ _ _ _ _ _ _ => LeO.refl _
end Go.Proofs.Ytflfmpfmnhpbmaa.PA
