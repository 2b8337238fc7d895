/- The kit's contract of slices.insertionSortCmpFunc, laid at this program. -/
import Derived.Test.YtdhckdeojplghaaPAx2
import Derived.Shelf.SlSortCmp.Insertion
namespace Go.Proofs.Ytdhckdeojplghaa.PA
open Go.RowKit Go.Shelf Go.Proofs.YtdhckdeojplghaaW.PrintWords Go.Proofs.YtdhckdeojplghaaW.PrintLast Go.Proofs.YtdhckdeojplghaaW.PrintMore
set_option linter.unusedVariables false
set_option linter.unusedSimpArgs false
def rho : Ren := ⟨fun k => if k = 20 then 40 else k, fun t => if t = 24 then 3 else if t = 25 then 47 else t, fun g => g⟩
set_option maxRecDepth 100000 in
theorem lay20 : SlLaysF.n20 Try.prog rho where
  mixed := by kernel_rfl
  f20 := ⟨"slices.insertionSortCmpFunc[int]", by decide, by kernel_rfl⟩
  t0 := by kernel_rfl
  a0 := fun _ => by kernel_rfl
  z0 := fun _ => by kernel_rfl
  v0 := fun _ => by kernel_rfl
  t3 := by kernel_rfl
  a3 := fun _ => by kernel_rfl
  z3 := fun _ => by kernel_rfl
  v3 := fun _ => by kernel_rfl
  t4 := by kernel_rfl
  a4 := fun _ => by kernel_rfl
  z4 := fun _ => by kernel_rfl
  v4 := fun _ => by kernel_rfl
  t22 := by kernel_rfl
  a22 := fun _ => by kernel_rfl
  z22 := fun _ => by kernel_rfl
  v22 := fun _ => by kernel_rfl
  a24 := fun _ => by kernel_rfl
  z24 := fun _ => by kernel_rfl
  t25 := by kernel_rfl
  a25 := fun _ => by kernel_rfl
  z25 := fun _ => by kernel_rfl
  v25 := fun _ => by kernel_rfl
end Go.Proofs.Ytdhckdeojplghaa.PA
