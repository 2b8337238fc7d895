-- Written for this claim by this session's own printer (wip/patch_print.py over the kit's print).
import Derived.Test.YtkgcjiaadgnlkaaPAx0
import Derived.Test.YtkgcjiaadgnlkaaPAx1
import Derived.Test.YtkgcjiaadgnlkaaPAx6
import Derived.Test.YtkgcjiaadgnlkaaPAx7
import Derived.Test.YtkgcjiaadgnlkaaPAx8
import Derived.Test.YtkgcjiaadgnlkaaPAx14
import Derived.Test.YtkgcjiaadgnlkaaPAx17
import Derived.Test.YtkgcjiaadgnlkaaPAx21
namespace Go.Proofs.Ytkgcjiaadgnlkaa.PA
open Go.RowKit Go.Proofs.YtkgcjiaadgnlkaaW.PrintWords Go.Proofs.YtkgcjiaadgnlkaaW.PrintLast Go.Proofs.YtkgcjiaadgnlkaaW.PrintMore
attribute [local go_sem] max2_int min2_int max_two min_two max_three min_three max_four min_four   -- for this text's walks alone
set_option linter.unusedVariables false
set_option linter.unusedSimpArgs false

theorem sA {α : Type} (l : List α) (i : Nat) (a : α) : l.toArray.setIfInBounds i a = (l.set i a).toArray := by simp
theorem sZ {α : Type} (x a : α) (l : List α) : (x :: l).set 0 a = a :: l := rfl
theorem sS {α : Type} (x a : α) (l : List α) (n : Nat) : (x :: l).set (n + 1) a = x :: l.set n a := rfl
theorem vA {α : Type} {d : Kd α} {e : Nat} {w : World} {base : Nat} {ok : Nat → Prop} {v : Value} {xs : List α} (h : Kd.V d e w base ok v xs) (o : Obj) : Kd.V d e (w.alloc o) base ok v xs := Kd.V_alloc h o
theorem vN {α : Type} {d : Kd α} {e : Nat} {w : World} {base : Nat} {ok : Nat → Prop} {v : Value} {xs : List α} (h : Kd.V d e w base ok v xs) (m : Nat) : Kd.V d e (w.drewN m) base ok v xs := Kd.V_drewN h m
theorem vD {α : Type} {d : Kd α} {e : Nat} {w : World} {base : Nat} {ok : Nat → Prop} {v : Value} {xs : List α} (h : Kd.V d e w base ok v xs) : Kd.V d e w.drew base ok v xs := Kd.V_drew h
theorem rA {α : Type} {d : Kd α} {e : Nat} {w : World} {base : Nat} {ok : Nat → Prop} {v : Value} {xs : List α} (h : d.R e w base ok v xs) (o : Obj) : d.R e (w.alloc o) base ok v xs := Kd.R_alloc h o
theorem rN {α : Type} {d : Kd α} {e : Nat} {w : World} {base : Nat} {ok : Nat → Prop} {v : Value} {xs : List α} (h : d.R e w base ok v xs) (m : Nat) : d.R e (w.drewN m) base ok v xs := Kd.R_drewN h m
theorem rD {α : Type} {d : Kd α} {e : Nat} {w : World} {base : Nat} {ok : Nat → Prop} {v : Value} {xs : List α} (h : d.R e w base ok v xs) : d.R e w.drew base ok v xs := Kd.R_drew h
/-! ### sBB: function 8 -/
mutual
def sBB.j0 : Nat → List (S52) → Bool → Bool → List Int → Int → List Int → Int → Option (Bool)
 | 0, _, _, _, _, _, _, _ => none
 | k + 1, x1, x7, x48, x442000, x442001, x443000, x443001 => if x48 = true then (some x7) else (if ([] : List Int).length + x442000.length < 140737488355328 then (sBB.l0 k x7 ([] : List (S52)) ([] : List Int) x1 (x1.length : Int) 0 x443000 x443001 (([] : List Int) ++ x442000) x442001) else (none))
def sBB.l0 : Nat → Bool → List (S52) → List Int → List (S52) → Int → Int → List Int → Int → List Int → Int → Option (Bool)
 | 0, _, _, _, _, _, _, _, _, _, _ => none
 | k + 1, x7, x9, x10, x56, x57, x58, x443000, x443001, x454000, x454001 => if x58 < x57 then (if 0 ≤ x58 then (if x58 < (x56.length : Int) then ((squelchlaw01_put.f k x454000 x454001 ((rd_T52 x56 x58).f0) ((rd_T52 x56 x58).f1)).bind fun bt456 => (if bt456.2.2 = 0 then (if x9.length < 8796093022208 then (if x10.length < 17592186044416 then (sBB.l0 k x7 (x9 ++ [(⟨(rd_T52 x56 x58).f0, (rd_T52 x56 x58).f1⟩ : S52)]) (x10 ++ [x454001]) x56 x57 (wrap64 (x58 + 1)) x443000 x443001 bt456.1 bt456.2.1) else (none)) else (none)) else (sBB.l0 k x7 x9 x10 x56 x57 (wrap64 (x58 + 1)) x443000 x443001 x454000 x454001))) else (none)) else (none)) else ((bits_Join.f k (([(⟨x454000, x454001⟩ : S24), (⟨x443000, x443001⟩ : S24)] : List (S24)))).bind fun bt471 => (if bt471.2.2 = 0 then (sBB.l1 k x7 x10 x9 (x9.length : Int) 0 x454000 x454001 bt471.1 bt471.2.1) else (if x7 = true then (some (bt471.2.2 == 2)) else (some false))))
def sBB.l1 : Nat → Bool → List Int → List (S52) → Int → Int → List Int → Int → List Int → Int → Option (Bool)
 | 0, _, _, _, _, _, _, _, _, _ => none
 | k + 1, x7, x10, x95, x96, x97, x454000, x454001, x477000, x477001 => if x97 < x96 then (if 0 ≤ x97 then (if x97 < (x95.length : Int) then (if (wrap64 (x97 + 1)) < (x10.length : Int) then (if 0 ≤ (wrap64 (x97 + 1)) then (sBB.j3 k x7 x10 x97 (rd x10 (wrap64 (x97 + 1))) x95 x96 x97 x454000 x454001 x477000 x477001 ((rd_T52 x95 x97).f0) ((rd_T52 x95 x97).f1)) else (none)) else (sBB.j3 k x7 x10 x97 x454001 x95 x96 x97 x454000 x454001 x477000 x477001 ((rd_T52 x95 x97).f0) ((rd_T52 x95 x97).f1))) else (none)) else (none)) else (some x7)
def sBB.j3 : Nat → Bool → List Int → Int → Int → List (S52) → Int → Int → List Int → Int → List Int → Int → Int → Int → Option (Bool)
 | 0, _, _, _, _, _, _, _, _, _, _, _, _, _ => none
 | k + 1, x7, x10, x17, x19, x95, x96, x97, x454000, x454001, x477000, x477001, x479000, x479001 => if x479001 ≥ 0 then (if 0 ≤ x17 then (if x17 < (x10.length : Int) then ((bits_Get.f k x477000 x477001 (rd x10 x17) x479001).bind fun bt481 => (if bt481.1 = x479000 then (if bt481.2 = 0 then (if x19 = (wrap64 ((rd x10 x17) + x479001)) then (sBB.l1 k x7 x10 x95 x96 (wrap64 (x97 + 1)) x454000 x454001 x477000 x477001) else (some false)) else (some false)) else (some false))) else (none)) else (none)) else (if x479001 < (-1) then (if 0 ≤ x17 then (if x17 < (x10.length : Int) then ((bits_GetSigned.f k x477000 x477001 (rd x10 x17)).bind fun bt485 => (if bt485.1 = (wrap64 ((wrap64 (Int.tmod x479000 2147483648)) - 1073741824)) then (if bt485.2.2 = 0 then (if bt485.2.1 = x19 then (sBB.l1 k x7 x10 x95 x96 (wrap64 (x97 + 1)) x454000 x454001 x477000 x477001) else (some false)) else (some false)) else (some false))) else (none)) else (none)) else (if 0 ≤ x17 then (if x17 < (x10.length : Int) then ((bits_GetCode.f k x477000 x477001 (rd x10 x17)).bind fun bt489 => (if bt489.1 = x479000 then (if bt489.2.2 = 0 then (if bt489.2.1 = x19 then (sBB.l1 k x7 x10 x95 x96 (wrap64 (x97 + 1)) x454000 x454001 x477000 x477001) else (some false)) else (some false)) else (some false))) else (none)) else (none)))
end
def sBB.f (k : Nat) (l0_0 : List Int) (a0_1 : Int) (l1 : List (S52)) (l2_0 : List Int) (a2_1 : Int) : Option (Bool) := (squelchlaw01_live.f k).bind fun t443 => ((squelchlaw01_few.f k (([(⟨l0_0, a0_1⟩ : S24), (⟨l2_0, a2_1⟩ : S24)] : List (S24)))).bind fun t447 => (if t447 = true then (if (l1.length : Int) > 100 then (sBB.j0 k l1 t443 true l0_0 a0_1 l2_0 a2_1) else ((bits_Check.f k l0_0 a0_1).bind fun t448 => (if t448 = 0 then ((bits_Check.f k l2_0 a2_1).bind fun t449 => (sBB.j0 k l1 t443 (t449 != 0) l0_0 a0_1 l2_0 a2_1)) else (sBB.j0 k l1 t443 true l0_0 a0_1 l2_0 a2_1)))) else (sBB.j0 k l1 t443 true l0_0 a0_1 l2_0 a2_1)))
theorem sBB.mono_l : ∀ k, (∀ y0 y1 y2 y3 y4 y5 y6, LeO (sBB.j0 k y0 y1 y2 y3 y4 y5 y6) (sBB.j0 (k + 1) y0 y1 y2 y3 y4 y5 y6)) ∧ (∀ y0 y1 y2 y3 y4 y5 y6 y7 y8 y9, LeO (sBB.l0 k y0 y1 y2 y3 y4 y5 y6 y7 y8 y9) (sBB.l0 (k + 1) y0 y1 y2 y3 y4 y5 y6 y7 y8 y9)) ∧ (∀ y0 y1 y2 y3 y4 y5 y6 y7 y8, LeO (sBB.l1 k y0 y1 y2 y3 y4 y5 y6 y7 y8) (sBB.l1 (k + 1) y0 y1 y2 y3 y4 y5 y6 y7 y8)) ∧ (∀ y0 y1 y2 y3 y4 y5 y6 y7 y8 y9 y10 y11 y12, LeO (sBB.j3 k y0 y1 y2 y3 y4 y5 y6 y7 y8 y9 y10 y11 y12) (sBB.j3 (k + 1) y0 y1 y2 y3 y4 y5 y6 y7 y8 y9 y10 y11 y12))
 | 0 => ⟨fun _ _ _ _ _ _ _ r h => by simp [sBB.j0] at h, fun _ _ _ _ _ _ _ _ _ _ r h => by simp [sBB.l0] at h, fun _ _ _ _ _ _ _ _ _ r h => by simp [sBB.l1] at h, fun _ _ _ _ _ _ _ _ _ _ _ _ _ r h => by simp [sBB.j3] at h⟩
 | k + 1 => by
  obtain ⟨ih0, ih1, ih2, ih3⟩ := sBB.mono_l k
  refine ⟨?_, ?_, ?_, ?_⟩
  ·intro y0 y1 y2 y3 y4 y5 y6
   unfold sBB.j0
   repeat' first
   | (with_reducible exact ih0 _ _ _ _ _ _ _)
   | (with_reducible exact ih1 _ _ _ _ _ _ _ _ _ _)
   | (with_reducible exact ih2 _ _ _ _ _ _ _ _ _)
   | (with_reducible exact ih3 _ _ _ _ _ _ _ _ _ _ _ _ _)
   | (with_reducible exact bits_Check.mono _ _ _)
   | (with_reducible exact bits_Get.mono _ _ _ _ _)
   | (with_reducible exact bits_GetCode.mono _ _ _ _)
   | (with_reducible exact bits_GetSigned.mono _ _ _ _)
   | (with_reducible exact bits_Join.mono _ _)
   | (with_reducible exact squelchlaw01_few.mono _ _)
   | (with_reducible exact squelchlaw01_live.mono _)
   | (with_reducible exact squelchlaw01_put.mono _ _ _ _ _)
   | (with_reducible exact LeO.refl _)
   | (with_reducible exact LeO.none _)
   | (with_reducible refine LeO.ite ?_ ?_)
   | (with_reducible refine LeO.bind ?_ (fun _ => ?_))
   | exact ih0 _ _ _ _ _ _ _
   | exact ih1 _ _ _ _ _ _ _ _ _ _
   | exact ih2 _ _ _ _ _ _ _ _ _
   | exact ih3 _ _ _ _ _ _ _ _ _ _ _ _ _
   | exact bits_Check.mono _ _ _
   | exact bits_Get.mono _ _ _ _ _
   | exact bits_GetCode.mono _ _ _ _
   | exact bits_GetSigned.mono _ _ _ _
   | exact bits_Join.mono _ _
   | exact squelchlaw01_few.mono _ _
   | exact squelchlaw01_live.mono _
   | exact squelchlaw01_put.mono _ _ _ _ _
   | exact LeO.none _
   | refine LeO.ite ?_ ?_
   | refine LeO.bind ?_ (fun _ => ?_)
  ·intro y0 y1 y2 y3 y4 y5 y6 y7 y8 y9
   unfold sBB.l0
   repeat' first
   | (with_reducible exact ih0 _ _ _ _ _ _ _)
   | (with_reducible exact ih1 _ _ _ _ _ _ _ _ _ _)
   | (with_reducible exact ih2 _ _ _ _ _ _ _ _ _)
   | (with_reducible exact ih3 _ _ _ _ _ _ _ _ _ _ _ _ _)
   | (with_reducible exact bits_Check.mono _ _ _)
   | (with_reducible exact bits_Get.mono _ _ _ _ _)
   | (with_reducible exact bits_GetCode.mono _ _ _ _)
   | (with_reducible exact bits_GetSigned.mono _ _ _ _)
   | (with_reducible exact bits_Join.mono _ _)
   | (with_reducible exact squelchlaw01_few.mono _ _)
   | (with_reducible exact squelchlaw01_live.mono _)
   | (with_reducible exact squelchlaw01_put.mono _ _ _ _ _)
   | (with_reducible exact LeO.refl _)
   | (with_reducible exact LeO.none _)
   | (with_reducible refine LeO.ite ?_ ?_)
   | (with_reducible refine LeO.bind ?_ (fun _ => ?_))
   | exact ih0 _ _ _ _ _ _ _
   | exact ih1 _ _ _ _ _ _ _ _ _ _
   | exact ih2 _ _ _ _ _ _ _ _ _
   | exact ih3 _ _ _ _ _ _ _ _ _ _ _ _ _
   | exact bits_Check.mono _ _ _
   | exact bits_Get.mono _ _ _ _ _
   | exact bits_GetCode.mono _ _ _ _
   | exact bits_GetSigned.mono _ _ _ _
   | exact bits_Join.mono _ _
   | exact squelchlaw01_few.mono _ _
   | exact squelchlaw01_live.mono _
   | exact squelchlaw01_put.mono _ _ _ _ _
   | exact LeO.none _
   | refine LeO.ite ?_ ?_
   | refine LeO.bind ?_ (fun _ => ?_)
  ·intro y0 y1 y2 y3 y4 y5 y6 y7 y8
   unfold sBB.l1
   repeat' first
   | (with_reducible exact ih0 _ _ _ _ _ _ _)
   | (with_reducible exact ih1 _ _ _ _ _ _ _ _ _ _)
   | (with_reducible exact ih2 _ _ _ _ _ _ _ _ _)
   | (with_reducible exact ih3 _ _ _ _ _ _ _ _ _ _ _ _ _)
   | (with_reducible exact bits_Check.mono _ _ _)
   | (with_reducible exact bits_Get.mono _ _ _ _ _)
   | (with_reducible exact bits_GetCode.mono _ _ _ _)
   | (with_reducible exact bits_GetSigned.mono _ _ _ _)
   | (with_reducible exact bits_Join.mono _ _)
   | (with_reducible exact squelchlaw01_few.mono _ _)
   | (with_reducible exact squelchlaw01_live.mono _)
   | (with_reducible exact squelchlaw01_put.mono _ _ _ _ _)
   | (with_reducible exact LeO.refl _)
   | (with_reducible exact LeO.none _)
   | (with_reducible refine LeO.ite ?_ ?_)
   | (with_reducible refine LeO.bind ?_ (fun _ => ?_))
   | exact ih0 _ _ _ _ _ _ _
   | exact ih1 _ _ _ _ _ _ _ _ _ _
   | exact ih2 _ _ _ _ _ _ _ _ _
   | exact ih3 _ _ _ _ _ _ _ _ _ _ _ _ _
   | exact bits_Check.mono _ _ _
   | exact bits_Get.mono _ _ _ _ _
   | exact bits_GetCode.mono _ _ _ _
   | exact bits_GetSigned.mono _ _ _ _
   | exact bits_Join.mono _ _
   | exact squelchlaw01_few.mono _ _
   | exact squelchlaw01_live.mono _
   | exact squelchlaw01_put.mono _ _ _ _ _
   | exact LeO.none _
   | refine LeO.ite ?_ ?_
   | refine LeO.bind ?_ (fun _ => ?_)
  ·intro y0 y1 y2 y3 y4 y5 y6 y7 y8 y9 y10 y11 y12
   unfold sBB.j3
   repeat' first
   | (with_reducible exact ih0 _ _ _ _ _ _ _)
   | (with_reducible exact ih1 _ _ _ _ _ _ _ _ _ _)
   | (with_reducible exact ih2 _ _ _ _ _ _ _ _ _)
   | (with_reducible exact ih3 _ _ _ _ _ _ _ _ _ _ _ _ _)
   | (with_reducible exact bits_Check.mono _ _ _)
   | (with_reducible exact bits_Get.mono _ _ _ _ _)
   | (with_reducible exact bits_GetCode.mono _ _ _ _)
   | (with_reducible exact bits_GetSigned.mono _ _ _ _)
   | (with_reducible exact bits_Join.mono _ _)
   | (with_reducible exact squelchlaw01_few.mono _ _)
   | (with_reducible exact squelchlaw01_live.mono _)
   | (with_reducible exact squelchlaw01_put.mono _ _ _ _ _)
   | (with_reducible exact LeO.refl _)
   | (with_reducible exact LeO.none _)
   | (with_reducible refine LeO.ite ?_ ?_)
   | (with_reducible refine LeO.bind ?_ (fun _ => ?_))
   | exact ih0 _ _ _ _ _ _ _
   | exact ih1 _ _ _ _ _ _ _ _ _ _
   | exact ih2 _ _ _ _ _ _ _ _ _
   | exact ih3 _ _ _ _ _ _ _ _ _ _ _ _ _
   | exact bits_Check.mono _ _ _
   | exact bits_Get.mono _ _ _ _ _
   | exact bits_GetCode.mono _ _ _ _
   | exact bits_GetSigned.mono _ _ _ _
   | exact bits_Join.mono _ _
   | exact squelchlaw01_few.mono _ _
   | exact squelchlaw01_live.mono _
   | exact squelchlaw01_put.mono _ _ _ _ _
   | exact LeO.none _
   | refine LeO.ite ?_ ?_
   | refine LeO.bind ?_ (fun _ => ?_)
theorem sBB.mono : ∀ a0 a1 a2 a3 a4 k, LeO (sBB.f k a0 a1 a2 a3 a4) (sBB.f (k + 1) a0 a1 a2 a3 a4) := by
 intro a0 a1 a2 a3 a4 k
 obtain ⟨ih0, ih1, ih2, ih3⟩ := sBB.mono_l k
 unfold sBB.f
 repeat' first
   | (with_reducible exact ih0 _ _ _ _ _ _ _)
   | (with_reducible exact ih1 _ _ _ _ _ _ _ _ _ _)
   | (with_reducible exact ih2 _ _ _ _ _ _ _ _ _)
   | (with_reducible exact ih3 _ _ _ _ _ _ _ _ _ _ _ _ _)
   | (with_reducible exact bits_Check.mono _ _ _)
   | (with_reducible exact bits_Get.mono _ _ _ _ _)
   | (with_reducible exact bits_GetCode.mono _ _ _ _)
   | (with_reducible exact bits_GetSigned.mono _ _ _ _)
   | (with_reducible exact bits_Join.mono _ _)
   | (with_reducible exact squelchlaw01_few.mono _ _)
   | (with_reducible exact squelchlaw01_live.mono _)
   | (with_reducible exact squelchlaw01_put.mono _ _ _ _ _)
   | (with_reducible exact LeO.refl _)
   | (with_reducible exact LeO.none _)
   | (with_reducible refine LeO.ite ?_ ?_)
   | (with_reducible refine LeO.bind ?_ (fun _ => ?_))
   | exact ih0 _ _ _ _ _ _ _
   | exact ih1 _ _ _ _ _ _ _ _ _ _
   | exact ih2 _ _ _ _ _ _ _ _ _
   | exact ih3 _ _ _ _ _ _ _ _ _ _ _ _ _
   | exact bits_Check.mono _ _ _
   | exact bits_Get.mono _ _ _ _ _
   | exact bits_GetCode.mono _ _ _ _
   | exact bits_GetSigned.mono _ _ _ _
   | exact bits_Join.mono _ _
   | exact squelchlaw01_few.mono _ _
   | exact squelchlaw01_live.mono _
   | exact squelchlaw01_put.mono _ _ _ _ _
   | exact LeO.none _
   | refine LeO.ite ?_ ?_
   | refine LeO.bind ?_ (fun _ => ?_)
def sBB.T4 : Bool × List (List Nat × List Nat) := (true, [([], []), ([0], [0]), ([1], [1]), ([], []), ([3], [3]), ([2, 4], [2, 4]), ([], []), ([6, 5, 2, 0, 1, 2, 3, 4, 5, 6], [5, 6])])
def sBB.B4 : List Nat := [0, 1, 3, 0, 8, 31, 0, 127]
theorem sBB.tab4 : rtab .any (opsOf Try.f8 4) = sBB.T4 := by kernel_rfl
theorem sBB.bits4 : waitsOk sBB.T4.2 sBB.B4 = true := by kernel_rfl
def sBB.T25 : Bool × List (List Nat × List Nat) := (true, [([], []), ([], []), ([], []), ([1, 2], [1, 2]), ([3], [3]), ([0, 4], [0, 4]), ([5], [5]), ([6], [6]), ([6], [6]), ([6], [6]), ([7, 5, 0, 1, 2, 3, 4, 5, 6, 7], [7]), ([8, 10, 0, 1, 2, 3, 4, 5, 6, 7, 8, 10], [8]), ([9, 11, 0, 1, 2, 3, 4, 5, 6, 7, 8, 9, 10, 11], [9])])
def sBB.B25 : List Nat := [0, 0, 0, 6, 14, 31, 63, 127, 127, 127, 255, 1535, 4095]
theorem sBB.tab25 : rtab .any (opsOf Try.f8 25) = sBB.T25 := by kernel_rfl
theorem sBB.bits25 : waitsOk sBB.T25.2 sBB.B25 = true := by kernel_rfl
def sBB.T29 : Bool × List (List Nat × List Nat) := (true, [([], []), ([], []), ([], []), ([1, 2], [1, 2]), ([3], [3]), ([], []), ([5], [5]), ([0, 4, 6], [0, 4, 6]), ([7], [7]), ([8], [8]), ([8], [8]), ([9, 7, 0, 1, 2, 3, 4, 5, 6, 7, 8, 9], [9]), ([10, 11, 0, 1, 2, 3, 4, 5, 6, 7, 8, 9, 10, 11], [10])])
def sBB.B29 : List Nat := [0, 0, 0, 6, 14, 0, 32, 127, 255, 511, 511, 1023, 4095]
theorem sBB.tab29 : rtab .any (opsOf Try.f8 29) = sBB.T29 := by kernel_rfl
theorem sBB.bits29 : waitsOk sBB.T29.2 sBB.B29 = true := by kernel_rfl
def sBB.T30 : Bool × List (List Nat × List Nat) := (true, [([], []), ([], []), ([1], [1]), ([0, 2], [0, 2]), ([3], [3]), ([4], [4]), ([5, 4], [4, 5]), ([4, 6], [4, 6]), ([7, 4], [7]), ([8], [8]), ([8], [8]), ([8], [8]), ([10, 11, 8], [8, 10, 11]), ([12, 8], [8, 12]), ([8], [8]), ([14, 8], [8, 14]), ([13, 15, 8], [8, 13, 15]), ([9, 16, 8], [8, 9, 16]), ([8, 17], [8, 17])])
def sBB.B30 : List Nat := [0, 0, 2, 7, 15, 31, 63, 127, 255, 511, 511, 511, 3583, 7679, 511, 16895, 65023, 131071, 262143]
theorem sBB.tab30 : rtab .any (opsOf Try.f8 30) = sBB.T30 := by kernel_rfl
theorem sBB.bits30 : waitsOk sBB.T30.2 sBB.B30 = true := by kernel_rfl
def sBB.T33 : Bool × List (List Nat × List Nat) := (true, [([], []), ([], []), ([], []), ([1, 2], [1, 2]), ([3], [3]), ([0, 4], [0, 4]), ([5], [5]), ([6], [6]), ([6], [6]), ([6], [6]), ([7, 5, 0, 1, 2, 3, 4, 5, 6, 7], [7]), ([8, 10, 0, 1, 2, 3, 4, 5, 6, 7, 8, 10], [8]), ([9, 11, 0, 1, 2, 3, 4, 5, 6, 7, 8, 9, 10, 11], [9])])
def sBB.B33 : List Nat := [0, 0, 0, 6, 14, 31, 63, 127, 127, 127, 255, 1535, 4095]
theorem sBB.tab33 : rtab .any (opsOf Try.f8 33) = sBB.T33 := by kernel_rfl
theorem sBB.bits33 : waitsOk sBB.T33.2 sBB.B33 = true := by kernel_rfl
def sBB.Pure : Prop := ∀ (l0_0 : List Int) (a0_1 : Int) (l1 : List (S52)) (l2_0 : List Int) (a2_1 : Int), (l0_0.length * 1 ≤ 140737488351232 ∧ l0_0.length ≤ 9223372036854775807 ∧ ∀ y0_ ∈ l0_0, (Lit.int .u8 y0_).wf = true) → (Lit.int .i64 a0_1).wf = true → (l1.length * 16 ≤ 140737488351232 ∧ l1.length ≤ 9223372036854775807 ∧ ∀ y0_ ∈ l1, ((Lit.int .u64 y0_.f0).wf = true ∧ (Lit.int .i64 y0_.f1).wf = true)) → (l2_0.length * 1 ≤ 140737488351232 ∧ l2_0.length ≤ 9223372036854775807 ∧ ∀ y0_ ∈ l2_0, (Lit.int .u8 y0_).wf = true) → (Lit.int .i64 a2_1).wf = true → ∃ k, sBB.f k l0_0 a0_1 l1 l2_0 a2_1 = some true

end Go.Proofs.Ytkgcjiaadgnlkaa.PA
-- slim
