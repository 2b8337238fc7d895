/- wheel.find: a key's place; walked by hand (slices.IndexFunc with a closure that has captured the key). -/
import Derived.Test.YtbgkmbghmhgajaaPAx0
namespace Go.Proofs.Ytbgkmbghmhgajaa.PA
open Go.RowKit Go.Proofs.YtbgkmbghmhgajaaW.PrintWords Go.Proofs.YtbgkmbghmhgajaaW.PrintLast Go.Proofs.YtbgkmbghmhgajaaW.PrintMore
set_option linter.unusedVariables false
set_option linter.unusedSimpArgs false
/-- The first place from i on that bears the key; -1 where none does. -/
def idxK (key : Int) : List S33 → Int → Int
  | [], _ => -1
  | x :: r, i => if x.f1 = key then i else idxK key r (i + 1)
def wheel_find.f (a0 : Int) (l : List S33) (a1 : Int) : Option Int := some (idxK a1 l 0)
set_option maxHeartbeats 4000000 in
set_option maxRecDepth 100000 in
theorem clo31 (W : World) (gb : Nat) (key x y : Int) (hb : W.cell? ⟨gb, 0, none⟩ = some (.int .i64 key)) :
    Calls Try.prog 31 #[.agg #[.int .i64 x, .int .i64 y], .pointer (some ⟨gb, 0, none⟩)] W fun e w' => e = .returned (.bool (y == key)) ∧ Below W.heap.size W w' := by
  have hgl : gb < W.heap.size := World.block_lt_of_cell? _ _ hb
  have hbA : ∀ o, (W.alloc o).cell? ⟨gb, 0, none⟩ = some (.int .i64 key) := fun o => ((below_alloc (Below.refl _ W) o).cell hgl).trans hb
  have hne : ¬ (gb = W.heap.size) := by omega
  go_enter Try.func31, Try.ntmps31
  go_wp2
  go_ret
  exact ⟨rfl, below_alloc (Below.refl _ W) _⟩
theorem drop_cons {α : Type} (l : List α) (i : Nat) (h : i < l.length) : l.drop i = l[i] :: l.drop (i + 1) := List.drop_eq_getElem_cons h
theorem rdT33 (l : List S33) (j : Nat) (h : j < l.length) : rd_T33 l (j : Int) = l[j] := by
  unfold rd_T33
  rw [Int.toNat_natCast, List.getD_eq_getElem?_getD, List.getElem?_eq_getElem h]; rfl
set_option maxHeartbeats 4000000 in
set_option maxRecDepth 100000 in
theorem idx30 (W : World) (A : Option Addr) (c : Nat) (l : List S33) (gb : Nat) (key : Int) (hC : Kd.C k33 W A l.length l) (hb : W.cell? ⟨gb, 0, none⟩ = some (.int .i64 key)) :
    Calls Try.prog 30 #[.slice A l.length c, .func (.func 31) #[] #[.pointer (some ⟨gb, 0, none⟩)]] W fun e w' => e = .returned (.int .i64 (idxK key l 0)) ∧ Below W.heap.size W w' := by
  have hL : l.length ≤ 9223372036854775807 := hC.2.1
  have HC := Aside0.mk hC
  have HBX := Aside0.mk hb
  have HB := Aside0.mk (Below.refl W.heap.size W)
  clear hC hb
  go_enter Try.func30, Try.ntmps30
  go_wp2
  go_loopg [8] l.length (fun kx s8 wr => ∃ (i : Nat), s8 = .int .i64 i ∧ i ≤ l.length ∧ l.length - i ≤ kx ∧ Aside0 (Below W.heap.size W wr) ∧ Aside0 (idxK key (l.drop i) i = idxK key l 0))
  case atStart => exact ⟨0, rfl, Nat.zero_le _, by omega, HB, Aside0.mk rfl⟩
  case round =>
    clear HB
    obtain ⟨i, rfl, hil, hkx, HB, HQ⟩ := hrel
    by_cases hlt : i < l.length
    · have hltz : (i : Int) < (l.length : Int) := by omega
      obtain ⟨ad, hA, hc0, hc1⟩ := at_T33 HC.out (i : Int) (by omega) hltz
      subst hA
      rw [rdT33 l i hlt, Int.toNat_natCast] at hc0 hc1
      replace hc0 := (HB.out.cell (World.block_lt_of_cell? W _ hc0)).trans hc0
      replace hc1 := (HB.out.cell (World.block_lt_of_cell? W _ hc1)).trans hc1
      have hbx := (HB.out.cell (World.block_lt_of_cell? W _ HBX.out)).trans HBX.out
      have hq := HQ.out
      rw [drop_cons l i hlt, idxK] at hq
      obtain ⟨x, hx⟩ : ∃ x, x = l[i] := ⟨_, rfl⟩
      rw [← hx] at hc0 hc1 hq
      have hcl := clo31 wr gb key x.f0 x.f1 hbx
      have pz : (0 : Int) ≤ (i : Int) := by omega
      have ri : IntKind.i64.wrap ((i : Int) + 1) = ((i + 1 : Nat) : Int) := by rw [IntKind.wrap_i64]; omega
      have e5 : l.length - (i + 1) < gk := by omega
      have HQ2 := Aside0.mk hq
      clear hq HQ hx hkx
      by_cases he : x.f1 = key
      · have heb : (x.f1 == key) = true := beq_iff_eq.2 he
        have hq := HQ2.out
        rw [if_pos he] at hq
        have HQ := Aside0.mk hq
        rw [heb] at hcl
        clear hq HQ2 heb he
        go_wp2_with (go_at_call 31; refine hcl.mono ?_; rintro e w' ⟨rfl, hb2⟩)
        go_ret
        exact ⟨by rw [HQ.out]; rfl, below_step HB.out hb2⟩
      · have heb : (x.f1 == key) = false := beq_eq_false_iff_ne.2 he
        have hq := HQ2.out
        rw [if_neg he] at hq
        have HQ := Aside0.mk hq
        rw [heb] at hcl
        clear hq HQ2 heb he
        go_wp2_with (go_at_call 31; refine hcl.mono ?_; rintro e w' ⟨rfl, hb2⟩)
        go_roundg (l.length - (i + 1))
        case measure => exact e5
        case rel => exact ⟨i + 1, by first | rfl | (simp [ri]; done), by omega, Nat.le_refl _, Aside0.mk (below_step HB.out hb2), Aside0.mk (by rw [← HQ.out]; rfl)⟩
    · have hil2 : i = l.length := by omega
      have hq := HQ.out
      rw [hil2, List.drop_length, idxK] at hq
      have HQ2 := Aside0.mk hq
      clear hq HQ hil2
      go_wp2
      go_ret
      exact ⟨by rw [← HQ2.out]; rfl, HB.out⟩
set_option maxHeartbeats 4000000 in
set_option maxRecDepth 100000 in
theorem wheel_find.calls (a0_0 : Int) (A0_1 : Option Addr) (c0_1 : Nat) (l0_1 : List S33) (a1 : Int) (r : Int) (w : World) (hr : Kd.C k33 w A0_1 l0_1.length l0_1) (hc : l0_1.length ≤ c0_1) (h : wheel_find.f a0_0 l0_1 a1 = some r) :
    Calls Try.prog 20 #[.agg #[.int .i64 a0_0, .slice A0_1 l0_1.length c0_1], .int .i64 a1] w fun e w' => e = .returned (.int .i64 r) ∧ Below w.heap.size w w' := by
  obtain rfl := Option.some.inj h
  clear h
  have hi : ∀ o1 o2, ((w.alloc o1).alloc o2).heap.size = w.heap.size + 2 := fun o1 o2 => by simp
  have hB : ∀ o1 o2, Below w.heap.size w ((w.alloc o1).alloc o2) := fun o1 o2 => below_step (below_alloc (Below.refl _ w) o1) (below_alloc (Below.refl _ _) o2)
  have hC2 : ∀ o1 o2, Kd.C k33 ((w.alloc o1).alloc o2) A0_1 l0_1.length l0_1 := fun o1 o2 => Kd.C_below hr (hB o1 o2)
  have hcon := fun o1 o2 (hb : ((w.alloc o1).alloc o2).cell? ⟨w.heap.size + 1, 0, none⟩ = some (.int .i64 a1)) => idx30 ((w.alloc o1).alloc o2) A0_1 c0_1 l0_1 (w.heap.size + 1) a1 (hC2 o1 o2) hb
  generalize idxK a1 l0_1 0 = r at hcon ⊢
  have HCON := Aside0.mk hcon
  have HBB := Aside0.mk hB
  clear hr hC2 hcon hB
  go_enter Try.func20, Try.ntmps20
  go_wp2_with (go_at_call 30; refine (HCON.out _ _ ?_).mono ?_; rotate_left; rintro e w' ⟨rfl, hb2⟩)
  · go_ret
    exact ⟨rfl, below_step (HBB.out _ _) hb2⟩
  · have h2 := heap_alloc_new (w.alloc (.cells #[.int .i64 a0_0, .slice A0_1 l0_1.length c0_1] 24)) (.cells #[.int .i64 a1] 3)
    have h3 : ((w.alloc (.cells #[.int .i64 a0_0, .slice A0_1 l0_1.length c0_1] 24)).alloc (.cells #[.int .i64 a1] 3)).heap[w.heap.size + 1]? = some (.cells #[.int .i64 a1] 3) := by simpa using h2
    exact blk_cell h3 0
end Go.Proofs.Ytbgkmbghmhgajaa.PA
