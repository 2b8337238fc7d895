/- slices.swapRangeCmpFunc and rotateCmpFunc over int slices: from a world of the sort's to a world of the sort's; walked by hand after the kit's own sort family. -/
import Derived.Test.YtdhckdeojplghaaHSort
import Derived.Shelf.SlSortCmp.Insertion1
import Derived.Sort.WalkB2
import Derived.Sort.WalkB12
import Derived.Deep.LoopGhost
namespace Go.Proofs.Ytdhckdeojplghaa.PA
open Go.RowKit Go.Shelf Go.Sort Go.Lib
set_option linter.unusedVariables false
set_option linter.unusedSimpArgs false
/-- swapRange, from its i-th exchange on. -/
def swpR {α : Type} [Inhabited α] (a b : Nat) : Nat → Nat → Array α → Array α
  | _, 0, d => d
  | i, m + 1, d => swpR a b (i + 1) m (swp d (a + i) (b + i))
theorem size_swpR {α : Type} [Inhabited α] (a b : Nat) (m : Nat) : ∀ (i : Nat) (d : Array α), (swpR a b i m d).size = d.size := by
  induction m with
  | zero => exact fun _ _ => rfl
  | succ m ih => exact fun i d => by rw [swpR, ih, size_swp]
variable {α : Type} [Inhabited α]
set_option maxHeartbeats 4000000 in
set_option maxRecDepth 1000000 in
theorem swr43 (enc : α → Value) (fv : Value) (blk off cap a b m : Nat) (d0 d : Array α) (w0 w : World)
    (R : Row1 enc w0 blk off d0) (hs : d0.size = d.size) (S : SW enc w0 blk off d w) (ha : a + m ≤ d.size) (hb : b + m ≤ d.size) (hsz : d.size < 4611686018427387904) :
    Calls Try.prog 43 #[.slice (some ⟨blk, off, none⟩) d.size cap, .int .i64 a, .int .i64 b, .int .i64 m, fv] w fun e w' => e = .returned (.tuple #[]) ∧ SW enc w0 blk off (swpR a b 0 m d) w' := by
  have u22 := Try.underlying22
  have mixed : Try.prog.follows .mixedOrders = true := lay20.mixed
  have hcl0 := R.hO.cells
  simp only [Value.cells] at hcl0
  have hst := R.hO.store Try.prog
  have S0 : Aside (SW enc w0 blk off d w) := S
  clear S
  go_enter Try.func43, Try.ntmps43
  go_wp2
  go_loopg [10] m (fun kx s10 wr => ∃ (i : Nat) (dk : Array α), s10 = .int .i64 i ∧ i ≤ m ∧ m - i ≤ kx ∧ dk.size = d.size ∧ Aside (SW enc w0 blk off dk wr) ∧ Hid (swpR a b i (m - i) dk = swpR a b 0 m d))
  case atStart => exact ⟨0, d, rfl, Nat.zero_le _, by omega, rfl, S0, rfl⟩
  case round =>
    clear S0
    obtain ⟨i, dk, rfl, him, hkx, hds, S1, heq⟩ := hrel
    by_cases hlt : i < m
    · have hltz : (i : Int) < (m : Int) := by omega
      go_wp2_with fail
      obtain ⟨x, hx⟩ : ∃ q, q = a + i := ⟨_, rfl⟩
      obtain ⟨y, hy⟩ : ∃ q, q = b + i := ⟨_, rfl⟩
      have hr : swpR a b i (m - i) dk = swpR a b (i + 1) (m - (i + 1)) (swp dk x y) := by
        rw [hx, hy, show m - i = (m - (i + 1)) + 1 by omega, swpR]
      have heq2 : Hid (swpR a b (i + 1) (m - (i + 1)) (swp dk x y) = swpR a b 0 m d) := hr.symm.trans heq
      clear heq hr
      have hxs : x < dk.size := by omega
      have hys : y < dk.size := by omega
      have ra : IntKind.i64.wrap ((a : Int) + (i : Int)) = (x : Int) := by rw [IntKind.wrap_i64]; omega
      have rb : IntKind.i64.wrap ((b : Int) + (i : Int)) = (y : Int) := by rw [IntKind.wrap_i64]; omega
      have ri : IntKind.i64.wrap ((i : Int) + 1) = ((i + 1 : Nat) : Int) := by rw [IntKind.wrap_i64]; omega
      have pa : (0 : Int) ≤ (x : Int) := by omega
      have ba : (x : Int) < (d.size : Int) := by omega
      have pc : (0 : Int) ≤ (y : Int) := by omega
      have bc : (y : Int) < (d.size : Int) := by omega
      obtain ⟨vx, hvx⟩ : ∃ q, q = dk[x]! := ⟨_, rfl⟩
      obtain ⟨vy, hvy⟩ : ∃ q, q = dk[y]! := ⟨_, rfl⟩
      have S2 : Aside (SW enc w0 blk off (swp dk x y) ((wr.setCell ⟨blk, off + x, none⟩ (enc vy)).setCell ⟨blk, off + y, none⟩ (enc vx)).drew) := by rw [hvx, hvy]; exact S1.out.swapped R x y hxs hys
      have c1 := S1.out.c1 R (by omega) x hxs
      have c2 := S1.out.c1 R (by omega) y hys
      have f1 := S1.out.f1 R (by omega) x hxs
      have f2 := S1.out.f1 R (by omega) y hys
      obtain ⟨u3, c3⟩ := S1.out.c2 R (by omega) x y hxs hys (enc vy)
      rw [← hvx] at c1
      rw [← hvy] at c2
      have hx0 : Hid (x = a + i) := hx
      have hy0 : Hid (y = b + i) := hy
      clear S1 hvx hvy hx hy
      go_big_region_o
      clear c1 c2 c3 f1 f2
      generalize ((wr.setCell ⟨blk, off + x, none⟩ (enc vy)).setCell ⟨blk, off + y, none⟩ (enc vx)).drew = w2 at S2 ⊢
      go_wp2
      go_roundg (m - (i + 1))
      case measure => omega
      case rel => exact ⟨i + 1, swp dk x y, by first | rfl | (simp [ri]; done) | (rw [ri]), by omega, Nat.le_refl _, by rw [size_swp]; exact hds, S2, heq2⟩
    · obtain rfl : i = m := by omega
      go_wp2
      go_end0
      refine ⟨rfl, ?_⟩
      have h2 : swpR a b i (i - i) dk = swpR a b 0 i d := heq
      rw [Nat.sub_self, swpR] at h2
      rw [← h2]
      exact S1.out

/-- rotate's rounds. -/
def rot (m : Nat) : Nat → Nat → Nat → Array α → Array α
  | 0, i, _, d => swpR (m - i) m 0 i d
  | k + 1, i, j, d => if i = j then swpR (m - i) m 0 i d else if j < i then rot m k (i - j) j (swpR (m - i) m 0 j d) else rot m k i (j - i) (swpR (m - i) (m + j - i) 0 i d)
theorem size_rot (m : Nat) (k : Nat) : ∀ (i j : Nat) (d : Array α), (rot m k i j d).size = d.size := by
  induction k with
  | zero => exact fun i j d => by rw [rot, size_swpR]
  | succ k ih =>
    intro i j d
    rw [rot]
    split
    · rw [size_swpR]
    · split
      · rw [ih, size_swpR]
      · rw [ih, size_swpR]
set_option maxHeartbeats 4000000 in
set_option maxRecDepth 1000000 in
theorem rot42 (enc : α → Value) (fv : Value) (blk off cap a m b : Nat) (d0 d : Array α) (w0 w : World)
    (R : Row1 enc w0 blk off d0) (hs : d0.size = d.size) (S : SW enc w0 blk off d w) (ham : a < m) (hmb : m < b) (hb : b ≤ d.size) (hsz : d.size < 4611686018427387904) :
    Calls Try.prog 42 #[.slice (some ⟨blk, off, none⟩) d.size cap, .int .i64 a, .int .i64 m, .int .i64 b, fv] w fun e w' => e = .returned (.tuple #[]) ∧ SW enc w0 blk off (rot m (b - a) (m - a) (b - m) d) w' := by
  have S0 : Aside (SW enc w0 blk off d w) := S
  have R0 : Aside (Row1 enc w0 blk off d0) := R
  clear S R
  have r1 : IntKind.i64.wrap ((m : Int) - (a : Int)) = ((m - a : Nat) : Int) := by rw [IntKind.wrap_i64]; omega
  have r2 : IntKind.i64.wrap ((b : Int) - (m : Int)) = ((b - m : Nat) : Int) := by rw [IntKind.wrap_i64]; omega
  obtain ⟨i0, hi0⟩ : ∃ q, q = m - a := ⟨_, rfl⟩
  obtain ⟨j0, hj0⟩ : ∃ q, q = b - m := ⟨_, rfl⟩
  rw [← hi0] at r1
  rw [← hj0] at r2
  rw [← hi0, ← hj0]
  have hab : i0 + j0 = b - a := by omega
  go_enter Try.func42, Try.ntmps42
  go_wp2
  go_loopg [10, 11] (b - a) (fun kx s10 s11 wr => ∃ (i j : Nat) (dk : Array α), s10 = .int .i64 i ∧ s11 = .int .i64 j ∧ 1 ≤ i ∧ 1 ≤ j ∧ i ≤ m ∧ m + j ≤ d.size ∧ i + j ≤ kx ∧ dk.size = d.size ∧ Aside (SW enc w0 blk off dk wr) ∧ Hid (rot m kx i j dk = rot m (b - a) i0 j0 d))
  case atStart => exact ⟨i0, j0, d, by first | rfl | (rw [hi0]), by first | rfl | (rw [hj0]), by omega, by omega, by omega, by omega, by omega, rfl, S0, rfl⟩
  case round =>
    clear S0 r1 r2
    obtain ⟨i, j, dk, rfl, rfl, h1i, h1j, him, hjm, hkx, hds, S1, heq⟩ := hrel
    have q1 : IntKind.i64.wrap ((m : Int) - (i : Int)) = ((m - i : Nat) : Int) := by rw [IntKind.wrap_i64]; omega
    obtain ⟨mi, hmi⟩ : ∃ q, q = m - i := ⟨_, rfl⟩
    rw [← hmi] at q1
    obtain ⟨kk, rfl⟩ : ∃ kk, gk = kk + 1 := ⟨gk - 1, by omega⟩
    have hrec := rot.eq_2 m i j dk kk
    rw [← hmi] at hrec
    by_cases hij : i = j
    · subst hij
      have hc := swr43 enc fv blk off cap mi m i d0 dk w0 wr R0.out (by omega) S1.out (by omega) (by omega) (by omega)
      rw [hds] at hc
      rw [if_pos rfl] at hrec
      have hfin : swpR mi m 0 i dk = rot m (b - a) i0 j0 d := hrec.symm.trans heq
      rw [hfin] at hc
      clear heq hrec hfin hmi hi0 hj0 hab hkx h1i h1j
      go_wp2_with (go_at_call 43; refine hc.mono ?_; rintro e w' ⟨rfl, S2⟩)
      go_end0
      exact ⟨rfl, S2⟩
    · have hijz : ¬ ((i : Int) = (j : Int)) := by omega
      rw [if_neg hij] at hrec
      by_cases hlt : j < i
      · have hltz : (j : Int) < (i : Int) := by omega
        have q2 : IntKind.i64.wrap ((i : Int) - (j : Int)) = ((i - j : Nat) : Int) := by rw [IntKind.wrap_i64]; omega
        obtain ⟨ij, hij2⟩ : ∃ q, q = i - j := ⟨_, rfl⟩
        rw [← hij2] at q2
        rw [if_pos hlt, ← hij2] at hrec
        have hc := swr43 enc fv blk off cap mi m j d0 dk w0 wr R0.out (by omega) S1.out (by omega) (by omega) (by omega)
        rw [hds] at hc
        have hsz2 := size_swpR mi m j 0 dk
        have heq2 : Hid (rot m kk ij j (swpR mi m 0 j dk) = rot m (b - a) i0 j0 d) := hrec.symm.trans heq
        clear heq hrec
        generalize swpR mi m 0 j dk = dn at hc heq2 hsz2
        have e1 : 1 ≤ ij := by omega
        have e2 : ij ≤ m := by omega
        have e3 : ij + j ≤ kk := by omega
        have e4 : dn.size = d.size := by omega
        clear hmi hi0 hj0 hab hkx h1i him hsz2 hij2
        have e4 : Hid (dn.size = d.size) := e4
        go_wp2_with (go_at_call 43; refine hc.mono ?_; rintro e w' ⟨rfl, S2⟩)
        go_roundg kk
        case measure => omega
        case rel => exact ⟨ij, j, dn, by first | rfl | (simp [q2]; done), rfl, e1, h1j, e2, hjm, e3, e4, S2, heq2⟩
      · have hltz : ¬ ((j : Int) < (i : Int)) := by omega
        have q2 : IntKind.i64.wrap ((j : Int) - (i : Int)) = ((j - i : Nat) : Int) := by rw [IntKind.wrap_i64]; omega
        have q3 : IntKind.i64.wrap ((m : Int) + (j : Int)) = ((m + j : Nat) : Int) := by rw [IntKind.wrap_i64]; omega
        have q4 : IntKind.i64.wrap (((m + j : Nat) : Int) - (i : Int)) = ((m + j - i : Nat) : Int) := by rw [IntKind.wrap_i64]; omega
        obtain ⟨mj, hmj⟩ : ∃ q, q = m + j := ⟨_, rfl⟩
        rw [← hmj] at q3 q4
        obtain ⟨mji, hmji⟩ : ∃ q, q = mj - i := ⟨_, rfl⟩
        rw [← hmji] at q4
        obtain ⟨ji, hji2⟩ : ∃ q, q = j - i := ⟨_, rfl⟩
        rw [← hji2] at q2
        rw [if_neg hlt, ← hji2, ← hmj, ← hmji] at hrec
        have hc := swr43 enc fv blk off cap mi mji i d0 dk w0 wr R0.out (by omega) S1.out (by omega) (by omega) (by omega)
        rw [hds] at hc
        have hsz2 := size_swpR mi mji i 0 dk
        have heq2 : Hid (rot m kk i ji (swpR mi mji 0 i dk) = rot m (b - a) i0 j0 d) := hrec.symm.trans heq
        clear heq hrec
        generalize swpR mi mji 0 i dk = dn at hc heq2 hsz2
        have e1 : 1 ≤ ji := by omega
        have e2 : m + ji ≤ d.size := by omega
        have e3 : i + ji ≤ kk := by omega
        have e4 : dn.size = d.size := by omega
        clear hmi hi0 hj0 hab hkx h1j hjm hsz2 hji2 hmj hmji
        have e4 : Hid (dn.size = d.size) := e4
        go_wp2_with (go_at_call 43; refine hc.mono ?_; rintro e w' ⟨rfl, S2⟩)
        go_roundg kk
        case measure => omega
        case rel => exact ⟨i, ji, dn, rfl, by first | rfl | (simp [q2]; done), h1i, e1, him, e2, e3, e4, S2, heq2⟩
end Go.Proofs.Ytdhckdeojplghaa.PA
