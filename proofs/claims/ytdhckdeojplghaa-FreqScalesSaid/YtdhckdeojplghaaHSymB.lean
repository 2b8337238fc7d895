/- slices.symMergeCmpFunc where the first part has one element, or the second; walked by hand. -/
import Derived.Test.YtdhckdeojplghaaHSymA
namespace Go.Proofs.Ytdhckdeojplghaa.PA
open Go.RowKit Go.Shelf Go.Sort Go.Lib
set_option linter.unusedVariables false
set_option linter.unusedSimpArgs false
/-- A search by halves. -/
def bs (q : Nat → Bool) : Nat → Nat → Nat → Nat
  | 0, i, _ => i
  | k + 1, i, j => if i < j then (if q ((i + j) / 2) then bs q k ((i + j) / 2 + 1) j else bs q k i ((i + j) / 2)) else i
theorem bs_range (q : Nat → Bool) (k : Nat) : ∀ i j, i ≤ j → i ≤ bs q k i j ∧ bs q k i j ≤ j := by
  induction k with
  | zero => exact fun i j h => ⟨Nat.le_refl _, h⟩
  | succ k ih =>
    intro i j h
    rw [bs]
    split
    · split
      · have := ih ((i + j) / 2 + 1) j (by omega)
        omega
      · have := ih i ((i + j) / 2) (by omega)
        omega
    · omega
variable {α : Type} [Inhabited α]
/-- Up, one by one. -/
def shU : Nat → Nat → Array α → Array α
  | 0, _, d => d
  | n + 1, k, d => shU n (k + 1) (swp d k (k + 1))
theorem size_shU (n : Nat) : ∀ (k : Nat) (d : Array α), (shU n k d).size = d.size := by
  induction n with
  | zero => exact fun _ _ => rfl
  | succ n ih => exact fun k d => by rw [shU, ih, size_swp]
/-- Down, one by one. -/
def shD : Nat → Nat → Array α → Array α
  | 0, _, d => d
  | n + 1, k, d => shD n (k - 1) (swp d k (k - 1))
theorem size_shD (n : Nat) : ∀ (k : Nat) (d : Array α), (shD n k d).size = d.size := by
  induction n with
  | zero => exact fun _ _ => rfl
  | succ n ih => exact fun k d => by rw [shD, ih, size_swp]
theorem cmpR {P : Program} {g : Nat} {cb : Array Value} {enc : α → Value} {cf : α → α → Int} {blk off size : Nat} {w0 W : World} {dk : Array α} (h : SW enc w0 blk off dk W) (hC : CmpReads P g cb enc cf blk off size w0) (hs : dk.size = size) (x y : α) (n : Nat) :
    Calls P g (#[enc x, enc y] ++ cb) (W.drewN n) fun e w' => e = .returned (.int .i64 (cf x y)) ∧ ∃ q, w' = (W.drewN n).drewN q := by
  obtain ⟨m, os, hw⟩ := h.drewN n
  rw [hw]
  exact hC m os dk hs x y
def symA (cf : α → α → Int) (a m b : Nat) (d : Array α) : Array α := shU (bs (fun h => decide (cf d[h]! d[a]! < 0)) (b - m) m b - 1 - a) a d
set_option maxHeartbeats 4000000 in
set_option maxRecDepth 1000000 in
theorem symA41 (enc : α → Value) (cf : α → α → Int) (gb blk off cap a m b : Nat) (d0 d : Array α) (w0 w : World)
    (hC : CmpReads Try.prog 27 #[.pointer (some ⟨gb, 0, none⟩)] enc cf blk off d0.size w0) (R : Row1 enc w0 blk off d0) (hs : d0.size = d.size) (S : SW enc w0 blk off d w) (ham : m = a + 1) (hmb : m < b) (hb : b ≤ d.size) (hsz : d.size < 65537) :
    Calls Try.prog 41 #[.slice (some ⟨blk, off, none⟩) d.size cap, .int .i64 a, .int .i64 m, .int .i64 b, .func (.func 27) #[] #[.pointer (some ⟨gb, 0, none⟩)]] w fun e w' => e = .returned (.tuple #[]) ∧ SW enc w0 blk off (symA cf a m b d) w' := by
  have u22 := Try.underlying22
  have hcl0 := R.hO.cells
  simp only [Value.cells] at hcl0
  have hst := R.hO.store Try.prog
  have S0 : Aside (SW enc w0 blk off d w) := S
  have R0 : Aside (Row1 enc w0 blk off d0) := R
  have C0 : Aside (CmpReads Try.prog 27 #[.pointer (some ⟨gb, 0, none⟩)] enc cf blk off d0.size w0) := hC
  have mixed : Try.prog.follows .mixedOrders = true := lay20.mixed
  have r1 : IntKind.i64.wrap ((m : Int) - (a : Int)) = 1 := by rw [IntKind.wrap_i64]; omega
  have H1 : Hid (m = a + 1) := ham
  have hma : a < m := by omega
  clear S R hC ham
  go_enter Try.func41, Try.ntmps41
  go_wp2
  go_loopg [10, 11] (b - m) (fun kx s10 s11 wr => ∃ (i j : Nat), s10 = .int .i64 i ∧ s11 = .int .i64 j ∧ m ≤ i ∧ i ≤ j ∧ j ≤ b ∧ j - i ≤ kx ∧ Aside (SW enc w0 blk off d wr) ∧ Hid (bs (fun h => decide (cf d[h]! d[a]! < 0)) kx i j = bs (fun h => decide (cf d[h]! d[a]! < 0)) (b - m) m b))
  case atStart => exact ⟨m, b, rfl, rfl, Nat.le_refl _, by omega, Nat.le_refl _, Nat.le_refl _, S0, rfl⟩
  case round =>
    clear S0 r1
    obtain ⟨i, j, rfl, rfl, hmi, hij, hjb, hkx, S1, heq⟩ := hrel
    by_cases hlt : i < j
    · have hltz : (i : Int) < (j : Int) := by omega
      have q1 : IntKind.i64.wrap ((i : Int) + (j : Int)) = ((i + j : Nat) : Int) := by rw [IntKind.wrap_i64]; omega
      obtain ⟨h, hh⟩ : ∃ q, q = (i + j) / 2 := ⟨_, rfl⟩
      have qh : ((i : Int) + (j : Int)) / 2 = (h : Int) := by omega
      have hih : i ≤ h := by omega
      have hhj : h < j := by omega
      obtain ⟨kk, rfl⟩ : ∃ kk, gk = kk + 1 := ⟨gk - 1, by omega⟩
      have hb2 : bs (fun h => decide (cf d[h]! d[a]! < 0)) (kk + 1) i j = if decide (cf d[h]! d[a]! < 0) = true then bs (fun h => decide (cf d[h]! d[a]! < 0)) kk (h + 1) j else bs (fun h => decide (cf d[h]! d[a]! < 0)) kk i h := by rw [bs, if_pos hlt, ← hh]
      have e5 : j - (h + 1) ≤ kk := by omega
      have e6 : h - i ≤ kk := by omega
      have pa : (0 : Int) ≤ (h : Int) := by omega
      have ba : (h : Int) < (d.size : Int) := by omega
      have pc : (0 : Int) ≤ (a : Int) := by omega
      have bc : (a : Int) < (d.size : Int) := by omega
      have ri : IntKind.i64.wrap ((h : Int) + 1) = ((h + 1 : Nat) : Int) := by rw [IntKind.wrap_i64]; omega
      have c1 := S1.out.c1 R0.out (by omega) h (by omega)
      have c2 := S1.out.c1 R0.out (by omega) a (by omega)
      have hc := fun n => cmpR S1.out C0.out hs.symm d[h]! d[a]! n
      have hcase : Hid (bs (fun h => decide (cf d[h]! d[a]! < 0)) (kk + 1) i j = bs (fun h => decide (cf d[h]! d[a]! < 0)) (b - m) m b) := heq
      clear heq hkx hh
      by_cases hcf : cf d[h]! d[a]! < 0
      · rw [if_pos (decide_eq_true hcf)] at hb2
        have heq2 : Hid (bs (fun h => decide (cf d[h]! d[a]! < 0)) kk (h + 1) j = bs (fun h => decide (cf d[h]! d[a]! < 0)) (b - m) m b) := hb2.symm.trans hcase
        clear hcase hb2
        generalize cf d[h]! d[a]! = r at hc hcf
        generalize enc d[h]! = vx at c1 hc
        generalize enc d[a]! = vy at c2 hc
        go_wp2_with fail
        go_quiet (exact Calls.quiet_of (hc _))
        have S2 : Aside (SW enc w0 blk off d (wr.drewN nq)) := S1.out.drewN nq
        clear c1 c2 hc S1
        generalize wr.drewN nq = w2 at S2 ⊢
        go_wp2
        go_roundg kk
        case measure => omega
        case rel => exact ⟨h + 1, j, by first | rfl | (simp [ri]; done), rfl, by omega, by omega, hjb, e5, S2, heq2⟩
      · rw [if_neg (by simpa using hcf)] at hb2
        have heq2 : Hid (bs (fun h => decide (cf d[h]! d[a]! < 0)) kk i h = bs (fun h => decide (cf d[h]! d[a]! < 0)) (b - m) m b) := hb2.symm.trans hcase
        clear hcase hb2
        generalize cf d[h]! d[a]! = r at hc hcf
        generalize enc d[h]! = vx at c1 hc
        generalize enc d[a]! = vy at c2 hc
        go_wp2_with fail
        go_quiet (exact Calls.quiet_of (hc _))
        have S2 : Aside (SW enc w0 blk off d (wr.drewN nq)) := S1.out.drewN nq
        clear c1 c2 hc S1
        generalize wr.drewN nq = w2 at S2 ⊢
        go_wp2
        go_roundg kk
        case measure => omega
        case rel => exact ⟨i, h, rfl, rfl, hmi, hih, by omega, e6, S2, heq2⟩
    · obtain rfl : i = j := by omega
      have hfin : i = bs (fun h => decide (cf d[h]! d[a]! < 0)) (b - m) m b := by
        have h2 : bs (fun h => decide (cf d[h]! d[a]! < 0)) gk i i = bs (fun h => decide (cf d[h]! d[a]! < 0)) (b - m) m b := heq
        rw [← h2]
        cases gk with
        | zero => rfl
        | succ g => rw [bs, if_neg (Nat.lt_irrefl _)]
      have hgoal : symA cf a m b d = shU (i - 1 - a) a d := by rw [symA, ← hfin]
      have re : IntKind.i64.wrap ((i : Int) - 1) = ((i - 1 : Nat) : Int) := by rw [IntKind.wrap_i64]; omega
      obtain ⟨e, he⟩ : ∃ q, q = i - 1 := ⟨_, rfl⟩
      rw [← he] at re
      have hgoal2 : Hid (symA cf a m b d = shU (e - a) a d) := by rw [he]; exact hgoal
      have hae : a ≤ e := by omega
      have heb : e < b := by omega
      clear heq hfin hgoal hij hkx
      have he0 : Hid (e = i - 1) := he
      clear he hmi hlt
      go_wp2
      go_loopg [13] (e - a) (fun kx s13 wr => ∃ (k : Nat) (dk : Array α), s13 = .int .i64 k ∧ a ≤ k ∧ k ≤ e ∧ e - k ≤ kx ∧ dk.size = d.size ∧ Aside (SW enc w0 blk off dk wr) ∧ Hid (shU (e - k) k dk = shU (e - a) a d))
      case atStart => exact ⟨a, d, rfl, Nat.le_refl _, hae, Nat.le_refl _, rfl, S1, rfl⟩
      case round =>
        clear S1
        obtain ⟨k, dk, rfl, hak, hke, hkx, hds, S1, heq⟩ := hrel
        by_cases hlt : k < e
        · have hltz : (k : Int) < (e : Int) := by omega
          go_wp2_with fail
          obtain ⟨y, hy⟩ : ∃ q, q = k + 1 := ⟨_, rfl⟩
          have hr : shU (e - k) k dk = shU (e - y) y (swp dk k y) := by rw [hy, show e - k = (e - (k + 1)) + 1 by omega, shU]
          have heq2 : Hid (shU (e - y) y (swp dk k y) = shU (e - a) a d) := hr.symm.trans heq
          clear heq hr
          have hxs : k < dk.size := by omega
          have hys : y < dk.size := by omega
          have rb : IntKind.i64.wrap ((k : Int) + 1) = (y : Int) := by rw [IntKind.wrap_i64]; omega
          have pa : (0 : Int) ≤ (k : Int) := by omega
          have ba : (k : Int) < (d.size : Int) := by omega
          have pc : (0 : Int) ≤ (y : Int) := by omega
          have bc : (y : Int) < (d.size : Int) := by omega
          have e1 : a ≤ y := by omega
          have e2 : y ≤ e := by omega
          have e3 : e - y < e - k := by omega
          obtain ⟨vx, hvx⟩ : ∃ q, q = dk[k]! := ⟨_, rfl⟩
          obtain ⟨vy, hvy⟩ : ∃ q, q = dk[y]! := ⟨_, rfl⟩
          have S2 : Aside (SW enc w0 blk off (swp dk k y) ((wr.setCell ⟨blk, off + k, none⟩ (enc vy)).setCell ⟨blk, off + y, none⟩ (enc vx)).drew) := by rw [hvx, hvy]; exact S1.out.swapped R0.out k y hxs hys
          have c1 := S1.out.c1 R0.out (by omega) k hxs
          have c2 := S1.out.c1 R0.out (by omega) y hys
          have f1 := S1.out.f1 R0.out (by omega) k hxs
          have f2 := S1.out.f1 R0.out (by omega) y hys
          obtain ⟨u3, c3⟩ := S1.out.c2 R0.out (by omega) k y hxs hys (enc vy)
          rw [← hvx] at c1
          rw [← hvy] at c2
          have hm5 : e - y < gk := by omega
          clear S1 hvx hvy hy
          go_big_region_o
          clear c1 c2 c3 f1 f2
          generalize ((wr.setCell ⟨blk, off + k, none⟩ (enc vy)).setCell ⟨blk, off + y, none⟩ (enc vx)).drew = w2 at S2 ⊢
          go_wp2
          go_roundg (e - y)
          case measure => omega
          case rel => exact ⟨y, swp dk k y, by first | rfl | (simp [rb]; done), e1, e2, Nat.le_refl _, by rw [size_swp]; exact hds, S2, heq2⟩
        · obtain rfl : k = e := by omega
          have h2 : shU (k - k) k dk = shU (k - a) a d := heq
          rw [Nat.sub_self, shU] at h2
          have h3 : Hid (symA cf a m b d = dk) := Eq.trans hgoal2 h2.symm
          clear heq h2 hgoal2
          go_wp2
          first | go_end0 | ((try simp only [Exit.inBlock, Exit.then]); refine bodyPost_ret (results_none rfl _ _ _) rfl ?_)
          refine ⟨rfl, ?_⟩
          rw [show symA cf a m b d = dk from h3]
          exact S1.out
def symB (cf : α → α → Int) (a m : Nat) (d : Array α) : Array α := shD (m - bs (fun h => !decide (cf d[m]! d[h]! < 0)) (m - a) a m) m d
set_option maxHeartbeats 4000000 in
set_option maxRecDepth 1000000 in
theorem symB41 (enc : α → Value) (cf : α → α → Int) (gb blk off cap a m b : Nat) (d0 d : Array α) (w0 w : World)
    (hC : CmpReads Try.prog 27 #[.pointer (some ⟨gb, 0, none⟩)] enc cf blk off d0.size w0) (R : Row1 enc w0 blk off d0) (hs : d0.size = d.size) (S : SW enc w0 blk off d w) (ham : a < m) (hm1 : ¬ m = a + 1) (hmb : b = m + 1) (hb : b ≤ d.size) (hsz : d.size < 65537) :
    Calls Try.prog 41 #[.slice (some ⟨blk, off, none⟩) d.size cap, .int .i64 a, .int .i64 m, .int .i64 b, .func (.func 27) #[] #[.pointer (some ⟨gb, 0, none⟩)]] w fun e w' => e = .returned (.tuple #[]) ∧ SW enc w0 blk off (symB cf a m d) w' := by
  have u22 := Try.underlying22
  have hcl0 := R.hO.cells
  simp only [Value.cells] at hcl0
  have hst := R.hO.store Try.prog
  have S0 : Aside (SW enc w0 blk off d w) := S
  have R0 : Aside (Row1 enc w0 blk off d0) := R
  have C0 : Aside (CmpReads Try.prog 27 #[.pointer (some ⟨gb, 0, none⟩)] enc cf blk off d0.size w0) := hC
  have mixed : Try.prog.follows .mixedOrders = true := lay20.mixed
  have r1 : IntKind.i64.wrap ((m : Int) - (a : Int)) = ((m - a : Nat) : Int) := by rw [IntKind.wrap_i64]; omega
  have r2 : IntKind.i64.wrap ((b : Int) - (m : Int)) = 1 := by rw [IntKind.wrap_i64]; omega
  obtain ⟨ma, hma0⟩ : ∃ q, q = m - a := ⟨_, rfl⟩
  rw [← hma0] at r1
  have r3 : ¬ ((ma : Int) = 1) := by omega
  have r3b : ((ma : Int) == 1) = false := beq_eq_false_iff_ne.2 r3
  have hms : m < d.size := by omega
  clear S R hC hm1 hma0 hmb
  go_enter Try.func41, Try.ntmps41
  go_wp2
  go_loopg [14, 15] (m - a) (fun kx s10 s11 wr => ∃ (i j : Nat), s10 = .int .i64 i ∧ s11 = .int .i64 j ∧ a ≤ i ∧ i ≤ j ∧ j ≤ m ∧ j - i ≤ kx ∧ Aside (SW enc w0 blk off d wr) ∧ Hid (bs (fun h => !decide (cf d[m]! d[h]! < 0)) kx i j = bs (fun h => !decide (cf d[m]! d[h]! < 0)) (m - a) a m))
  case atStart => exact ⟨a, m, rfl, rfl, Nat.le_refl _, by omega, Nat.le_refl _, Nat.le_refl _, S0, rfl⟩
  case round =>
    clear S0 r1 r2 r3 r3b
    obtain ⟨i, j, rfl, rfl, hmi, hij, hjb, hkx, S1, heq⟩ := hrel
    by_cases hlt : i < j
    · have hltz : (i : Int) < (j : Int) := by omega
      have q1 : IntKind.i64.wrap ((i : Int) + (j : Int)) = ((i + j : Nat) : Int) := by rw [IntKind.wrap_i64]; omega
      obtain ⟨h, hh⟩ : ∃ q, q = (i + j) / 2 := ⟨_, rfl⟩
      have qh : ((i : Int) + (j : Int)) / 2 = (h : Int) := by omega
      have hih : i ≤ h := by omega
      have hhj : h < j := by omega
      obtain ⟨kk, rfl⟩ : ∃ kk, gk = kk + 1 := ⟨gk - 1, by omega⟩
      have hb2 : bs (fun h => !decide (cf d[m]! d[h]! < 0)) (kk + 1) i j = if (!decide (cf d[m]! d[h]! < 0)) = true then bs (fun h => !decide (cf d[m]! d[h]! < 0)) kk (h + 1) j else bs (fun h => !decide (cf d[m]! d[h]! < 0)) kk i h := by rw [bs, if_pos hlt, ← hh]
      have e5 : j - (h + 1) ≤ kk := by omega
      have e6 : h - i ≤ kk := by omega
      have pa : (0 : Int) ≤ (h : Int) := by omega
      have ba : (h : Int) < (d.size : Int) := by omega
      have pc : (0 : Int) ≤ (m : Int) := by omega
      have bc : (m : Int) < (d.size : Int) := by omega
      have ri : IntKind.i64.wrap ((h : Int) + 1) = ((h + 1 : Nat) : Int) := by rw [IntKind.wrap_i64]; omega
      have c1 := S1.out.c1 R0.out (by omega) h (by omega)
      have c2 := S1.out.c1 R0.out (by omega) m (by omega)
      have hc := fun n => cmpR S1.out C0.out hs.symm d[m]! d[h]! n
      have hcase : Hid (bs (fun h => !decide (cf d[m]! d[h]! < 0)) (kk + 1) i j = bs (fun h => !decide (cf d[m]! d[h]! < 0)) (m - a) a m) := heq
      clear heq hkx hh
      by_cases hcf : cf d[m]! d[h]! < 0
      · rw [if_neg (by simpa using hcf)] at hb2
        have heq2 : Hid (bs (fun h => !decide (cf d[m]! d[h]! < 0)) kk i h = bs (fun h => !decide (cf d[m]! d[h]! < 0)) (m - a) a m) := hb2.symm.trans hcase
        clear hcase hb2
        generalize cf d[m]! d[h]! = r at hc hcf
        have hcf2 : decide (r < 0) = true := decide_eq_true hcf
        have hcf3 : ¬ ((0 : Int) ≤ r) := by omega
        generalize enc d[h]! = vx at c1 hc
        generalize enc d[m]! = vy at c2 hc
        go_wp2_with fail
        go_quiet (exact Calls.quiet_of (hc _))
        have S2 : Aside (SW enc w0 blk off d (wr.drewN nq)) := S1.out.drewN nq
        clear c1 c2 hc S1
        generalize wr.drewN nq = w2 at S2 ⊢
        go_wp2
        go_roundg kk
        case measure => omega
        case rel => exact ⟨i, h, rfl, rfl, hmi, hih, by omega, e6, S2, heq2⟩
      · rw [if_pos (by simpa using hcf)] at hb2
        have heq2 : Hid (bs (fun h => !decide (cf d[m]! d[h]! < 0)) kk (h + 1) j = bs (fun h => !decide (cf d[m]! d[h]! < 0)) (m - a) a m) := hb2.symm.trans hcase
        clear hcase hb2
        generalize cf d[m]! d[h]! = r at hc hcf
        have hcf2 : decide (r < 0) = false := decide_eq_false hcf
        have hcf3 : (0 : Int) ≤ r := by omega
        have hcf4 : decide ((0 : Int) ≤ r) = true := decide_eq_true hcf3
        generalize enc d[h]! = vx at c1 hc
        generalize enc d[m]! = vy at c2 hc
        go_wp2_with fail
        go_quiet (exact Calls.quiet_of (hc _))
        have S2 : Aside (SW enc w0 blk off d (wr.drewN nq)) := S1.out.drewN nq
        clear c1 c2 hc S1
        generalize wr.drewN nq = w2 at S2 ⊢
        go_wp2
        go_roundg kk
        case measure => omega
        case rel => exact ⟨h + 1, j, by first | rfl | (simp [ri]; done), rfl, by omega, by omega, hjb, e5, S2, heq2⟩
    · obtain rfl : i = j := by omega
      have hfin : i = bs (fun h => !decide (cf d[m]! d[h]! < 0)) (m - a) a m := by
        have h2 : bs (fun h => !decide (cf d[m]! d[h]! < 0)) gk i i = bs (fun h => !decide (cf d[m]! d[h]! < 0)) (m - a) a m := heq
        rw [← h2]
        cases gk with
        | zero => rfl
        | succ g => rw [bs, if_neg (Nat.lt_irrefl _)]
      have hgoal2 : Hid (symB cf a m d = shD (m - i) m d) := by show _ = _; rw [symB, ← hfin]
      clear heq hfin hij hkx hlt
      go_wp2
      go_loopg [17] (m - i) (fun kx s13 wr => ∃ (k : Nat) (dk : Array α), s13 = .int .i64 k ∧ i ≤ k ∧ k ≤ m ∧ k - i ≤ kx ∧ dk.size = d.size ∧ Aside (SW enc w0 blk off dk wr) ∧ Hid (shD (k - i) k dk = shD (m - i) m d))
      case atStart => exact ⟨m, d, rfl, by omega, Nat.le_refl _, Nat.le_refl _, rfl, S1, rfl⟩
      case round =>
        clear S1
        obtain ⟨k, dk, rfl, hik, hkm, hkx, hds, S1, heq⟩ := hrel
        by_cases hlt : i < k
        · have hltz : (i : Int) < (k : Int) := by omega
          go_wp2_with fail
          obtain ⟨y, hy⟩ : ∃ q, q = k - 1 := ⟨_, rfl⟩
          have hr : shD (k - i) k dk = shD (y - i) y (swp dk k y) := by rw [hy, show k - i = (k - 1 - i) + 1 by omega, shD]
          have heq2 : Hid (shD (y - i) y (swp dk k y) = shD (m - i) m d) := hr.symm.trans heq
          clear heq hr
          have hxs : k < dk.size := by omega
          have hys : y < dk.size := by omega
          have rb : IntKind.i64.wrap ((k : Int) - 1) = (y : Int) := by rw [IntKind.wrap_i64]; omega
          have pa : (0 : Int) ≤ (k : Int) := by omega
          have ba : (k : Int) < (d.size : Int) := by omega
          have pc : (0 : Int) ≤ (y : Int) := by omega
          have bc : (y : Int) < (d.size : Int) := by omega
          have e1 : i ≤ y := by omega
          have e2 : y ≤ m := by omega
          have e3 : y - i < gk := by omega
          obtain ⟨vx, hvx⟩ : ∃ q, q = dk[k]! := ⟨_, rfl⟩
          obtain ⟨vy, hvy⟩ : ∃ q, q = dk[y]! := ⟨_, rfl⟩
          have S2 : Aside (SW enc w0 blk off (swp dk k y) ((wr.setCell ⟨blk, off + k, none⟩ (enc vy)).setCell ⟨blk, off + y, none⟩ (enc vx)).drew) := by rw [hvx, hvy]; exact S1.out.swapped R0.out k y hxs hys
          have c1 := S1.out.c1 R0.out (by omega) k hxs
          have c2 := S1.out.c1 R0.out (by omega) y hys
          have f1 := S1.out.f1 R0.out (by omega) k hxs
          have f2 := S1.out.f1 R0.out (by omega) y hys
          obtain ⟨u3, c3⟩ := S1.out.c2 R0.out (by omega) k y hxs hys (enc vy)
          rw [← hvx] at c1
          rw [← hvy] at c2
          clear S1 hvx hvy hy
          go_big_region_o
          clear c1 c2 c3 f1 f2
          generalize ((wr.setCell ⟨blk, off + k, none⟩ (enc vy)).setCell ⟨blk, off + y, none⟩ (enc vx)).drew = w2 at S2 ⊢
          go_wp2
          go_roundg (y - i)
          case measure => omega
          case rel => exact ⟨y, swp dk k y, by first | rfl | (simp [rb]; done), e1, e2, Nat.le_refl _, by rw [size_swp]; exact hds, S2, heq2⟩
        · obtain rfl : k = i := by omega
          have h2 : shD (k - k) k dk = shD (m - k) m d := heq
          rw [Nat.sub_self, shD] at h2
          have h3 : Hid (symB cf a m d = dk) := Eq.trans hgoal2 h2.symm
          clear heq h2 hgoal2
          go_wp2
          first | go_end0 | ((try simp only [Exit.inBlock, Exit.then]); refine bodyPost_ret (results_none rfl _ _ _) rfl ?_)
          refine ⟨rfl, ?_⟩
          rw [show symB cf a m d = dk from h3]
          exact S1.out
end Go.Proofs.Ytdhckdeojplghaa.PA
