/- slices.symMergeCmpFunc; walked by hand. -/
import Derived.Test.YtdhckdeojplghaaHSymB
namespace Go.Proofs.Ytdhckdeojplghaa.PA
open Go.RowKit Go.Shelf Go.Sort Go.Lib
set_option linter.unusedVariables false
set_option linter.unusedSimpArgs false
variable {α : Type} [Inhabited α]
def symS (cf : α → α → Int) (a m b : Nat) (d : Array α) : Nat :=
  if (a + b) / 2 < m then bs (fun c => !decide (cf d[(a + b) / 2 + m - 1 - c]! d[c]! < 0)) ((a + b) / 2 - ((a + b) / 2 + m - b)) ((a + b) / 2 + m - b) ((a + b) / 2)
  else bs (fun c => !decide (cf d[(a + b) / 2 + m - 1 - c]! d[c]! < 0)) (m - a) a m
def symR (m n st : Nat) (d : Array α) : Array α := if st < m ∧ m < n - st then rot m (n - st - st) (m - st) (n - st - m) d else d
def sym (cf : α → α → Int) : Nat → Nat → Nat → Nat → Array α → Array α
  | 0, _, _, _, d => d
  | k + 1, a, m, b, d =>
    if m = a + 1 then symA cf a m b d else if b = m + 1 then symB cf a m d else
      let st := symS cf a m b d
      let en := (a + b) / 2 + m - st
      let d1 := symR m ((a + b) / 2 + m) st d
      let d2 := if a < st ∧ st < (a + b) / 2 then sym cf k a st ((a + b) / 2) d1 else d1
      if (a + b) / 2 < en ∧ en < b then sym cf k ((a + b) / 2) en b d2 else d2
theorem size_symA (cf : α → α → Int) (a m b : Nat) (d : Array α) : (symA cf a m b d).size = d.size := size_shU _ _ _
theorem size_symB (cf : α → α → Int) (a m : Nat) (d : Array α) : (symB cf a m d).size = d.size := size_shD _ _ _
theorem size_symR (m n st : Nat) (d : Array α) : (symR m n st d).size = d.size := by
  unfold symR
  split
  · exact size_rot _ _ _ _ _
  · rfl
theorem size_sym (cf : α → α → Int) (k : Nat) : ∀ (a m b : Nat) (d : Array α), (sym cf k a m b d).size = d.size := by
  induction k with
  | zero => exact fun _ _ _ _ => rfl
  | succ k ih =>
    intro a m b d
    rw [sym]
    dsimp only
    split
    · exact size_symA _ _ _ _ _
    · split
      · exact size_symB _ _ _ _
      · split <;> split <;> simp only [ih, size_symR]
set_option maxHeartbeats 8000000 in
set_option maxRecDepth 1000000 in
theorem symC41 (enc : α → Value) (cf : α → α → Int) (gb blk off cap : Nat) (d0 : Array α) (w0 : World)
    (hC : CmpReads Try.prog 27 #[.pointer (some ⟨gb, 0, none⟩)] enc cf blk off d0.size w0) (R : Row1 enc w0 blk off d0) (hsz : d0.size < 65537) (K : Nat)
    (ih : ∀ (a m b : Nat) (d : Array α) (w : World), d0.size = d.size → SW enc w0 blk off d w → a < m → m < b → b ≤ d.size → b - a ≤ K →
      Calls Try.prog 41 #[.slice (some ⟨blk, off, none⟩) d.size cap, .int .i64 a, .int .i64 m, .int .i64 b, .func (.func 27) #[] #[.pointer (some ⟨gb, 0, none⟩)]] w fun e w' => e = .returned (.tuple #[]) ∧ SW enc w0 blk off (sym cf K a m b d) w')
    (a m b : Nat) (d : Array α) (w : World) (hs : d0.size = d.size) (S : SW enc w0 blk off d w) (ham : a < m) (hmb : m < b) (hb : b ≤ d.size) (hK : b - a ≤ K + 1) (hn1 : ¬ m = a + 1) (hn2 : ¬ b = m + 1) :
    Calls Try.prog 41 #[.slice (some ⟨blk, off, none⟩) d.size cap, .int .i64 a, .int .i64 m, .int .i64 b, .func (.func 27) #[] #[.pointer (some ⟨gb, 0, none⟩)]] w fun e w' => e = .returned (.tuple #[]) ∧ SW enc w0 blk off (sym cf (K + 1) a m b d) w' := by
  have u22 := Try.underlying22
  have hcl0 := R.hO.cells
  simp only [Value.cells] at hcl0
  have hst := R.hO.store Try.prog
  have mixed : Try.prog.follows .mixedOrders = true := lay20.mixed
  have S0 : Aside (SW enc w0 blk off d w) := S
  have R0 : Aside (Row1 enc w0 blk off d0) := R
  have C0 : Aside (CmpReads Try.prog 27 #[.pointer (some ⟨gb, 0, none⟩)] enc cf blk off d0.size w0) := hC
  have I0 : Aside _ := ih
  clear S R hC ih
  obtain ⟨mid, hmid⟩ : ∃ q, q = (a + b) / 2 := ⟨_, rfl⟩
  obtain ⟨nn, hnn⟩ : ∃ q, q = mid + m := ⟨_, rfl⟩
  obtain ⟨p, hp⟩ : ∃ q, q = nn - 1 := ⟨_, rfl⟩
  have r1 : IntKind.i64.wrap ((m : Int) - (a : Int)) = ((m - a : Nat) : Int) := by rw [IntKind.wrap_i64]; omega
  have r2 : IntKind.i64.wrap ((b : Int) - (m : Int)) = ((b - m : Nat) : Int) := by rw [IntKind.wrap_i64]; omega
  obtain ⟨ma, hma0⟩ : ∃ q, q = m - a := ⟨_, rfl⟩
  obtain ⟨bm, hbm0⟩ : ∃ q, q = b - m := ⟨_, rfl⟩
  rw [← hma0] at r1
  rw [← hbm0] at r2
  have r3 : ¬ ((ma : Int) = 1) := by omega
  have r3b : ((ma : Int) == 1) = false := beq_eq_false_iff_ne.2 r3
  have r4 : ¬ ((bm : Int) = 1) := by omega
  have r4b : ((bm : Int) == 1) = false := beq_eq_false_iff_ne.2 r4
  have r5 : IntKind.i64.wrap ((a : Int) + (b : Int)) = ((a + b : Nat) : Int) := by rw [IntKind.wrap_i64]; omega
  have r6 : ((a : Int) + (b : Int)) / 2 = (mid : Int) := by omega
  have r7 : IntKind.i64.wrap ((mid : Int) + (m : Int)) = (nn : Int) := by rw [IntKind.wrap_i64]; omega
  have r8 : IntKind.i64.wrap ((nn : Int) - 1) = (p : Int) := by rw [IntKind.wrap_i64]; omega
  obtain ⟨s0, hs0⟩ : ∃ q, q = if mid < m then nn - b else a := ⟨_, rfl⟩
  obtain ⟨r0, hr0⟩ : ∃ q, q = if mid < m then mid else m := ⟨_, rfl⟩
  obtain ⟨st, hst0⟩ : ∃ q, q = bs (fun c => !decide (cf d[p - c]! d[c]! < 0)) (r0 - s0) s0 r0 := ⟨_, rfl⟩
  have hmids : a < mid ∧ mid < b := by omega
  have two : (mid < m ∧ s0 = nn - b ∧ r0 = mid) ∨ (¬ mid < m ∧ s0 = a ∧ r0 = m) := by
    by_cases h : mid < m
    · rw [if_pos h] at hs0 hr0
      exact .inl ⟨h, hs0, hr0⟩
    · rw [if_neg h] at hs0 hr0
      exact .inr ⟨h, hs0, hr0⟩
  have hstS : st = symS cf a m b d := by
    rw [hst0, hs0, hr0, hp, hnn, hmid, symS]
    split <;> rfl
  have hsr : s0 ≤ r0 := by omega
  have hstr : s0 ≤ st ∧ st ≤ r0 := by rw [hst0]; exact bs_range _ _ _ _ hsr
  have hpc : ∀ c, s0 ≤ c → c < r0 → c ≤ p ∧ p - c < b ∧ c < b := by
    intro c h1 h2
    omega
  have hr0b : r0 < 65537 ∧ r0 ≤ nn ∧ a ≤ s0 ∧ nn - s0 ≤ b := by rcases two with ⟨_, h1, h2⟩ | ⟨_, h1, h2⟩ <;> (rw [h1, h2]; omega)
  clear two
  have hp2 : p < 200000 := by omega
  have hs0n : st ≤ nn := Nat.le_trans hstr.2 hr0b.2.1
  have hsta : a ≤ st := Nat.le_trans hr0b.2.2.1 hstr.1
  have hk2 : mid - a ≤ K := by omega
  have hk3 : b - mid ≤ K := by omega
  have hdz : d.size < 4611686018427387904 := by omega
  obtain ⟨en, hen⟩ : ∃ q, q = nn - st := ⟨_, rfl⟩
  have henb : en ≤ b := by rw [hen]; exact Nat.le_trans (Nat.sub_le_sub_left hstr.1 nn) hr0b.2.2.2
  have hnnb : nn < 200000 := by omega
  have r9 : IntKind.i64.wrap ((nn : Int) - (st : Int)) = (en : Int) := by clear hpc hstS hst0 hs0 hr0; rw [IntKind.wrap_i64]; omega
  obtain ⟨D1, hD1⟩ : ∃ q, q = symR m nn st d := ⟨_, rfl⟩
  obtain ⟨D2, hD2⟩ : ∃ q, q = if a < st ∧ st < mid then sym cf K a st mid D1 else D1 := ⟨_, rfl⟩
  obtain ⟨D3, hD3⟩ : ∃ q, q = if mid < en ∧ en < b then sym cf K mid en b D2 else D2 := ⟨_, rfl⟩
  have hall : sym cf (K + 1) a m b d = D3 := by
    rw [sym, if_neg hn1, if_neg hn2]
    dsimp only
    rw [← hstS, ← hmid, ← hnn, ← hen, ← hD1, ← hD2, ← hD3]
  have z1 : D1.size = d.size := by rw [hD1]; exact size_symR _ _ _ _
  have z2 : D2.size = d.size := by rw [hD2]; split <;> simp only [size_sym, z1]
  have n1 : ¬ (st < m ∧ m < en) → D1 = d := fun h => by rw [hD1, symR, ← hen, if_neg h]
  have n2 : ¬ (a < st ∧ st < mid) → D2 = D1 := fun h => by rw [hD2, if_neg h]
  have n3 : ¬ (mid < en ∧ en < b) → D3 = D2 := fun h => by rw [hD3, if_neg h]
  have k1 : st < m → m < en → ∀ W, SW enc w0 blk off d W → Calls Try.prog 42 #[.slice (some ⟨blk, off, none⟩) d.size cap, .int .i64 st, .int .i64 m, .int .i64 en, .func (.func 27) #[] #[.pointer (some ⟨gb, 0, none⟩)]] W fun e w' => e = .returned (.tuple #[]) ∧ SW enc w0 blk off D1 w' := by
    intro h1 h2 W hW
    have := rot42 enc (.func (.func 27) #[] #[.pointer (some ⟨gb, 0, none⟩)]) blk off cap st m en d0 d w0 W R0.out hs hW h1 h2 (Nat.le_trans henb hb) hdz
    rw [hD1, symR, ← hen, if_pos ⟨h1, h2⟩]
    exact this
  have k2 : a < st → st < mid → ∀ W, SW enc w0 blk off D1 W → Calls Try.prog 41 #[.slice (some ⟨blk, off, none⟩) d.size cap, .int .i64 a, .int .i64 st, .int .i64 mid, .func (.func 27) #[] #[.pointer (some ⟨gb, 0, none⟩)]] W fun e w' => e = .returned (.tuple #[]) ∧ SW enc w0 blk off D2 w' := by
    intro h1 h2 W hW
    have := I0 a st mid D1 W (hs.trans z1.symm) hW h1 h2 (by rw [z1]; exact Nat.le_trans (Nat.le_of_lt hmids.2) hb) hk2
    rw [z1] at this
    rw [hD2, if_pos ⟨h1, h2⟩]
    exact this
  have k3 : mid < en → en < b → ∀ W, SW enc w0 blk off D2 W → Calls Try.prog 41 #[.slice (some ⟨blk, off, none⟩) d.size cap, .int .i64 mid, .int .i64 en, .int .i64 b, .func (.func 27) #[] #[.pointer (some ⟨gb, 0, none⟩)]] W fun e w' => e = .returned (.tuple #[]) ∧ SW enc w0 blk off D3 w' := by
    intro h1 h2 W hW
    have := I0 mid en b D2 W (hs.trans z2.symm) hW h1 h2 (by rw [z2]; exact hb) hk3
    rw [z2] at this
    rw [hD3, if_pos ⟨h1, h2⟩]
    exact this
  rw [hall]
  have HP : Aside (∀ c, s0 ≤ c → c < r0 → c ≤ p ∧ p - c < b ∧ c < b) := hpc
  have K1 : Aside _ := k1
  have K2 : Aside _ := k2
  have K3 : Aside _ := k3
  have N1 : Aside _ := n1
  have N2 : Aside _ := n2
  have N3 : Aside _ := n3
  have HST : Hid (st = bs (fun c => !decide (cf d[p - c]! d[c]! < 0)) (r0 - s0) s0 r0) := hst0
  have hnnb : nn < 200000 := by omega
  have HSR : Aside (s0 ≤ r0 ∧ st ≤ nn ∧ r0 < 65537 ∧ p < 200000) := ⟨hsr, hs0n, hr0b.1, hp2⟩
  clear k1 k2 k3 n1 n2 n3 hpc hst0 hstS hall hD1 hD2 hD3 z1 z2 I0 hen hK hn1 hn2 hma0 hbm0 hr0b hp2 hk2 hk3 hdz hsr hstr hs0n hsta henb hmids hnnb
  have HMID : Hid (mid = (a + b) / 2) := hmid
  by_cases hmm : mid < m
  · rw [if_pos hmm] at hs0 hr0
    have hmz : (mid : Int) < (m : Int) := by omega
    have r10 : IntKind.i64.wrap ((nn : Int) - (b : Int)) = (s0 : Int) := by rw [IntKind.wrap_i64]; omega
    rw [hr0] at HST HP HSR
    clear hs0 hnn hmid hp hmm hr0
    go_enter Try.func41, Try.ntmps41
    go_wp2
    go_loopg [20, 21] (mid - s0) (fun kx s20 s21 wr => ∃ (i j : Nat), s20 = .int .i64 i ∧ s21 = .int .i64 j ∧ s0 ≤ i ∧ i ≤ j ∧ j ≤ mid ∧ j - i ≤ kx ∧ Aside (SW enc w0 blk off d wr) ∧ Hid (bs (fun c => !decide (cf d[p - c]! d[c]! < 0)) kx i j = bs (fun c => !decide (cf d[p - c]! d[c]! < 0)) (mid - s0) s0 mid))
    case atStart => exact ⟨s0, mid, by first | rfl | simp, by first | rfl | simp, Nat.le_refl _, HSR.out.1, Nat.le_refl _, Nat.le_refl _, S0, rfl⟩
    case round =>
      clear S0 r1 r2 r3 r3b r4 r4b r5 r6 r7 r8
      obtain ⟨i, j, rfl, rfl, hsi, hij, hjr, hkx, S1, heq⟩ := hrel
      by_cases hlt : i < j
      · have hltz : (i : Int) < (j : Int) := by omega
        have hj6 : j < 65537 := Nat.lt_of_le_of_lt hjr HSR.out.2.2.1
        have q1 : IntKind.i64.wrap ((i : Int) + (j : Int)) = ((i + j : Nat) : Int) := by rw [IntKind.wrap_i64]; omega
        obtain ⟨h, hh⟩ : ∃ q, q = (i + j) / 2 := ⟨_, rfl⟩
        have qh : ((i : Int) + (j : Int)) / 2 = (h : Int) := by omega
        have hih : i ≤ h := by omega
        have hhj : h < j := by omega
        obtain ⟨kk, rfl⟩ : ∃ kk, gk = kk + 1 := ⟨gk - 1, by omega⟩
        obtain ⟨t1, t2, t3⟩ := HP.out h (Nat.le_trans hsi hih) (Nat.lt_of_lt_of_le hhj hjr)
        have hp6 := HSR.out.2.2.2
        obtain ⟨ph, hph⟩ : ∃ q, q = p - h := ⟨_, rfl⟩
        have hb2 : bs (fun c => !decide (cf d[p - c]! d[c]! < 0)) (kk + 1) i j = if (!decide (cf d[ph]! d[h]! < 0)) = true then bs (fun c => !decide (cf d[p - c]! d[c]! < 0)) kk (h + 1) j else bs (fun c => !decide (cf d[p - c]! d[c]! < 0)) kk i h := by rw [bs, if_pos hlt, ← hh, ← hph]
        have e5 : j - (h + 1) ≤ kk := by omega
        have e6 : h - i ≤ kk := by omega
        have qp : IntKind.i64.wrap ((p : Int) - (h : Int)) = (ph : Int) := by rw [IntKind.wrap_i64]; omega
        rw [← hph] at t2
        have pa : (0 : Int) ≤ (h : Int) := by omega
        have ba : (h : Int) < (d.size : Int) := by omega
        have pc : (0 : Int) ≤ (ph : Int) := by omega
        have bc : (ph : Int) < (d.size : Int) := by omega
        have ri : IntKind.i64.wrap ((h : Int) + 1) = ((h + 1 : Nat) : Int) := by rw [IntKind.wrap_i64]; omega
        have c1 := S1.out.c1 R0.out hs.symm h (Nat.lt_of_lt_of_le t3 hb)
        have c2 := S1.out.c1 R0.out hs.symm ph (Nat.lt_of_lt_of_le t2 hb)
        have hc := fun n => cmpR S1.out C0.out hs.symm d[ph]! d[h]! n
        have hcase : Hid (bs (fun c => !decide (cf d[p - c]! d[c]! < 0)) (kk + 1) i j = bs (fun c => !decide (cf d[p - c]! d[c]! < 0)) (mid - s0) s0 mid) := heq
        have e7 : s0 ≤ h + 1 := by omega
        have e8 : h ≤ mid := by omega
        clear heq hkx hh hph hj6 hp6 t1 t2 t3
        by_cases hcf : cf d[ph]! d[h]! < 0
        · rw [if_neg (by simpa using hcf)] at hb2
          have heq2 : Hid (bs (fun c => !decide (cf d[p - c]! d[c]! < 0)) kk i h = bs (fun c => !decide (cf d[p - c]! d[c]! < 0)) (mid - s0) s0 mid) := hb2.symm.trans hcase
          clear hcase hb2
          generalize cf d[ph]! d[h]! = r at hc hcf
          have hcf2 : decide (r < 0) = true := decide_eq_true hcf
          have hcf3 : ¬ ((0 : Int) ≤ r) := by omega
          generalize enc d[h]! = vx at c1 hc
          generalize enc d[ph]! = vy at c2 hc
          go_wp2_with fail
          go_quiet (exact Calls.quiet_of (hc _))
          have S2 : Aside (SW enc w0 blk off d (wr.drewN nq)) := S1.out.drewN nq
          clear c1 c2 hc S1
          generalize wr.drewN nq = w2 at S2 ⊢
          go_wp2
          go_roundg kk
          case measure => omega
          case rel => exact ⟨i, h, rfl, rfl, hsi, hih, e8, e6, S2, heq2⟩
        · rw [if_pos (by simpa using hcf)] at hb2
          have heq2 : Hid (bs (fun c => !decide (cf d[p - c]! d[c]! < 0)) kk (h + 1) j = bs (fun c => !decide (cf d[p - c]! d[c]! < 0)) (mid - s0) s0 mid) := hb2.symm.trans hcase
          clear hcase hb2
          generalize cf d[ph]! d[h]! = r at hc hcf
          have hcf2 : decide (r < 0) = false := decide_eq_false hcf
          have hcf3 : (0 : Int) ≤ r := by omega
          have hcf4 : decide ((0 : Int) ≤ r) = true := decide_eq_true hcf3
          generalize enc d[h]! = vx at c1 hc
          generalize enc d[ph]! = vy at c2 hc
          go_wp2_with fail
          go_quiet (exact Calls.quiet_of (hc _))
          have S2 : Aside (SW enc w0 blk off d (wr.drewN nq)) := S1.out.drewN nq
          clear c1 c2 hc S1
          generalize wr.drewN nq = w2 at S2 ⊢
          go_wp2
          go_roundg kk
          case measure => omega
          case rel => exact ⟨h + 1, j, by first | rfl | (simp [ri]; done), rfl, e7, hhj, hjr, e5, S2, heq2⟩
      · obtain rfl : i = j := by omega
        have hfin : i = st := by
          rw [show st = bs (fun c => !decide (cf d[p - c]! d[c]! < 0)) (mid - s0) s0 mid from HST]
          have h2 : bs (fun c => !decide (cf d[p - c]! d[c]! < 0)) gk i i = bs (fun c => !decide (cf d[p - c]! d[c]! < 0)) (mid - s0) s0 mid := heq
          rw [← h2]
          cases gk with
          | zero => rfl
          | succ g => rw [bs, if_neg (Nat.lt_irrefl _)]
        subst hfin
        have SC : Aside (SW enc w0 blk off d wr) := S1
        clear S1 heq hkx hsi hjr hij HST HP HSR C0
        go_wp2_with (first
          | (go_at_call 42; refine (K1.out (by omega) (by omega) _ SC.out).mono ?_; rintro e w' ⟨rfl, SN⟩; clear SC; have SC : Aside (SW enc w0 blk off D1 w') := SN; clear SN)
          | (go_at_call 41; (with_reducible show Calls _ _ #[_, .int .i64 (a : Int), _, _, _] _ _); refine (K2.out (by omega) (by omega) _ (by first | exact SC.out | (rw [N1.out (by omega)]; exact SC.out))).mono ?_; rintro e w' ⟨rfl, SN⟩; clear SC; have SC : Aside (SW enc w0 blk off D2 w') := SN; clear SN)
          | (go_at_call 41; (with_reducible show Calls _ _ #[_, .int .i64 (mid : Int), _, _, _] _ _); refine (K3.out (by omega) (by omega) _ (by first | exact SC.out | (rw [N2.out (by omega)]; first | exact SC.out | (rw [N1.out (by omega)]; exact SC.out)))).mono ?_; rintro e w' ⟨rfl, SN⟩; clear SC; have SC : Aside (SW enc w0 blk off D3 w') := SN; clear SN))
        all_goals (go_end0; refine ⟨rfl, ?_⟩; first | exact SC.out | (rw [N3.out (by omega)]; first | exact SC.out | (rw [N2.out (by omega)]; first | exact SC.out | (rw [N1.out (by omega)]; exact SC.out))))
  · rw [if_neg hmm] at hs0 hr0
    have hmz : ¬ ((mid : Int) < (m : Int)) := by omega
    have es : Hid (s0 = a) := hs0
    have er : Hid (r0 = m) := hr0
    clear hnn hmid hp hmm
    rw [hs0, hr0] at HST HP HSR
    clear hs0 hr0
    go_enter Try.func41, Try.ntmps41
    go_wp2
    go_loopg [20, 21] (m - a) (fun kx s20 s21 wr => ∃ (i j : Nat), s20 = .int .i64 i ∧ s21 = .int .i64 j ∧ a ≤ i ∧ i ≤ j ∧ j ≤ m ∧ j - i ≤ kx ∧ Aside (SW enc w0 blk off d wr) ∧ Hid (bs (fun c => !decide (cf d[p - c]! d[c]! < 0)) kx i j = bs (fun c => !decide (cf d[p - c]! d[c]! < 0)) (m - a) a m))
    case atStart => exact ⟨a, m, by first | rfl | simp, by first | rfl | simp, Nat.le_refl _, HSR.out.1, Nat.le_refl _, Nat.le_refl _, S0, rfl⟩
    case round =>
      clear S0 r1 r2 r3 r3b r4 r4b r5 r6 r7 r8
      obtain ⟨i, j, rfl, rfl, hsi, hij, hjr, hkx, S1, heq⟩ := hrel
      by_cases hlt : i < j
      · have hltz : (i : Int) < (j : Int) := by omega
        have hj6 : j < 65537 := Nat.lt_of_le_of_lt hjr HSR.out.2.2.1
        have q1 : IntKind.i64.wrap ((i : Int) + (j : Int)) = ((i + j : Nat) : Int) := by rw [IntKind.wrap_i64]; omega
        obtain ⟨h, hh⟩ : ∃ q, q = (i + j) / 2 := ⟨_, rfl⟩
        have qh : ((i : Int) + (j : Int)) / 2 = (h : Int) := by omega
        have hih : i ≤ h := by omega
        have hhj : h < j := by omega
        obtain ⟨kk, rfl⟩ : ∃ kk, gk = kk + 1 := ⟨gk - 1, by omega⟩
        obtain ⟨t1, t2, t3⟩ := HP.out h (Nat.le_trans hsi hih) (Nat.lt_of_lt_of_le hhj hjr)
        have hp6 := HSR.out.2.2.2
        obtain ⟨ph, hph⟩ : ∃ q, q = p - h := ⟨_, rfl⟩
        have hb2 : bs (fun c => !decide (cf d[p - c]! d[c]! < 0)) (kk + 1) i j = if (!decide (cf d[ph]! d[h]! < 0)) = true then bs (fun c => !decide (cf d[p - c]! d[c]! < 0)) kk (h + 1) j else bs (fun c => !decide (cf d[p - c]! d[c]! < 0)) kk i h := by rw [bs, if_pos hlt, ← hh, ← hph]
        have e5 : j - (h + 1) ≤ kk := by omega
        have e6 : h - i ≤ kk := by omega
        have qp : IntKind.i64.wrap ((p : Int) - (h : Int)) = (ph : Int) := by rw [IntKind.wrap_i64]; omega
        rw [← hph] at t2
        have pa : (0 : Int) ≤ (h : Int) := by omega
        have ba : (h : Int) < (d.size : Int) := by omega
        have pc : (0 : Int) ≤ (ph : Int) := by omega
        have bc : (ph : Int) < (d.size : Int) := by omega
        have ri : IntKind.i64.wrap ((h : Int) + 1) = ((h + 1 : Nat) : Int) := by rw [IntKind.wrap_i64]; omega
        have c1 := S1.out.c1 R0.out hs.symm h (Nat.lt_of_lt_of_le t3 hb)
        have c2 := S1.out.c1 R0.out hs.symm ph (Nat.lt_of_lt_of_le t2 hb)
        have hc := fun n => cmpR S1.out C0.out hs.symm d[ph]! d[h]! n
        have hcase : Hid (bs (fun c => !decide (cf d[p - c]! d[c]! < 0)) (kk + 1) i j = bs (fun c => !decide (cf d[p - c]! d[c]! < 0)) (m - a) a m) := heq
        have e7 : a ≤ h + 1 := by omega
        have e8 : h ≤ m := by omega
        clear heq hkx hh hph hj6 hp6 t1 t2 t3
        by_cases hcf : cf d[ph]! d[h]! < 0
        · rw [if_neg (by simpa using hcf)] at hb2
          have heq2 : Hid (bs (fun c => !decide (cf d[p - c]! d[c]! < 0)) kk i h = bs (fun c => !decide (cf d[p - c]! d[c]! < 0)) (m - a) a m) := hb2.symm.trans hcase
          clear hcase hb2
          generalize cf d[ph]! d[h]! = r at hc hcf
          have hcf2 : decide (r < 0) = true := decide_eq_true hcf
          have hcf3 : ¬ ((0 : Int) ≤ r) := by omega
          generalize enc d[h]! = vx at c1 hc
          generalize enc d[ph]! = vy at c2 hc
          go_wp2_with fail
          go_quiet (exact Calls.quiet_of (hc _))
          have S2 : Aside (SW enc w0 blk off d (wr.drewN nq)) := S1.out.drewN nq
          clear c1 c2 hc S1
          generalize wr.drewN nq = w2 at S2 ⊢
          go_wp2
          go_roundg kk
          case measure => omega
          case rel => exact ⟨i, h, rfl, rfl, hsi, hih, e8, e6, S2, heq2⟩
        · rw [if_pos (by simpa using hcf)] at hb2
          have heq2 : Hid (bs (fun c => !decide (cf d[p - c]! d[c]! < 0)) kk (h + 1) j = bs (fun c => !decide (cf d[p - c]! d[c]! < 0)) (m - a) a m) := hb2.symm.trans hcase
          clear hcase hb2
          generalize cf d[ph]! d[h]! = r at hc hcf
          have hcf2 : decide (r < 0) = false := decide_eq_false hcf
          have hcf3 : (0 : Int) ≤ r := by omega
          have hcf4 : decide ((0 : Int) ≤ r) = true := decide_eq_true hcf3
          generalize enc d[h]! = vx at c1 hc
          generalize enc d[ph]! = vy at c2 hc
          go_wp2_with fail
          go_quiet (exact Calls.quiet_of (hc _))
          have S2 : Aside (SW enc w0 blk off d (wr.drewN nq)) := S1.out.drewN nq
          clear c1 c2 hc S1
          generalize wr.drewN nq = w2 at S2 ⊢
          go_wp2
          go_roundg kk
          case measure => omega
          case rel => exact ⟨h + 1, j, by first | rfl | (simp [ri]; done), rfl, e7, hhj, hjr, e5, S2, heq2⟩
      · obtain rfl : i = j := by omega
        have hfin : i = st := by
          rw [show st = bs (fun c => !decide (cf d[p - c]! d[c]! < 0)) (m - a) a m from HST]
          have h2 : bs (fun c => !decide (cf d[p - c]! d[c]! < 0)) gk i i = bs (fun c => !decide (cf d[p - c]! d[c]! < 0)) (m - a) a m := heq
          rw [← h2]
          cases gk with
          | zero => rfl
          | succ g => rw [bs, if_neg (Nat.lt_irrefl _)]
        subst hfin
        have SC : Aside (SW enc w0 blk off d wr) := S1
        clear S1 heq hkx hsi hjr hij HST HP HSR C0
        go_wp2_with (first
          | (go_at_call 42; refine (K1.out (by omega) (by omega) _ SC.out).mono ?_; rintro e w' ⟨rfl, SN⟩; clear SC; have SC : Aside (SW enc w0 blk off D1 w') := SN; clear SN)
          | (go_at_call 41; (with_reducible show Calls _ _ #[_, .int .i64 (a : Int), _, _, _] _ _); refine (K2.out (by omega) (by omega) _ (by first | exact SC.out | (rw [N1.out (by omega)]; exact SC.out))).mono ?_; rintro e w' ⟨rfl, SN⟩; clear SC; have SC : Aside (SW enc w0 blk off D2 w') := SN; clear SN)
          | (go_at_call 41; (with_reducible show Calls _ _ #[_, .int .i64 (mid : Int), _, _, _] _ _); refine (K3.out (by omega) (by omega) _ (by first | exact SC.out | (rw [N2.out (by omega)]; first | exact SC.out | (rw [N1.out (by omega)]; exact SC.out)))).mono ?_; rintro e w' ⟨rfl, SN⟩; clear SC; have SC : Aside (SW enc w0 blk off D3 w') := SN; clear SN))
        all_goals (go_end0; refine ⟨rfl, ?_⟩; first | exact SC.out | (rw [N3.out (by omega)]; first | exact SC.out | (rw [N2.out (by omega)]; first | exact SC.out | (rw [N1.out (by omega)]; exact SC.out))))
end Go.Proofs.Ytdhckdeojplghaa.PA
