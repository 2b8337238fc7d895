/- slices.stableCmpFunc and SortStableFunc, of whatever length; walked by hand. -/
import Derived.Test.YtdhckdeojplghaaHSymC
namespace Go.Proofs.Ytdhckdeojplghaa.PA
open Go.RowKit Go.Shelf Go.Sort Go.Lib
set_option linter.unusedVariables false
set_option linter.unusedSimpArgs false
variable {α : Type} [Inhabited α]
theorem sym41 (enc : α → Value) (cf : α → α → Int) (gb blk off cap : Nat) (d0 : Array α) (w0 : World)
    (hC : CmpReads Try.prog 27 #[.pointer (some ⟨gb, 0, none⟩)] enc cf blk off d0.size w0) (R : Row1 enc w0 blk off d0) (hsz : d0.size < 65537) (K : Nat) : ∀ (a m b : Nat) (d : Array α) (w : World), d0.size = d.size → SW enc w0 blk off d w → a < m → m < b → b ≤ d.size → b - a ≤ K →
      Calls Try.prog 41 #[.slice (some ⟨blk, off, none⟩) d.size cap, .int .i64 a, .int .i64 m, .int .i64 b, .func (.func 27) #[] #[.pointer (some ⟨gb, 0, none⟩)]] w fun e w' => e = .returned (.tuple #[]) ∧ SW enc w0 blk off (sym cf K a m b d) w' := by
  induction K with
  | zero => intro a m b d w hs S h1 h2 h3 h4; omega
  | succ K ih =>
    intro a m b d w hs S h1 h2 h3 h4
    by_cases e1 : m = a + 1
    · have h := symA41 enc cf gb blk off cap a m b d0 d w0 w hC R hs S e1 h2 h3 (by omega)
      rw [sym, if_pos e1]
      exact h
    · by_cases e2 : b = m + 1
      · have h := symB41 enc cf gb blk off cap a m b d0 d w0 w hC R hs S h1 e1 e2 h3 (by omega)
        rw [sym, if_neg e1, if_pos e2]
        exact h
      · exact symC41 enc cf gb blk off cap d0 w0 hC R hsz K ih a m b d w hs S h1 h2 h3 h4 e1 e2
def insB (cf : α → α → Int) (n : Nat) : Nat → Nat → Array α → Array α
  | 0, a, d => Sort.insertionSort (ltOf cf) d a n
  | k + 1, a, d => if a + 20 ≤ n then insB cf n k (a + 20) (Sort.insertionSort (ltOf cf) d a (a + 20)) else Sort.insertionSort (ltOf cf) d a n
def mrg (cf : α → α → Int) (n z : Nat) : Nat → Nat → Array α → Array α
  | 0, a, d => if a + z < n then sym cf (n - a) a (a + z) n d else d
  | k + 1, a, d => if a + 2 * z ≤ n then mrg cf n z k (a + 2 * z) (sym cf (2 * z) a (a + z) (a + 2 * z) d) else if a + z < n then sym cf (n - a) a (a + z) n d else d
def stb (cf : α → α → Int) (n : Nat) : Nat → Nat → Array α → Array α
  | 0, _, d => d
  | k + 1, z, d => if z < n then stb cf n k (2 * z) (mrg cf n z n 0 d) else d
def stableL (cf : α → α → Int) (n : Nat) (d : Array α) : Array α := stb cf n n 20 (insB cf n n 0 d)
theorem size_insInner (lt : α → α → Bool) (a : Nat) : ∀ (j : Nat) (d : Array α), (insInner lt a j d).size = d.size := by
  intro j
  induction j with
  | zero => exact fun _ => rfl
  | succ j ih =>
    intro d
    rw [insInner]
    split
    · rw [ih, size_swp]
    · rfl
theorem size_insOuter (lt : α → α → Bool) (a b : Nat) (q : Nat) : ∀ (i : Nat) (d : Array α), b - i ≤ q → (insOuter lt a b i d).size = d.size := by
  induction q with
  | zero => intro i d h; rw [insOuter_stop _ _ _ _ _ (by omega)]
  | succ q ih =>
    intro i d h
    by_cases hi : i < b
    · rw [insOuter_go _ _ _ _ _ hi, ih _ _ (by omega), size_insInner]
    · rw [insOuter_stop _ _ _ _ _ hi]
theorem size_ins (lt : α → α → Bool) (d : Array α) (a b : Nat) : (Sort.insertionSort lt d a b).size = d.size := size_insOuter lt a b _ _ d (Nat.le_refl _)
theorem size_mrg (cf : α → α → Int) (n z : Nat) (k : Nat) : ∀ (a : Nat) (d : Array α), (mrg cf n z k a d).size = d.size := by
  induction k with
  | zero => intro a d; rw [mrg]; split <;> simp only [size_sym]
  | succ k ih =>
    intro a d
    rw [mrg]
    split
    · rw [ih, size_sym]
    · split <;> simp only [size_sym]
set_option maxHeartbeats 8000000 in
set_option maxRecDepth 1000000 in
theorem stb34 (enc : α → Value) (cf : α → α → Int) (gb blk off cap : Nat) (d0 d : Array α) (w0 w : World)
    (hC : CmpReads Try.prog 27 #[.pointer (some ⟨gb, 0, none⟩)] enc cf blk off d0.size w0) (R : Row1 enc w0 blk off d0) (hsz : d0.size < 65537) (hs : d0.size = d.size) (S : SW enc w0 blk off d w) :
    Calls Try.prog 34 #[.slice (some ⟨blk, off, none⟩) d.size cap, .int .i64 d.size, .func (.func 27) #[] #[.pointer (some ⟨gb, 0, none⟩)]] w fun e w' => e = .returned (.tuple #[]) ∧ SW enc w0 blk off (stableL cf d.size d) w' := by
  have eg : ∀ args w, (callFunc 27 args).run Try.prog w = .ok (.enter 27 args) w := enters_of Try.func27 (by kernel_rfl) rfl
  have hins : ∀ (a b : Nat) (dk : Array α) (W : World), dk.size = d.size → SW enc w0 blk off dk W → a ≤ b → b ≤ d.size → Calls Try.prog 40 #[.slice (some ⟨blk, off, none⟩) d.size cap, .int .i64 a, .int .i64 b, .func (.func 27) #[] #[.pointer (some ⟨gb, 0, none⟩)]] W fun e w' => e = .returned (.tuple #[]) ∧ SW enc w0 blk off (Sort.insertionSort (ltOf cf) dk a b) w' := by
    intro a b dk W hk hW h1 h2
    have := Any.insertionSortCmpFunc_s lay20 enc cf 27 #[.pointer (some ⟨gb, 0, none⟩)] blk off cap a b d0 dk w0 W eg hC.lays R (hs.trans hk.symm) hW h1 (by rw [hk]; exact h2) (by rw [hk, ← hs]; omega)
    rw [hk] at this
    exact this
  have hsym : ∀ (a m b : Nat) (dk : Array α) (W : World), dk.size = d.size → SW enc w0 blk off dk W → a < m → m < b → b ≤ d.size → Calls Try.prog 41 #[.slice (some ⟨blk, off, none⟩) d.size cap, .int .i64 a, .int .i64 m, .int .i64 b, .func (.func 27) #[] #[.pointer (some ⟨gb, 0, none⟩)]] W fun e w' => e = .returned (.tuple #[]) ∧ SW enc w0 blk off (sym cf (b - a) a m b dk) w' := by
    intro a m b dk W hk hW h1 h2 h3
    have := sym41 enc cf gb blk off cap d0 w0 hC R hsz (b - a) a m b dk W (hs.trans hk.symm) hW h1 h2 (by rw [hk]; exact h3) (Nat.le_refl _)
    rw [hk] at this
    exact this
  have S0 : Aside (SW enc w0 blk off d w) := S
  have I0 : Aside _ := hins
  have M0 : Aside _ := hsym
  obtain ⟨n, hn⟩ : ∃ q, q = d.size := ⟨_, rfl⟩
  have hn6 : n < 65537 := by omega
  rw [← hn] at I0 M0 ⊢
  have DS : Hid (d.size = n) := hn.symm
  clear hins hsym S hs hC R hsz hn
  go_enter Try.func34, Try.ntmps34
  go_wp2
  go_loopg [7, 8] n (fun kx s7 s8 wr => ∃ (a : Nat) (dk : Array α), s7 = .int .i64 a ∧ s8 = .int .i64 ((a + 20 : Nat) : Int) ∧ a ≤ n ∧ n - a ≤ kx ∧ Hid (dk.size = n) ∧ Aside (SW enc w0 blk off dk wr) ∧ Hid (insB cf n kx a dk = insB cf n n 0 d))
  case atStart => exact ⟨0, d, rfl, rfl, Nat.zero_le _, by omega, DS, S0, rfl⟩
  case round =>
    clear S0
    obtain ⟨a, dk, rfl, rfl, han, hkx, hds, S1, heq⟩ := hrel
    obtain ⟨b, hb⟩ : ∃ q, q = a + 20 := ⟨_, rfl⟩
    rw [← hb]
    by_cases hlt : b ≤ n
    · have hltz : (b : Int) ≤ (n : Int) := by omega
      obtain ⟨kk, rfl⟩ : ∃ kk, gk = kk + 1 := ⟨gk - 1, by omega⟩
      have hr : insB cf n (kk + 1) a dk = insB cf n kk b (Sort.insertionSort (ltOf cf) dk a b) := by rw [insB, ← hb, if_pos hlt]
      have heq2 : Hid (insB cf n kk b (Sort.insertionSort (ltOf cf) dk a b) = insB cf n n 0 d) := hr.symm.trans heq
      have hz2 : Hid ((Sort.insertionSort (ltOf cf) dk a b).size = n) := (size_ins _ _ _ _).trans hds
      have hc := I0.out a b dk wr hds S1.out (by omega) (by exact hlt)
      have rb : IntKind.i64.wrap ((b : Int) + 20) = ((b + 20 : Nat) : Int) := by rw [IntKind.wrap_i64]; omega
      have e5 : n - b ≤ kk := by omega
      clear heq hr hkx hb S1
      generalize Sort.insertionSort (ltOf cf) dk a b = dn at hc heq2 hz2
      go_wp2_with (go_at_call 40; refine hc.mono ?_; rintro e w' ⟨rfl, S2⟩)
      go_roundg kk
      case measure => omega
      case rel => exact ⟨b, dn, rfl, by first | rfl | (simp [rb]; done), hlt, e5, hz2, S2, heq2⟩
    · have hltz : ¬ ((b : Int) ≤ (n : Int)) := by omega
      have hr : insB cf n gk a dk = Sort.insertionSort (ltOf cf) dk a n := by
        cases gk with
        | zero => rfl
        | succ g => rw [insB, ← hb, if_neg hlt]
      have hD : Hid (Sort.insertionSort (ltOf cf) dk a n = insB cf n n 0 d) := hr.symm.trans heq
      have hz2 : Hid ((Sort.insertionSort (ltOf cf) dk a n).size = n) := (size_ins _ _ _ _).trans hds
      have hc := I0.out a n dk wr hds S1.out (by omega) (by exact Nat.le_refl _)
      clear heq hr hkx hb S1
      generalize Sort.insertionSort (ltOf cf) dk a n = d1 at hc hD hz2
      have hgoal : stableL cf n d = stb cf n n 20 d1 := by rw [show d1 = insB cf n n 0 d from hD]; rfl
      have HG : Hid (stableL cf n d = stb cf n n 20 d1) := hgoal
      clear hgoal
      go_wp2_with (go_at_call 40; refine hc.mono ?_; rintro e w1 ⟨rfl, S2⟩)
      clear hc hltz hlt han I0
      go_loopg [6] n (fun kx s6 wr2 => ∃ (z : Nat) (dz : Array α), s6 = .int .i64 z ∧ 20 ≤ z ∧ z < 200000 ∧ n - z ≤ kx ∧ Hid (dz.size = n) ∧ Aside (SW enc w0 blk off dz wr2) ∧ Hid (stb cf n kx z dz = stb cf n n 20 d1))
      case atStart => exact ⟨20, d1, rfl, by omega, by omega, by omega, hz2, S2, rfl⟩
      case round =>
        clear S2 hz2 hD
        obtain ⟨z, dz, rfl, hz20, hz6, hkz, hdz, S3, heqz⟩ := hrel
        by_cases hzn : z < n
        · have hznz : (z : Int) < (n : Int) := by omega
          obtain ⟨kz, rfl⟩ : ∃ kz, gk = kz + 1 := ⟨gk - 1, by omega⟩
          have hr : stb cf n (kz + 1) z dz = stb cf n kz (2 * z) (mrg cf n z n 0 dz) := by rw [stb, if_pos hzn]
          have heq2 : Hid (stb cf n kz (2 * z) (mrg cf n z n 0 dz) = stb cf n n 20 d1) := hr.symm.trans heqz
          obtain ⟨zz, hzz⟩ : ∃ q, q = 2 * z := ⟨_, rfl⟩
          rw [← hzz] at heq2
          have rz : IntKind.i64.wrap (2 * (z : Int)) = (zz : Int) := by rw [IntKind.wrap_i64]; omega
          have rz2 : IntKind.i64.wrap ((z : Int) * 2) = (zz : Int) := by rw [IntKind.wrap_i64]; omega
          have e1 : 20 ≤ zz := by omega
          have e2 : zz < 200000 := by omega
          have e3 : n - zz ≤ kz := by omega
          have HZ : Hid (zz = 2 * z) := hzz
          clear heqz hr hkz hzz
          go_wp2
          go_loopg [7, 8] n (fun kx s7 s8 wr3 => ∃ (a2 b2 : Nat) (d3 : Array α), s7 = .int .i64 a2 ∧ s8 = .int .i64 b2 ∧ Hid (b2 = a2 + zz) ∧ a2 ≤ n ∧ b2 < 400000 ∧ n - a2 ≤ kx ∧ Hid (d3.size = n) ∧ Aside (SW enc w0 blk off d3 wr3) ∧ Hid (mrg cf n z kx a2 d3 = mrg cf n z n 0 dz))
          case atStart => exact ⟨0, zz, dz, rfl, rfl, (Nat.zero_add zz).symm, Nat.zero_le _, by omega, by omega, hdz, S3, rfl⟩
          case round =>
            clear S3
            obtain ⟨a2, b2, d3, rfl, rfl, hb2, han2, hb24, hkx2, hds3, S4, heq3⟩ := hrel
            have hb2e : b2 = a2 + zz := hb2
            have hzze : zz = 2 * z := HZ
            obtain ⟨m2, hm2⟩ : ∃ q, q = a2 + z := ⟨_, rfl⟩
            have rm : IntKind.i64.wrap ((a2 : Int) + (z : Int)) = (m2 : Int) := by rw [IntKind.wrap_i64]; omega
            have rb2 : IntKind.i64.wrap ((b2 : Int) + (zz : Int)) = ((b2 + zz : Nat) : Int) := by rw [IntKind.wrap_i64]; omega
            by_cases hlt2 : b2 ≤ n
            · have hlt2z : (b2 : Int) ≤ (n : Int) := by omega
              obtain ⟨k3, rfl⟩ : ∃ k3, gk = k3 + 1 := ⟨gk - 1, by omega⟩
              have hr3 : mrg cf n z (k3 + 1) a2 d3 = mrg cf n z k3 b2 (sym cf (b2 - a2) a2 m2 b2 d3) := by rw [mrg, ← hzze, ← hb2e, if_pos hlt2, ← hm2, show b2 - a2 = zz by omega]
              have heq4 : Hid (mrg cf n z k3 b2 (sym cf (b2 - a2) a2 m2 b2 d3) = mrg cf n z n 0 dz) := hr3.symm.trans heq3
              have hz4 : Hid ((sym cf (b2 - a2) a2 m2 b2 d3).size = n) := (size_sym _ _ _ _ _ _).trans hds3
              have hc := M0.out a2 m2 b2 d3 wr hds3 S4.out (by omega) (by omega) hlt2
              have e7 : n - b2 ≤ k3 := by omega
              have e8 : b2 + zz < 400000 := by omega
              clear heq3 hr3 hkx2 hb2e hzze hm2 hb2 S4
              generalize sym cf (b2 - a2) a2 m2 b2 d3 = dn at hc heq4 hz4
              go_wp2_with (go_at_call 41; refine hc.mono ?_; rintro e w' ⟨rfl, S5⟩)
              go_roundg k3
              case measure => omega
              case rel => exact ⟨b2, b2 + zz, dn, rfl, by first | rfl | (simp [rb2]; done), rfl, hlt2, e8, e7, hz4, S5, heq4⟩
            · have hlt2z : ¬ ((b2 : Int) ≤ (n : Int)) := by omega
              by_cases hm3 : m2 < n
              · have hm3z : (m2 : Int) < (n : Int) := by omega
                have hr3 : mrg cf n z gk a2 d3 = sym cf (n - a2) a2 m2 n d3 := by
                  cases gk with
                  | zero => rw [mrg, ← hm2, if_pos hm3]
                  | succ g => rw [mrg, ← hzze, ← hb2e, if_neg hlt2, ← hm2, if_pos hm3]
                have hfin : Hid (sym cf (n - a2) a2 m2 n d3 = mrg cf n z n 0 dz) := hr3.symm.trans heq3
                have hz4 : Hid ((sym cf (n - a2) a2 m2 n d3).size = n) := (size_sym _ _ _ _ _ _).trans hds3
                have hc := M0.out a2 m2 n d3 wr hds3 S4.out (by omega) hm3 (Nat.le_refl _)
                clear heq3 hr3 hkx2 hb2e hzze hm2 hb2 S4
                have hfin2 : sym cf (n - a2) a2 m2 n d3 = mrg cf n z n 0 dz := hfin
                rw [hfin2] at hc
                have hz5 : Hid ((mrg cf n z n 0 dz).size = n) := by rw [← hfin2]; exact hz4
                clear hfin hfin2 hz4
                generalize mrg cf n z n 0 dz = dn at hc heq2 hz5
                go_wp2_with (go_at_call 41; refine hc.mono ?_; rintro e w' ⟨rfl, S5⟩)
                go_roundg kz
                case measure => omega
                case rel => exact ⟨zz, dn, by first | rfl | (simp [rz2]; done), e1, e2, e3, hz5, S5, heq2⟩
              · have hm3z : ¬ ((m2 : Int) < (n : Int)) := by omega
                have hr3 : mrg cf n z gk a2 d3 = d3 := by
                  cases gk with
                  | zero => rw [mrg, ← hm2, if_neg hm3]
                  | succ g => rw [mrg, ← hzze, ← hb2e, if_neg hlt2, ← hm2, if_neg hm3]
                have hfin : d3 = mrg cf n z n 0 dz := hr3.symm.trans heq3
                rw [← hfin] at heq2
                clear heq3 hr3 hkx2 hb2e hzze hm2 hb2 hfin
                go_wp2
                go_roundg kz
                case measure => omega
                case rel => exact ⟨zz, d3, by first | rfl | (simp [rz2]; done), e1, e2, e3, hds3, S4, heq2⟩
        · have hznz : ¬ ((z : Int) < (n : Int)) := by omega
          have hr : stb cf n gk z dz = dz := by
            cases gk with
            | zero => rfl
            | succ g => rw [stb, if_neg hzn]
          have hfin : Hid (stableL cf n d = dz) := Eq.trans HG (Eq.trans (Eq.symm heqz) hr)
          clear heqz hr hkz HG
          go_wp2
          go_end0
          refine ⟨rfl, ?_⟩
          rw [show stableL cf n d = dz from hfin]
          exact S3.out
set_option maxHeartbeats 4000000 in
set_option maxRecDepth 100000 in
theorem stb26 (enc : α → Value) (cf : α → α → Int) (gb blk off cap : Nat) (d0 d : Array α) (w0 w : World)
    (hC : CmpReads Try.prog 27 #[.pointer (some ⟨gb, 0, none⟩)] enc cf blk off d0.size w0) (R : Row1 enc w0 blk off d0) (hsz : d0.size < 65537) (hs : d0.size = d.size) (S : SW enc w0 blk off d w) :
    Calls Try.prog 26 #[.slice (some ⟨blk, off, none⟩) d.size cap, .func (.func 27) #[] #[.pointer (some ⟨gb, 0, none⟩)]] w fun e w' => e = .returned (.tuple #[]) ∧ SW enc w0 blk off (stableL cf d.size d) w' := by
  have hcon := stb34 enc cf gb blk off cap d0 d w0 w hC R hsz hs S
  clear S hC R hs
  generalize stableL cf d.size d = r at hcon ⊢
  generalize d.size = m at hcon ⊢
  go_enter Try.func26, Try.ntmps26
  go_wp2_with (go_at_call 34; refine hcon.mono ?_; rintro e w' ⟨rfl, S2⟩)
  go_end0
  exact ⟨rfl, S2⟩
end Go.Proofs.Ytdhckdeojplghaa.PA
