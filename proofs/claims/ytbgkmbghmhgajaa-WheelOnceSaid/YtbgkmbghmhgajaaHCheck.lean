/- wheel.Check: whether a wheel may be; walked by hand (a map of the keys that were met). -/
import Derived.Test.YtbgkmbghmhgajaaPAx3
import Derived.Maps.OwnSet
namespace Go.Proofs.Ytbgkmbghmhgajaa.PA
open Go.RowKit Go.Proofs.YtbgkmbghmhgajaaW.PrintWords Go.Proofs.YtbgkmbghmhgajaaW.PrintLast Go.Proofs.YtbgkmbghmhgajaaW.PrintMore Go.Maps
set_option linter.unusedVariables false
set_option linter.unusedSimpArgs false
/-- The keys are numbers of 64 bits. -/
def wfK (l : List S33) : Bool := l.all fun s => (Lit.int .i64 s.f1).wf
def metK (seen : List S33) (key : Int) : Bool := seen.any fun s => s.f1 == key
/-- One timer may stand behind those that were met. -/
def stepK (a0 : Int) (seen : List S33) (x : S33) : Bool :=
  decide (x.f0 > a0) && (decide (x.f0 ≤ 2199023255552) && (decide (x.f1 ≥ 0) && (decide (x.f1 ≤ 1073741824) && !metK seen x.f1)))
def goodK (a0 : Int) : List S33 → List S33 → Bool
  | _, [] => true
  | seen, x :: r => stepK a0 seen x && goodK a0 (seen ++ [x]) r
def wheel_Check.f (k : Nat) (a0 : Int) (l : List S33) : Option Int :=
  if wfK l = true then (if a0 ≥ 0 ∧ a0 ≤ 1099511627776 ∧ (l.length : Int) ≤ 256 then (api_Timer_29.f k l).bind fun s => some (if (s && goodK a0 [] l) = true then 0 else 1) else some 1) else none
theorem wheel_Check.mono : ∀ a0 a1 k, LeO (wheel_Check.f k a0 a1) (wheel_Check.f (k + 1) a0 a1) := by
  intro a0 a1 k
  unfold wheel_Check.f
  refine LeO.ite ?_ (LeO.none _)
  refine LeO.ite ?_ (LeO.refl _)
  exact LeO.bind (api_Timer_29.mono _ _) (fun _ => LeO.refl _)
/-! ### The map -/
def boolE : Value → Option (DataW Unit × List MemPlace)
  | .bool b => some (.lit (.bool b), [])
  | _ => none
theorem boolE_inv {v : Value} {b : Bool} {ps : List MemPlace} (h : boolE v = some (.lit (.bool b), ps)) : v = .bool b := by
  unfold boolE at h
  split at h
  · simp only [Option.some.injEq, Prod.mk.injEq, DataW.lit.injEq, Lit.bool.injEq] at h
    rw [h.1]
  · exact absurd h (by simp)
theorem keyed3 : Keyed Try.prog 3 := int_keyed Try.underlying3
theorem zero4 (w : World) : (zeroValue 4).run Try.prog w = .ok (.bool false) w := by kernel_rfl
/-- Block b is a map of at most n entries; a key reads as whether it was met. -/
def MapSet (w : World) (b n : Nat) (seen : List S33) : Prop :=
  ∃ D : DataW Unit, w.ownsMap Try.prog 3 boolE b n D ∧ ∀ key : Int, D.atKey (.int .i64 key) (.lit (.bool false)) = .lit (.bool (metK seen key))
theorem MapSet.made (w : World) : MapSet (w.alloc (.map #[] 0)) w.heap.size 0 [] :=
  ⟨_, World.ownsMap_made _ _ _ _, fun key => rfl⟩
theorem MapSet.kept {w w' : World} {b n : Nat} {seen : List S33} {row : Option Nat} (h : MapSet w b n seen) (hg : w.grownBy w' row) (hne : some b ≠ row) : MapSet w' b n seen := by
  obtain ⟨D, h1, h2⟩ := h
  exact ⟨D, h1.kept hg hne, h2⟩
theorem MapSet.alloc {w : World} {b n : Nat} {seen : List S33} (h : MapSet w b n seen) (o : Obj) : MapSet (w.alloc o) b n seen := by
  obtain ⟨D, h1, h2⟩ := h
  exact ⟨D, h1.alloc o, h2⟩
theorem MapSet.lt {w : World} {b n : Nat} {seen : List S33} (h : MapSet w b n seen) : b < w.heap.size := by
  obtain ⟨D, h1, h2⟩ := h
  exact h1.lt
theorem MapSet.look {w : World} {b n : Nat} {seen : List S33} (h : MapSet w b n seen) {key : Int} (hw : (Lit.int .i64 key).wf = true) :
    (Instr.lookup 62 (.map (some b)) (.int .i64 key) false).run Try.prog w = .ok (.bool (metK seen key)) w := by
  obtain ⟨D, h1, h2⟩ := h
  obtain ⟨v, ps, hrun, hv⟩ := h1.lookup keyed3 Try.underlying62 (zero4 w) (zd := .lit (.bool false)) (zp := []) rfl (keyOf_int_mk Try.underlying3 hw)
  rw [h2] at hv
  rw [boolE_inv hv] at hrun
  exact hrun
theorem MapSet.put {w : World} {b n : Nat} {seen : List S33} (h : MapSet w b n seen) (hn : n < maxLen) {x : S33} (hw : (Lit.int .i64 x.f1).wf = true) :
    ∃ w', (Instr.mapUpdate 62 (.map (some b)) (.int .i64 x.f1) (.bool true)).run Try.prog w = .ok () w' ∧ MapSet w' b (n + 1) (seen ++ [x]) ∧ w.mapTurned w' b := by
  obtain ⟨D, h1, h2⟩ := h
  obtain ⟨w', hrun, h3, h4⟩ := h1.store keyed3 Try.underlying62 hn (keyOf_int_mk Try.underlying3 hw) (val := .bool true) (d := .lit (.bool true)) (ps := []) rfl
  refine ⟨w', hrun, ⟨_, h3, fun key => ?_⟩, h4⟩
  by_cases hk : key = x.f1
  · subst hk
    rw [atKey_put_same h1.isMap (by simp [WideAt.IsKeyLit])]
    simp [metK]
  · rw [atKey_put_other (by intro e; exact hk (by injection e)), h2]
    have : (x.f1 == key) = false := by simp; exact fun e => hk e.symm
    simp [metK, this]
/-! ### The walk -/
theorem take_next {α : Type} (l : List α) (i : Nat) (h : i < l.length) : l.take (i + 1) = l.take i ++ [l[i]] := (List.take_append_getElem h).symm
theorem wfK_at {l : List S33} (h : wfK l = true) (i : Nat) (hi : i < l.length) : (Lit.int .i64 (l[i]).f1).wf = true := List.all_eq_true.1 h _ (List.getElem_mem hi)
theorem drop_consK {α : Type} (l : List α) (i : Nat) (h : i < l.length) : l.drop i = l[i] :: l.drop (i + 1) := List.drop_eq_getElem_cons h
theorem rdT33K (l : List S33) (j : Nat) (h : j < l.length) : rd_T33 l (j : Int) = l[j] := by
  unfold rd_T33
  rw [Int.toNat_natCast, List.getD_eq_getElem?_getD, List.getElem?_eq_getElem h]; rfl
set_option maxHeartbeats 4000000 in
set_option maxRecDepth 100000 in
theorem wheel_Check.calls (k : Nat) (a0_0 : Int) (A0_1 : Option Addr) (c0_1 : Nat) (l0_1 : List S33) (r : Int) (w : World) (hr : Kd.C k33 w A0_1 l0_1.length l0_1) (hc : l0_1.length ≤ c0_1) (h : wheel_Check.f k a0_0 l0_1 = some r) :
    Calls Try.prog 18 #[.agg #[.int .i64 a0_0, .slice A0_1 l0_1.length c0_1]] w fun e w' => e = .returned (.int .i64 r) ∧ Below w.heap.size w w' := by
  have hmm := @run_makeMap Try.prog
  unfold wheel_Check.f at h
  by_cases hwf : wfK l0_1 = true
  rotate_left
  · rw [if_neg hwf] at h; exact absurd h (by simp)
  rw [if_pos hwf] at h
  -- what region 1 answers, and the world that it leaves
  have HCW := Aside0.mk (fun o => Kd.C_below hr (below_alloc (Below.refl _ w) o))
  obtain ⟨s, hs, hcall⟩ : ∃ s : Bool, r = (if (s && goodK a0_0 [] l0_1) = true then 0 else 1) ∧ (if a0_0 ≥ 0 ∧ a0_0 ≤ 1099511627776 ∧ (l0_1.length : Int) ≤ 256 then api_Timer_29.f k l0_1 = some s else s = false) := by
    by_cases hg : a0_0 ≥ 0 ∧ a0_0 ≤ 1099511627776 ∧ (l0_1.length : Int) ≤ 256
    · rw [if_pos hg] at h
      cases hf : api_Timer_29.f k l0_1 with
      | none => rw [hf] at h; exact absurd h (by simp)
      | some s => rw [hf] at h; exact ⟨s, (Option.some.inj h).symm, by rw [if_pos hg]⟩
    · rw [if_neg hg] at h
      exact ⟨false, (Option.some.inj h).symm, by rw [if_neg hg]⟩
  clear h
  have HR := Aside0.mk hr
  have HC := Aside0.mk hc
  have HR2 := Aside0.mk hs
  clear hr hc hs
  have HB := Aside0.mk (Below.refl w.heap.size w)
  by_cases hg : a0_0 ≥ 0 ∧ a0_0 ≤ 1099511627776 ∧ (l0_1.length : Int) ≤ 256
  · rw [if_pos hg] at hcall
    have HCA := Aside0.mk hcall
    clear hcall
    obtain ⟨hg1, hg2, hg3⟩ := hg
    go_enter Try.func18, Try.ntmps18
    go_wp2_with (go_at_call 29; refine (api_Timer_29.calls k _ _ _ s _ ?side1 ?side2 HCA.out).mono ?_; (case side1 => exact HCW.out _); (case side2 => exact HC.out); rintro e w2 ⟨rfl, hb2⟩; have HB2 := Aside0.mk (below_step (below_alloc HB.out _) hb2); have BK := Aside0.mk (blk_below (heap_alloc_new w _) hb2); clear hb2; have hz0 : w2.cell? ⟨w.heap.size, 0, none⟩ = some (.int .i64 a0_0) := (blk_cell BK.out 0).trans rfl; have hz1 : w2.cell? ⟨w.heap.size, 1, none⟩ = some (.slice A0_1 l0_1.length c0_1) := (blk_cell BK.out 1).trans rfl; have hzA : ∀ o, (w2.alloc o).cell? ⟨w.heap.size, 1, none⟩ = some (.slice A0_1 l0_1.length c0_1) := fun o => ((below_alloc (Below.refl _ w2) o).cell (World.block_lt_of_cell? _ _ hz1)).trans hz1)
    clear HCW
    go_loopg [3, 30] l0_1.length (fun kx s3 s30 wr => ∃ (i : Nat) (ok : Bool), s30 = .int .i64 i ∧ s3 = .bool ok ∧ i ≤ l0_1.length ∧ l0_1.length - i ≤ kx ∧ Aside0 (Below w2.heap.size w2 wr) ∧ Aside0 (MapSet wr w2.heap.size i (l0_1.take i)) ∧ Aside0 ((ok && goodK a0_0 (l0_1.take i) (l0_1.drop i)) = (s && goodK a0_0 [] l0_1)))
    case atStart => exact ⟨0, s, rfl, by first | rfl | rw [HSF.out], Nat.zero_le _, by omega, Aside0.mk (below_alloc (Below.refl _ w2) _), Aside0.mk (MapSet.made w2), Aside0.mk rfl⟩
    case round =>
      obtain ⟨i, ok, rfl, rfl, hil, hkx, HBR, HMS, HQ⟩ := hrel
      have HBW := Aside0.mk (below_step HB2.out HBR.out)
      have hL : l0_1.length ≤ 9223372036854775807 := HR.out.2.1
      have hzr : wr.cell? ⟨w.heap.size, 0, none⟩ = some (.int .i64 a0_0) := (HBR.out.cell (World.block_lt_of_cell? _ _ hz0)).trans hz0
      have hzrA : ∀ o, (wr.alloc o).cell? ⟨w.heap.size, 0, none⟩ = some (.int .i64 a0_0) := fun o => ((below_alloc (Below.refl _ wr) o).cell (World.block_lt_of_cell? _ _ hzr)).trans hzr
      clear hz0 hz1 hzA hzr
      by_cases hlt : i < l0_1.length
      · have hltz : (i : Int) < (l0_1.length : Int) := by omega
        obtain ⟨ad, hA, hc0, hc1⟩ := at_T33 HR.out (i : Int) (by omega) hltz
        subst hA
        rw [rdT33K l0_1 i hlt, Int.toNat_natCast] at hc0 hc1
        replace hc0 := (HBW.out.cell (World.block_lt_of_cell? w _ hc0)).trans hc0
        replace hc1 := (HBW.out.cell (World.block_lt_of_cell? w _ hc1)).trans hc1
        have hq := HQ.out
        rw [drop_consK l0_1 i hlt, goodK, ← Bool.and_assoc, ← take_next l0_1 i hlt] at hq
        have hwx := wfK_at hwf i hlt
        have hms := HMS.out
        have HT := Aside0.mk (take_next l0_1 i hlt)
        obtain ⟨x, hx⟩ : ∃ x, x = l0_1[i] := ⟨_, rfl⟩
        rw [← hx] at hc0 hc1 hq hwx HT
        have hlook := fun o => (hms.alloc o).look hwx
        have hput := fun o => (hms.alloc o).put (by unfold maxLen; omega) hwx
        rw [← HT.out] at hput
        obtain ⟨w3, hrunp, hms3, htu⟩ := hput (.cells #[.int .i64 x.f0, .int .i64 x.f1] 33)
        have HMS3 := Aside0.mk hms3
        have HB3 := Aside0.mk ((below_alloc HBR.out (.cells #[.int .i64 x.f0, .int .i64 x.f1] 33)).grown htu.grown (Nat.le_trans HBR.out.size (Below.alloc (Below.refl wr.heap.size wr) (Nat.le_refl _) _).size) (fun j hj => by cases hj; exact Nat.le_refl _))
        clear hms3 htu
        have pz : (0 : Int) ≤ (i : Int) := by omega
        have ri : IntKind.i64.wrap ((i : Int) + 1) = ((i + 1 : Nat) : Int) := by rw [IntKind.wrap_i64]; omega
        have e5 : l0_1.length - (i + 1) < gk := by omega
        obtain ⟨okn, hokn⟩ : ∃ okn, okn = (ok && stepK a0_0 (l0_1.take i) x) := ⟨_, rfl⟩
        rw [← hokn] at hq
        have HQ2 := Aside0.mk hq
        obtain ⟨mt, hmt⟩ : ∃ mt, mt = metK (l0_1.take i) x.f1 := ⟨_, rfl⟩
        rw [← hmt] at hlook
        unfold stepK at hokn
        rw [← hmt] at hokn
        have HMT := Aside0.mk hokn
        clear hokn hmt hq HQ hx hkx HMS hms hput HT
        have e6 : i + 1 ≤ l0_1.length := by omega
        cases ok with
        | false =>
          go_wp2
          go_roundg (l0_1.length - (i + 1))
          case measure => exact e5
          case rel => exact ⟨i + 1, okn, by first | rfl | (simp [ri]; done), by rw [HMT.out]; first | (simp [*]; done) | (simp [*]; intros; omega), e6, Nat.le_refl _, HB3, HMS3, HQ2⟩
        | true =>
          by_cases h1 : x.f0 > a0_0
          rotate_left
          · go_wp2
            go_roundg (l0_1.length - (i + 1))
            case measure => exact e5
            case rel => exact ⟨i + 1, okn, by first | rfl | (simp [ri]; done), by rw [HMT.out]; first | (simp [*]; done) | (simp [*]; intros; omega), e6, Nat.le_refl _, HB3, HMS3, HQ2⟩
          by_cases h2 : x.f0 ≤ 2199023255552
          rotate_left
          · go_wp2
            go_roundg (l0_1.length - (i + 1))
            case measure => exact e5
            case rel => exact ⟨i + 1, okn, by first | rfl | (simp [ri]; done), by rw [HMT.out]; first | (simp [*]; done) | (simp [*]; intros; omega), e6, Nat.le_refl _, HB3, HMS3, HQ2⟩
          by_cases h3 : x.f1 ≥ 0
          rotate_left
          · go_wp2
            go_roundg (l0_1.length - (i + 1))
            case measure => exact e5
            case rel => exact ⟨i + 1, okn, by first | rfl | (simp [ri]; done), by rw [HMT.out]; first | (simp [*]; done) | (simp [*]; intros; omega), e6, Nat.le_refl _, HB3, HMS3, HQ2⟩
          by_cases h4 : x.f1 ≤ 1073741824
          rotate_left
          · go_wp2
            go_roundg (l0_1.length - (i + 1))
            case measure => exact e5
            case rel => exact ⟨i + 1, okn, by first | rfl | (simp [ri]; done), by rw [HMT.out]; first | (simp [*]; done) | (simp [*]; intros; omega), e6, Nat.le_refl _, HB3, HMS3, HQ2⟩
          go_wp2
          go_roundg (l0_1.length - (i + 1))
          case measure => exact e5
          case rel => exact ⟨i + 1, okn, by first | rfl | (simp [ri]; done), by rw [HMT.out]; first | (simp [*]; done) | (simp [*]; intros; omega), e6, Nat.le_refl _, HB3, HMS3, HQ2⟩
      · have hil2 : i = l0_1.length := by omega
        have hq := HQ.out
        rw [hil2, List.drop_length, goodK, Bool.and_true] at hq
        have HR3 := Aside0.mk HR2.out
        rw [← hq] at HR3
        clear hq HQ hil2 HMS
        cases ok with
        | true =>
          go_wp2
          go_ret
          exact ⟨by rw [HR3.out]; rfl, HBW.out⟩
        | false =>
          go_wp2
          go_ret
          exact ⟨by rw [HR3.out]; rfl, HBW.out⟩
  · rw [if_neg hg] at hcall
    have HSF := Aside0.mk hcall
    clear hcall
    obtain ⟨w2, hw2⟩ : ∃ w2, w2 = w.alloc (.cells #[.int .i64 a0_0, .slice A0_1 l0_1.length c0_1] 24) := ⟨_, rfl⟩
    have hsz : w2.heap.size = w.heap.size + 1 := by rw [hw2]; simp
    have HB2 : Aside0 (Below w.heap.size w w2) := Aside0.mk (by rw [hw2]; exact below_alloc HB.out _)
    have hz0 : w2.cell? ⟨w.heap.size, 0, none⟩ = some (.int .i64 a0_0) := by rw [hw2]; exact (blk_cell (heap_alloc_new w _) 0).trans rfl
    have hz1 : w2.cell? ⟨w.heap.size, 1, none⟩ = some (.slice A0_1 l0_1.length c0_1) := by rw [hw2]; exact (blk_cell (heap_alloc_new w _) 1).trans rfl
    have hzA : ∀ o, (w2.alloc o).cell? ⟨w.heap.size, 1, none⟩ = some (.slice A0_1 l0_1.length c0_1) := fun o => ((below_alloc (Below.refl _ w2) o).cell (World.block_lt_of_cell? _ _ hz1)).trans hz1
    have HW2 := Aside0.mk hw2
    have HSZ := Aside0.mk hsz
    clear hw2 hsz
    by_cases g1 : a0_0 ≥ 0
    rotate_left
    · clear hg
      go_enter Try.func18, Try.ntmps18
      go_wp2
      simp only [← HSZ.out, ← HW2.out]
      clear HCW
      go_loopg [3, 30] l0_1.length (fun kx s3 s30 wr => ∃ (i : Nat) (ok : Bool), s30 = .int .i64 i ∧ s3 = .bool ok ∧ i ≤ l0_1.length ∧ l0_1.length - i ≤ kx ∧ Aside0 (Below w2.heap.size w2 wr) ∧ Aside0 (MapSet wr w2.heap.size i (l0_1.take i)) ∧ Aside0 ((ok && goodK a0_0 (l0_1.take i) (l0_1.drop i)) = (s && goodK a0_0 [] l0_1)))
      case atStart => exact ⟨0, s, rfl, by first | rfl | rw [HSF.out], Nat.zero_le _, by omega, Aside0.mk (below_alloc (Below.refl _ w2) _), Aside0.mk (MapSet.made w2), Aside0.mk rfl⟩
      case round =>
        obtain ⟨i, ok, rfl, rfl, hil, hkx, HBR, HMS, HQ⟩ := hrel
        have HBW := Aside0.mk (below_step HB2.out HBR.out)
        have hL : l0_1.length ≤ 9223372036854775807 := HR.out.2.1
        have hzr : wr.cell? ⟨w.heap.size, 0, none⟩ = some (.int .i64 a0_0) := (HBR.out.cell (World.block_lt_of_cell? _ _ hz0)).trans hz0
        have hzrA : ∀ o, (wr.alloc o).cell? ⟨w.heap.size, 0, none⟩ = some (.int .i64 a0_0) := fun o => ((below_alloc (Below.refl _ wr) o).cell (World.block_lt_of_cell? _ _ hzr)).trans hzr
        clear hz0 hz1 hzA hzr
        by_cases hlt : i < l0_1.length
        · have hltz : (i : Int) < (l0_1.length : Int) := by omega
          obtain ⟨ad, hA, hc0, hc1⟩ := at_T33 HR.out (i : Int) (by omega) hltz
          subst hA
          rw [rdT33K l0_1 i hlt, Int.toNat_natCast] at hc0 hc1
          replace hc0 := (HBW.out.cell (World.block_lt_of_cell? w _ hc0)).trans hc0
          replace hc1 := (HBW.out.cell (World.block_lt_of_cell? w _ hc1)).trans hc1
          have hq := HQ.out
          rw [drop_consK l0_1 i hlt, goodK, ← Bool.and_assoc, ← take_next l0_1 i hlt] at hq
          have hwx := wfK_at hwf i hlt
          have hms := HMS.out
          have HT := Aside0.mk (take_next l0_1 i hlt)
          obtain ⟨x, hx⟩ : ∃ x, x = l0_1[i] := ⟨_, rfl⟩
          rw [← hx] at hc0 hc1 hq hwx HT
          have hlook := fun o => (hms.alloc o).look hwx
          have hput := fun o => (hms.alloc o).put (by unfold maxLen; omega) hwx
          rw [← HT.out] at hput
          obtain ⟨w3, hrunp, hms3, htu⟩ := hput (.cells #[.int .i64 x.f0, .int .i64 x.f1] 33)
          have HMS3 := Aside0.mk hms3
          have HB3 := Aside0.mk ((below_alloc HBR.out (.cells #[.int .i64 x.f0, .int .i64 x.f1] 33)).grown htu.grown (Nat.le_trans HBR.out.size (Below.alloc (Below.refl wr.heap.size wr) (Nat.le_refl _) _).size) (fun j hj => by cases hj; exact Nat.le_refl _))
          clear hms3 htu
          have pz : (0 : Int) ≤ (i : Int) := by omega
          have ri : IntKind.i64.wrap ((i : Int) + 1) = ((i + 1 : Nat) : Int) := by rw [IntKind.wrap_i64]; omega
          have e5 : l0_1.length - (i + 1) < gk := by omega
          obtain ⟨okn, hokn⟩ : ∃ okn, okn = (ok && stepK a0_0 (l0_1.take i) x) := ⟨_, rfl⟩
          rw [← hokn] at hq
          have HQ2 := Aside0.mk hq
          obtain ⟨mt, hmt⟩ : ∃ mt, mt = metK (l0_1.take i) x.f1 := ⟨_, rfl⟩
          rw [← hmt] at hlook
          unfold stepK at hokn
          rw [← hmt] at hokn
          have HMT := Aside0.mk hokn
          clear hokn hmt hq HQ hx hkx HMS hms hput HT
          have e6 : i + 1 ≤ l0_1.length := by omega
          cases ok with
          | false =>
            go_wp2
            go_roundg (l0_1.length - (i + 1))
            case measure => exact e5
            case rel => exact ⟨i + 1, okn, by first | rfl | (simp [ri]; done), by rw [HMT.out]; first | (simp [*]; done) | (simp [*]; intros; omega), e6, Nat.le_refl _, HB3, HMS3, HQ2⟩
          | true =>
            by_cases h1 : x.f0 > a0_0
            rotate_left
            · go_wp2
              go_roundg (l0_1.length - (i + 1))
              case measure => exact e5
              case rel => exact ⟨i + 1, okn, by first | rfl | (simp [ri]; done), by rw [HMT.out]; first | (simp [*]; done) | (simp [*]; intros; omega), e6, Nat.le_refl _, HB3, HMS3, HQ2⟩
            by_cases h2 : x.f0 ≤ 2199023255552
            rotate_left
            · go_wp2
              go_roundg (l0_1.length - (i + 1))
              case measure => exact e5
              case rel => exact ⟨i + 1, okn, by first | rfl | (simp [ri]; done), by rw [HMT.out]; first | (simp [*]; done) | (simp [*]; intros; omega), e6, Nat.le_refl _, HB3, HMS3, HQ2⟩
            by_cases h3 : x.f1 ≥ 0
            rotate_left
            · go_wp2
              go_roundg (l0_1.length - (i + 1))
              case measure => exact e5
              case rel => exact ⟨i + 1, okn, by first | rfl | (simp [ri]; done), by rw [HMT.out]; first | (simp [*]; done) | (simp [*]; intros; omega), e6, Nat.le_refl _, HB3, HMS3, HQ2⟩
            by_cases h4 : x.f1 ≤ 1073741824
            rotate_left
            · go_wp2
              go_roundg (l0_1.length - (i + 1))
              case measure => exact e5
              case rel => exact ⟨i + 1, okn, by first | rfl | (simp [ri]; done), by rw [HMT.out]; first | (simp [*]; done) | (simp [*]; intros; omega), e6, Nat.le_refl _, HB3, HMS3, HQ2⟩
            go_wp2
            go_roundg (l0_1.length - (i + 1))
            case measure => exact e5
            case rel => exact ⟨i + 1, okn, by first | rfl | (simp [ri]; done), by rw [HMT.out]; first | (simp [*]; done) | (simp [*]; intros; omega), e6, Nat.le_refl _, HB3, HMS3, HQ2⟩
        · have hil2 : i = l0_1.length := by omega
          have hq := HQ.out
          rw [hil2, List.drop_length, goodK, Bool.and_true] at hq
          have HR3 := Aside0.mk HR2.out
          rw [← hq] at HR3
          clear hq HQ hil2 HMS
          cases ok with
          | true =>
            go_wp2
            go_ret
            exact ⟨by rw [HR3.out]; rfl, HBW.out⟩
          | false =>
            go_wp2
            go_ret
            exact ⟨by rw [HR3.out]; rfl, HBW.out⟩
    by_cases g2 : a0_0 ≤ 1099511627776
    rotate_left
    · clear hg
      go_enter Try.func18, Try.ntmps18
      go_wp2
      simp only [← HSZ.out, ← HW2.out]
      clear HCW
      go_loopg [3, 30] l0_1.length (fun kx s3 s30 wr => ∃ (i : Nat) (ok : Bool), s30 = .int .i64 i ∧ s3 = .bool ok ∧ i ≤ l0_1.length ∧ l0_1.length - i ≤ kx ∧ Aside0 (Below w2.heap.size w2 wr) ∧ Aside0 (MapSet wr w2.heap.size i (l0_1.take i)) ∧ Aside0 ((ok && goodK a0_0 (l0_1.take i) (l0_1.drop i)) = (s && goodK a0_0 [] l0_1)))
      case atStart => exact ⟨0, s, rfl, by first | rfl | rw [HSF.out], Nat.zero_le _, by omega, Aside0.mk (below_alloc (Below.refl _ w2) _), Aside0.mk (MapSet.made w2), Aside0.mk rfl⟩
      case round =>
        obtain ⟨i, ok, rfl, rfl, hil, hkx, HBR, HMS, HQ⟩ := hrel
        have HBW := Aside0.mk (below_step HB2.out HBR.out)
        have hL : l0_1.length ≤ 9223372036854775807 := HR.out.2.1
        have hzr : wr.cell? ⟨w.heap.size, 0, none⟩ = some (.int .i64 a0_0) := (HBR.out.cell (World.block_lt_of_cell? _ _ hz0)).trans hz0
        have hzrA : ∀ o, (wr.alloc o).cell? ⟨w.heap.size, 0, none⟩ = some (.int .i64 a0_0) := fun o => ((below_alloc (Below.refl _ wr) o).cell (World.block_lt_of_cell? _ _ hzr)).trans hzr
        clear hz0 hz1 hzA hzr
        by_cases hlt : i < l0_1.length
        · have hltz : (i : Int) < (l0_1.length : Int) := by omega
          obtain ⟨ad, hA, hc0, hc1⟩ := at_T33 HR.out (i : Int) (by omega) hltz
          subst hA
          rw [rdT33K l0_1 i hlt, Int.toNat_natCast] at hc0 hc1
          replace hc0 := (HBW.out.cell (World.block_lt_of_cell? w _ hc0)).trans hc0
          replace hc1 := (HBW.out.cell (World.block_lt_of_cell? w _ hc1)).trans hc1
          have hq := HQ.out
          rw [drop_consK l0_1 i hlt, goodK, ← Bool.and_assoc, ← take_next l0_1 i hlt] at hq
          have hwx := wfK_at hwf i hlt
          have hms := HMS.out
          have HT := Aside0.mk (take_next l0_1 i hlt)
          obtain ⟨x, hx⟩ : ∃ x, x = l0_1[i] := ⟨_, rfl⟩
          rw [← hx] at hc0 hc1 hq hwx HT
          have hlook := fun o => (hms.alloc o).look hwx
          have hput := fun o => (hms.alloc o).put (by unfold maxLen; omega) hwx
          rw [← HT.out] at hput
          obtain ⟨w3, hrunp, hms3, htu⟩ := hput (.cells #[.int .i64 x.f0, .int .i64 x.f1] 33)
          have HMS3 := Aside0.mk hms3
          have HB3 := Aside0.mk ((below_alloc HBR.out (.cells #[.int .i64 x.f0, .int .i64 x.f1] 33)).grown htu.grown (Nat.le_trans HBR.out.size (Below.alloc (Below.refl wr.heap.size wr) (Nat.le_refl _) _).size) (fun j hj => by cases hj; exact Nat.le_refl _))
          clear hms3 htu
          have pz : (0 : Int) ≤ (i : Int) := by omega
          have ri : IntKind.i64.wrap ((i : Int) + 1) = ((i + 1 : Nat) : Int) := by rw [IntKind.wrap_i64]; omega
          have e5 : l0_1.length - (i + 1) < gk := by omega
          obtain ⟨okn, hokn⟩ : ∃ okn, okn = (ok && stepK a0_0 (l0_1.take i) x) := ⟨_, rfl⟩
          rw [← hokn] at hq
          have HQ2 := Aside0.mk hq
          obtain ⟨mt, hmt⟩ : ∃ mt, mt = metK (l0_1.take i) x.f1 := ⟨_, rfl⟩
          rw [← hmt] at hlook
          unfold stepK at hokn
          rw [← hmt] at hokn
          have HMT := Aside0.mk hokn
          clear hokn hmt hq HQ hx hkx HMS hms hput HT
          have e6 : i + 1 ≤ l0_1.length := by omega
          cases ok with
          | false =>
            go_wp2
            go_roundg (l0_1.length - (i + 1))
            case measure => exact e5
            case rel => exact ⟨i + 1, okn, by first | rfl | (simp [ri]; done), by rw [HMT.out]; first | (simp [*]; done) | (simp [*]; intros; omega), e6, Nat.le_refl _, HB3, HMS3, HQ2⟩
          | true =>
            by_cases h1 : x.f0 > a0_0
            rotate_left
            · go_wp2
              go_roundg (l0_1.length - (i + 1))
              case measure => exact e5
              case rel => exact ⟨i + 1, okn, by first | rfl | (simp [ri]; done), by rw [HMT.out]; first | (simp [*]; done) | (simp [*]; intros; omega), e6, Nat.le_refl _, HB3, HMS3, HQ2⟩
            by_cases h2 : x.f0 ≤ 2199023255552
            rotate_left
            · go_wp2
              go_roundg (l0_1.length - (i + 1))
              case measure => exact e5
              case rel => exact ⟨i + 1, okn, by first | rfl | (simp [ri]; done), by rw [HMT.out]; first | (simp [*]; done) | (simp [*]; intros; omega), e6, Nat.le_refl _, HB3, HMS3, HQ2⟩
            by_cases h3 : x.f1 ≥ 0
            rotate_left
            · go_wp2
              go_roundg (l0_1.length - (i + 1))
              case measure => exact e5
              case rel => exact ⟨i + 1, okn, by first | rfl | (simp [ri]; done), by rw [HMT.out]; first | (simp [*]; done) | (simp [*]; intros; omega), e6, Nat.le_refl _, HB3, HMS3, HQ2⟩
            by_cases h4 : x.f1 ≤ 1073741824
            rotate_left
            · go_wp2
              go_roundg (l0_1.length - (i + 1))
              case measure => exact e5
              case rel => exact ⟨i + 1, okn, by first | rfl | (simp [ri]; done), by rw [HMT.out]; first | (simp [*]; done) | (simp [*]; intros; omega), e6, Nat.le_refl _, HB3, HMS3, HQ2⟩
            go_wp2
            go_roundg (l0_1.length - (i + 1))
            case measure => exact e5
            case rel => exact ⟨i + 1, okn, by first | rfl | (simp [ri]; done), by rw [HMT.out]; first | (simp [*]; done) | (simp [*]; intros; omega), e6, Nat.le_refl _, HB3, HMS3, HQ2⟩
        · have hil2 : i = l0_1.length := by omega
          have hq := HQ.out
          rw [hil2, List.drop_length, goodK, Bool.and_true] at hq
          have HR3 := Aside0.mk HR2.out
          rw [← hq] at HR3
          clear hq HQ hil2 HMS
          cases ok with
          | true =>
            go_wp2
            go_ret
            exact ⟨by rw [HR3.out]; rfl, HBW.out⟩
          | false =>
            go_wp2
            go_ret
            exact ⟨by rw [HR3.out]; rfl, HBW.out⟩
    have g3 : ¬ (l0_1.length : Int) ≤ 256 := fun e => hg ⟨g1, g2, e⟩
    clear hg
    go_enter Try.func18, Try.ntmps18
    go_wp2
    simp only [← HSZ.out, ← HW2.out]
    clear HCW
    go_loopg [3, 30] l0_1.length (fun kx s3 s30 wr => ∃ (i : Nat) (ok : Bool), s30 = .int .i64 i ∧ s3 = .bool ok ∧ i ≤ l0_1.length ∧ l0_1.length - i ≤ kx ∧ Aside0 (Below w2.heap.size w2 wr) ∧ Aside0 (MapSet wr w2.heap.size i (l0_1.take i)) ∧ Aside0 ((ok && goodK a0_0 (l0_1.take i) (l0_1.drop i)) = (s && goodK a0_0 [] l0_1)))
    case atStart => exact ⟨0, s, rfl, by first | rfl | rw [HSF.out], Nat.zero_le _, by omega, Aside0.mk (below_alloc (Below.refl _ w2) _), Aside0.mk (MapSet.made w2), Aside0.mk rfl⟩
    case round =>
      obtain ⟨i, ok, rfl, rfl, hil, hkx, HBR, HMS, HQ⟩ := hrel
      have HBW := Aside0.mk (below_step HB2.out HBR.out)
      have hL : l0_1.length ≤ 9223372036854775807 := HR.out.2.1
      have hzr : wr.cell? ⟨w.heap.size, 0, none⟩ = some (.int .i64 a0_0) := (HBR.out.cell (World.block_lt_of_cell? _ _ hz0)).trans hz0
      have hzrA : ∀ o, (wr.alloc o).cell? ⟨w.heap.size, 0, none⟩ = some (.int .i64 a0_0) := fun o => ((below_alloc (Below.refl _ wr) o).cell (World.block_lt_of_cell? _ _ hzr)).trans hzr
      clear hz0 hz1 hzA hzr
      by_cases hlt : i < l0_1.length
      · have hltz : (i : Int) < (l0_1.length : Int) := by omega
        obtain ⟨ad, hA, hc0, hc1⟩ := at_T33 HR.out (i : Int) (by omega) hltz
        subst hA
        rw [rdT33K l0_1 i hlt, Int.toNat_natCast] at hc0 hc1
        replace hc0 := (HBW.out.cell (World.block_lt_of_cell? w _ hc0)).trans hc0
        replace hc1 := (HBW.out.cell (World.block_lt_of_cell? w _ hc1)).trans hc1
        have hq := HQ.out
        rw [drop_consK l0_1 i hlt, goodK, ← Bool.and_assoc, ← take_next l0_1 i hlt] at hq
        have hwx := wfK_at hwf i hlt
        have hms := HMS.out
        have HT := Aside0.mk (take_next l0_1 i hlt)
        obtain ⟨x, hx⟩ : ∃ x, x = l0_1[i] := ⟨_, rfl⟩
        rw [← hx] at hc0 hc1 hq hwx HT
        have hlook := fun o => (hms.alloc o).look hwx
        have hput := fun o => (hms.alloc o).put (by unfold maxLen; omega) hwx
        rw [← HT.out] at hput
        obtain ⟨w3, hrunp, hms3, htu⟩ := hput (.cells #[.int .i64 x.f0, .int .i64 x.f1] 33)
        have HMS3 := Aside0.mk hms3
        have HB3 := Aside0.mk ((below_alloc HBR.out (.cells #[.int .i64 x.f0, .int .i64 x.f1] 33)).grown htu.grown (Nat.le_trans HBR.out.size (Below.alloc (Below.refl wr.heap.size wr) (Nat.le_refl _) _).size) (fun j hj => by cases hj; exact Nat.le_refl _))
        clear hms3 htu
        have pz : (0 : Int) ≤ (i : Int) := by omega
        have ri : IntKind.i64.wrap ((i : Int) + 1) = ((i + 1 : Nat) : Int) := by rw [IntKind.wrap_i64]; omega
        have e5 : l0_1.length - (i + 1) < gk := by omega
        obtain ⟨okn, hokn⟩ : ∃ okn, okn = (ok && stepK a0_0 (l0_1.take i) x) := ⟨_, rfl⟩
        rw [← hokn] at hq
        have HQ2 := Aside0.mk hq
        obtain ⟨mt, hmt⟩ : ∃ mt, mt = metK (l0_1.take i) x.f1 := ⟨_, rfl⟩
        rw [← hmt] at hlook
        unfold stepK at hokn
        rw [← hmt] at hokn
        have HMT := Aside0.mk hokn
        clear hokn hmt hq HQ hx hkx HMS hms hput HT
        have e6 : i + 1 ≤ l0_1.length := by omega
        cases ok with
        | false =>
          go_wp2
          go_roundg (l0_1.length - (i + 1))
          case measure => exact e5
          case rel => exact ⟨i + 1, okn, by first | rfl | (simp [ri]; done), by rw [HMT.out]; first | (simp [*]; done) | (simp [*]; intros; omega), e6, Nat.le_refl _, HB3, HMS3, HQ2⟩
        | true =>
          by_cases h1 : x.f0 > a0_0
          rotate_left
          · go_wp2
            go_roundg (l0_1.length - (i + 1))
            case measure => exact e5
            case rel => exact ⟨i + 1, okn, by first | rfl | (simp [ri]; done), by rw [HMT.out]; first | (simp [*]; done) | (simp [*]; intros; omega), e6, Nat.le_refl _, HB3, HMS3, HQ2⟩
          by_cases h2 : x.f0 ≤ 2199023255552
          rotate_left
          · go_wp2
            go_roundg (l0_1.length - (i + 1))
            case measure => exact e5
            case rel => exact ⟨i + 1, okn, by first | rfl | (simp [ri]; done), by rw [HMT.out]; first | (simp [*]; done) | (simp [*]; intros; omega), e6, Nat.le_refl _, HB3, HMS3, HQ2⟩
          by_cases h3 : x.f1 ≥ 0
          rotate_left
          · go_wp2
            go_roundg (l0_1.length - (i + 1))
            case measure => exact e5
            case rel => exact ⟨i + 1, okn, by first | rfl | (simp [ri]; done), by rw [HMT.out]; first | (simp [*]; done) | (simp [*]; intros; omega), e6, Nat.le_refl _, HB3, HMS3, HQ2⟩
          by_cases h4 : x.f1 ≤ 1073741824
          rotate_left
          · go_wp2
            go_roundg (l0_1.length - (i + 1))
            case measure => exact e5
            case rel => exact ⟨i + 1, okn, by first | rfl | (simp [ri]; done), by rw [HMT.out]; first | (simp [*]; done) | (simp [*]; intros; omega), e6, Nat.le_refl _, HB3, HMS3, HQ2⟩
          go_wp2
          go_roundg (l0_1.length - (i + 1))
          case measure => exact e5
          case rel => exact ⟨i + 1, okn, by first | rfl | (simp [ri]; done), by rw [HMT.out]; first | (simp [*]; done) | (simp [*]; intros; omega), e6, Nat.le_refl _, HB3, HMS3, HQ2⟩
      · have hil2 : i = l0_1.length := by omega
        have hq := HQ.out
        rw [hil2, List.drop_length, goodK, Bool.and_true] at hq
        have HR3 := Aside0.mk HR2.out
        rw [← hq] at HR3
        clear hq HQ hil2 HMS
        cases ok with
        | true =>
          go_wp2
          go_ret
          exact ⟨by rw [HR3.out]; rfl, HBW.out⟩
        | false =>
          go_wp2
          go_ret
          exact ⟨by rw [HR3.out]; rfl, HBW.out⟩
end Go.Proofs.Ytbgkmbghmhgajaa.PA
