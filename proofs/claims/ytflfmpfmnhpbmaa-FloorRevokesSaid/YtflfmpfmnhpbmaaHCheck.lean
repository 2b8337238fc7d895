/- floor.Check: whether a floor may be; walked by hand. -/
import Derived.Test.YtflfmpfmnhpbmaaPAx3
import Derived.Test.YtflfmpfmnhpbmaaHFind
import Derived.Test.YtflfmpfmnhpbmaaHSrch
import Derived.Deep.CutRange
namespace Go.Proofs.Ytflfmpfmnhpbmaa.PA
open Go.RowKit Go.Proofs.YtflfmpfmnhpbmaaW.PrintWords Go.Proofs.YtflfmpfmnhpbmaaW.PrintLast Go.Proofs.YtflfmpfmnhpbmaaW.PrintMore
set_option linter.unusedVariables false
set_option linter.unusedSimpArgs false
/-- From 0 up to another one. -/
def wiB (n m : Int) : Bool := decide (n ≥ 0) && decide (n ≤ m)
def okA (s e u l n : Int) : Bool := wiB s 2 && wiB e 1099511627776 && wiB n 1099511627776 && wiB u 2199023255552 && wiB l 2199023255552
/-- The members rise. -/
def okM : Int → List Int → Bool
  | _, [] => true
  | last, m :: r => (decide (m > last) && decide (m ≤ 1073741824)) && okM m r
/-- Those who wait. -/
def okW (mem : List Int) (h : Int) (all : List S43) : Int → Nat → List S43 → Bool
  | _, _, [] => true
  | prio, i, x :: r => (decide (x.f0 ∈ mem) && (x.f0 != h) && wiB x.f1 prio && (idxP (isWho x.f0) all 0 == (i : Int))) && okW mem h all x.f1 (i + 1) r
def okS (s e h p u l : Int) (wait : List S43) (mem : List Int) : Bool :=
  if s = 0 then decide (h = 0) && decide (p = 0) && decide (u = 0) && decide (l = 0) && decide (wait.length = 0) else decide (h ∈ mem) && wiB p 7 && decide (e > 0)
def floorOk (s e h p u l n : Int) (wait : List S43) (mem : List Int) : Bool :=
  okA s e u l n && decide (mem.length ≤ 8) && decide (wait.length ≤ 4) && okM 0 mem && okW mem h wait 7 0 wait && okS s e h p u l wait mem
def floor_Check.f (k : Nat) (s e h p u l n : Int) (wait : List S43) (mem : List Int) : Option Int := some (if floorOk s e h p u l n wait mem = true then 0 else 1)
theorem floor_Check.mono : ∀ a0 a1 a2 a3 a4 a5 a6 a7 a8 k, LeO (floor_Check.f k a0 a1 a2 a3 a4 a5 a6 a7 a8) (floor_Check.f (k + 1) a0 a1 a2 a3 a4 a5 a6 a7 a8) := fun _ _ _ _ _ _ _ _ _ _ => LeO.refl _
theorem within_any (a0 a1 : Int) (w : World) : Calls Try.prog 40 #[.int .i64 a0, .int .i64 a1] w fun e w' => e = .returned (.bool (wiB a0 a1)) ∧ Drawn0 w w' := by
  refine floor_within.calls a0 a1 (wiB a0 a1) w ?_
  unfold floor_within.f wiB
  by_cases h : a0 ≥ 0
  · rw [if_pos h, decide_eq_true h, Bool.true_and]
  · rw [if_neg h, decide_eq_false h, Bool.false_and]
theorem okM_rise (mem : List Int) : ∀ last, okM last mem = true → mem.Pairwise (· < ·) ∧ ∀ t ∈ mem, last < t ∧ t ≤ 1073741824 := by
  induction mem with
  | nil => exact fun _ _ => ⟨List.Pairwise.nil, fun t ht => by cases ht⟩
  | cons m r ih =>
    intro last h
    rw [okM, Bool.and_eq_true, Bool.and_eq_true] at h
    obtain ⟨⟨h1, h2⟩, h3⟩ := h
    have h1 := of_decide_eq_true h1
    have h2 := of_decide_eq_true h2
    obtain ⟨q1, q2⟩ := ih m h3
    refine ⟨List.pairwise_cons.2 ⟨fun t ht => (q2 t ht).1, q1⟩, fun t ht => ?_⟩
    rcases List.mem_cons.1 ht with rfl | ht
    · exact ⟨h1, h2⟩
    · exact ⟨by have := (q2 t ht).1; omega, (q2 t ht).2⟩
/-- Who is in, told whatever the rounds. -/
theorem member_any (s e h p u l n : Int) (A7 : Option Addr) (c7 : Nat) (wait : List S43) (A8 : Option Addr) (c8 : Nat) (mem : List Int) (x : Int) (w : World) (hr7 : Kd.C k43 w A7 wait.length wait) (hc7 : wait.length ≤ c7) (hr8 : Kd.C (Kd.int .i64) w A8 mem.length mem) (hc8 : mem.length ≤ c8) (hm : mem.Pairwise (· < ·)) (hl : mem.length ≤ 8) :
    Calls Try.prog 45 #[.agg #[.int .i64 s, .int .i64 e, .int .i64 h, .int .i64 p, .int .i64 u, .int .i64 l, .int .i64 n, .slice A7 wait.length c7, .slice A8 mem.length c8], .int .i64 x] w fun e' w' => e' = .returned (.bool (decide (x ∈ mem))) ∧ Below w.heap.size w w' := by
  obtain ⟨_, _, _, hev⟩ := bs_ev mem (by omega) hm x
  obtain ⟨k, hk⟩ := Ev.rounds hev
  exact floor_member.calls k s e h p u l n A7 c7 wait A8 c8 mem x (decide (x ∈ mem)) w hr7 hc7 hr8 hc8 (by unfold floor_member.f; rw [hk, Option.bind_some])
set_option maxHeartbeats 16000000 in
set_option maxRecDepth 100000 in
theorem floor_Check.calls (k : Nat) (a0_0 : Int) (a0_1 : Int) (a0_2 : Int) (a0_3 : Int) (a0_4 : Int) (a0_5 : Int) (a0_6 : Int) (A0_7 : Option Addr) (c0_7 : Nat) (l0_7 : List (S43)) (A0_8 : Option Addr) (c0_8 : Nat) (l0_8 : List Int) (r : Int) (w : World) (hr0_7 : Kd.C k43 w A0_7 l0_7.length l0_7) (hc0_7 : l0_7.length ≤ c0_7) (hr0_8 : Kd.C (Kd.int .i64) w A0_8 l0_8.length l0_8) (hc0_8 : l0_8.length ≤ c0_8) (h : floor_Check.f k a0_0 a0_1 a0_2 a0_3 a0_4 a0_5 a0_6 l0_7 l0_8 = some r) :
    Calls Try.prog 26 #[.agg #[.int .i64 a0_0, .int .i64 a0_1, .int .i64 a0_2, .int .i64 a0_3, .int .i64 a0_4, .int .i64 a0_5, .int .i64 a0_6, .slice A0_7 l0_7.length c0_7, .slice A0_8 l0_8.length c0_8]] w fun e w' => e = .returned (.int .i64 r) ∧ Below w.heap.size w w' := by
  obtain rfl := Option.some.inj h
  have HR7 := Aside0.mk hr0_7
  have HC7 := Aside0.mk hc0_7
  have HR8 := Aside0.mk hr0_8
  have HC8 := Aside0.mk hc0_8
  have HB := Aside0.mk (Below.refl w.heap.size w)
  have hL7 : l0_7.length ≤ 9223372036854775807 := hr0_7.2.1
  have hL8 : l0_8.length ≤ 9223372036854775807 := hr0_8.2.1
  obtain ⟨fin, hfin⟩ : ∃ fin, fin = floorOk a0_0 a0_1 a0_2 a0_3 a0_4 a0_5 a0_6 l0_7 l0_8 := ⟨_, rfl⟩
  rw [← hfin]
  obtain ⟨res, hres⟩ : ∃ res : Int, res = if fin = true then 0 else 1 := ⟨_, rfl⟩
  rw [← hres]
  have HRES := Aside0.mk hres
  clear hres
  have HFIN := Aside0.mk hfin
  clear h hr0_7 hc0_7 hr0_8 hc0_8 hfin
  go_enter Try.func26, Try.ntmps26
  go_upto_region 1 with ((with_reducible refine gate_dst (N := 1) rfl ?_); refine box_event ?hg (N := 1) ?hd (cs := #[.int .i64 a0_0, .int .i64 a0_1, .int .i64 a0_2, .int .i64 a0_3, .int .i64 a0_4, .int .i64 a0_5, .int .i64 a0_6, .slice A0_7 l0_7.length c0_7, .slice A0_8 l0_8.length c0_8]) (t := 28) ?hr ?_; (case hd => rfl); (case hg => rfl); (case hr => first | (go_simp; done) | (go_simp; rfl)); intro g1 hg1 w1 hbox1 hb1; have BK1 := Aside0.mk hbox1; have HB1 := Aside0.mk (below_step HB.out hb1); clear hbox1 hb1 hg1)
  (try simp only [Act.put, sA, sZ, sS])
  have hx0 : w1.cell? ⟨g1, 0, none⟩ = some (.int .i64 a0_0) := (blk_cell BK1.out 0).trans rfl
  have hx1 : w1.cell? ⟨g1, 1, none⟩ = some (.int .i64 a0_1) := (blk_cell BK1.out 1).trans rfl
  have hx4 : w1.cell? ⟨g1, 4, none⟩ = some (.int .i64 a0_4) := (blk_cell BK1.out 4).trans rfl
  have hx5 : w1.cell? ⟨g1, 5, none⟩ = some (.int .i64 a0_5) := (blk_cell BK1.out 5).trans rfl
  have hx6 : w1.cell? ⟨g1, 6, none⟩ = some (.int .i64 a0_6) := (blk_cell BK1.out 6).trans rfl
  go_cut [3] (fun v3 wc => v3 = .bool (okA a0_0 a0_1 a0_4 a0_5 a0_6) ∧ Aside0 (Drawn0 w1 wc))
  case first =>
    cases h0 : wiB a0_0 2 with
    | false =>
      have hok : okA a0_0 a0_1 a0_4 a0_5 a0_6 = false := by unfold okA; simp [h0]
      have HOK := Aside0.mk hok
      clear hok
      go_wp2_with (go_at_call 40; refine (within_any _ _ _).mono ?_; rintro e w' ⟨rfl, ⟨nd, rfl⟩⟩)
      go_meet
      case rel => exact ⟨by rw [HOK.out], Aside0.mk (by first | exact Drawn0.refl _ | exact (Drawn0.refl _).step _ | exact ((Drawn0.refl _).step _).step _ | exact (((Drawn0.refl _).step _).step _).step _ | exact ((((Drawn0.refl _).step _).step _).step _).step _ | exact (((((Drawn0.refl _).step _).step _).step _).step _).step _)⟩
    | true =>
      cases h1 : wiB a0_1 1099511627776 with
      | false =>
        have hok : okA a0_0 a0_1 a0_4 a0_5 a0_6 = false := by unfold okA; simp [h0, h1]
        have HOK := Aside0.mk hok
        clear hok
        go_wp2_with (go_at_call 40; refine (within_any _ _ _).mono ?_; rintro e w' ⟨rfl, ⟨nd, rfl⟩⟩)
        go_meet
        case rel => exact ⟨by rw [HOK.out], Aside0.mk (by first | exact Drawn0.refl _ | exact (Drawn0.refl _).step _ | exact ((Drawn0.refl _).step _).step _ | exact (((Drawn0.refl _).step _).step _).step _ | exact ((((Drawn0.refl _).step _).step _).step _).step _ | exact (((((Drawn0.refl _).step _).step _).step _).step _).step _)⟩
      | true =>
        cases h2 : wiB a0_6 1099511627776 with
        | false =>
          have hok : okA a0_0 a0_1 a0_4 a0_5 a0_6 = false := by unfold okA; simp [h0, h1, h2]
          have HOK := Aside0.mk hok
          clear hok
          go_wp2_with (go_at_call 40; refine (within_any _ _ _).mono ?_; rintro e w' ⟨rfl, ⟨nd, rfl⟩⟩)
          go_meet
          case rel => exact ⟨by rw [HOK.out], Aside0.mk (by first | exact Drawn0.refl _ | exact (Drawn0.refl _).step _ | exact ((Drawn0.refl _).step _).step _ | exact (((Drawn0.refl _).step _).step _).step _ | exact ((((Drawn0.refl _).step _).step _).step _).step _ | exact (((((Drawn0.refl _).step _).step _).step _).step _).step _)⟩
        | true =>
          cases h3 : wiB a0_4 2199023255552 with
          | false =>
            have hok : okA a0_0 a0_1 a0_4 a0_5 a0_6 = false := by unfold okA; simp [h0, h1, h2, h3]
            have HOK := Aside0.mk hok
            clear hok
            go_wp2_with (go_at_call 40; refine (within_any _ _ _).mono ?_; rintro e w' ⟨rfl, ⟨nd, rfl⟩⟩)
            go_meet
            case rel => exact ⟨by rw [HOK.out], Aside0.mk (by first | exact Drawn0.refl _ | exact (Drawn0.refl _).step _ | exact ((Drawn0.refl _).step _).step _ | exact (((Drawn0.refl _).step _).step _).step _ | exact ((((Drawn0.refl _).step _).step _).step _).step _ | exact (((((Drawn0.refl _).step _).step _).step _).step _).step _)⟩
          | true =>
            cases h4 : wiB a0_5 2199023255552 with
            | false =>
              have hok : okA a0_0 a0_1 a0_4 a0_5 a0_6 = false := by unfold okA; simp [h0, h1, h2, h3, h4]
              have HOK := Aside0.mk hok
              clear hok
              go_wp2_with (go_at_call 40; refine (within_any _ _ _).mono ?_; rintro e w' ⟨rfl, ⟨nd, rfl⟩⟩)
              go_meet
              case rel => exact ⟨by rw [HOK.out], Aside0.mk (by first | exact Drawn0.refl _ | exact (Drawn0.refl _).step _ | exact ((Drawn0.refl _).step _).step _ | exact (((Drawn0.refl _).step _).step _).step _ | exact ((((Drawn0.refl _).step _).step _).step _).step _ | exact (((((Drawn0.refl _).step _).step _).step _).step _).step _)⟩
            | true =>
              have hok : okA a0_0 a0_1 a0_4 a0_5 a0_6 = true := by unfold okA; simp [h0, h1, h2, h3, h4]
              have HOK := Aside0.mk hok
              clear hok
              go_wp2_with (go_at_call 40; refine (within_any _ _ _).mono ?_; rintro e w' ⟨rfl, ⟨nd, rfl⟩⟩)
              go_meet
              case rel => exact ⟨by rw [HOK.out], Aside0.mk (by first | exact Drawn0.refl _ | exact (Drawn0.refl _).step _ | exact ((Drawn0.refl _).step _).step _ | exact (((Drawn0.refl _).step _).step _).step _ | exact ((((Drawn0.refl _).step _).step _).step _).step _ | exact (((((Drawn0.refl _).step _).step _).step _).step _).step _)⟩
  case rest =>
    obtain ⟨rfl, HDR⟩ := hcut
    have BK2 := Aside0.mk (blk_below BK1.out HDR.out.below)
    have HB2 := Aside0.mk (below_step HB1.out HDR.out.below)
    clear hx0 hx1 hx4 hx5 hx6 HDR BK1 HB1 HB
    have hx7 : wc.cell? ⟨g1, 7, none⟩ = some (.slice A0_7 l0_7.length c0_7) := (blk_cell BK2.out 7).trans rfl
    have hx8 : wc.cell? ⟨g1, 8, none⟩ = some (.slice A0_8 l0_8.length c0_8) := (blk_cell BK2.out 8).trans rfl
    obtain ⟨oa, hoa⟩ : ∃ oa, oa = okA a0_0 a0_1 a0_4 a0_5 a0_6 := ⟨_, rfl⟩
    rw [← hoa]
    obtain ⟨ob, hob⟩ : ∃ ob, ob = (oa && decide (l0_8.length ≤ 8) && decide (l0_7.length ≤ 4)) := ⟨_, rfl⟩
    have HOA := Aside0.mk hoa
    have HOB := Aside0.mk hob
    clear hoa hob
    go_upto_region 2 with (fail)
    go_cut [3] (fun v3 wd => v3 = .bool ob ∧ wd = wc)
    case first =>
      cases oa with
      | false =>
        go_wp2
        go_meet
        case rel => exact ⟨by rw [HOB.out]; rfl, rfl⟩
      | true =>
        by_cases h8 : l0_8.length ≤ 8
        rotate_left
        · have h8z : ¬ ((l0_8.length : Int) ≤ 8) := by omega
          have h8b : decide ((l0_8.length : Int) ≤ 8) = false := decide_eq_false h8z
          have hf : ob = false := by rw [HOB.out, decide_eq_false h8]; rfl
          have HF := Aside0.mk hf
          clear hf h8
          go_wp2
          go_meet
          case rel => exact ⟨by rw [HF.out], rfl⟩
        have h8z : (l0_8.length : Int) ≤ 8 := by omega
        have h8b : decide ((l0_8.length : Int) ≤ 8) = true := decide_eq_true h8z
        by_cases h7 : l0_7.length ≤ 4
        · have h7z : (l0_7.length : Int) ≤ 4 := by omega
          have h7b : decide ((l0_7.length : Int) ≤ 4) = true := decide_eq_true h7z
          have hf : ob = true := by rw [HOB.out, decide_eq_true h8, decide_eq_true h7]; rfl
          have HF := Aside0.mk hf
          clear hf h8 h7
          go_wp2
          go_meet
          case rel => exact ⟨by rw [HF.out], rfl⟩
        · have h7z : ¬ ((l0_7.length : Int) ≤ 4) := by omega
          have h7b : decide ((l0_7.length : Int) ≤ 4) = false := decide_eq_false h7z
          have hf : ob = false := by rw [HOB.out, decide_eq_true h8, decide_eq_false h7]; rfl
          have HF := Aside0.mk hf
          clear hf h8 h7
          go_wp2
          go_meet
          case rel => exact ⟨by rw [HF.out], rfl⟩
    case rest =>
      obtain ⟨rfl, rfl⟩ := hcut
      have hx8c := hx8
      go_wp2
      obtain ⟨okm, hokm⟩ : ∃ okm, okm = (ob && okM 0 l0_8) := ⟨_, rfl⟩
      have HOKM := Aside0.mk hokm
      clear hokm
      have HRW8 := Aside0.mk (Kd.C_below HR8.out HB2.out)
      go_loopg [3, 4, 49] l0_8.length (fun kx s3 s4 s49 wr => ∃ (i : Nat) (ok : Bool) (last : Int), s3 = .bool ok ∧ s4 = .int .i64 last ∧ s49 = .int .i64 i ∧ i ≤ l0_8.length ∧ l0_8.length - i ≤ kx ∧ wr = wc ∧ Aside0 ((ok && okM last (l0_8.drop i)) = okm))
      case atStart => exact ⟨0, ob, 0, rfl, rfl, rfl, Nat.zero_le _, by omega, rfl, Aside0.mk (by rw [HOKM.out]; rfl)⟩
      case round =>
        obtain ⟨i, ok, last, rfl, rfl, rfl, hil, hkx, rfl, HQ⟩ := hrel
        by_cases hlt : i < l0_8.length
        · have hltz : (i : Int) < (l0_8.length : Int) := by omega
          have hiz : (0 : Int) ≤ (i : Int) := by omega
          obtain ⟨ad, hA, hc0⟩ := Kd.at_int HRW8.out (i : Int) hiz hltz
          subst hA
          rw [rdq l0_8 i hlt, Int.toNat_natCast] at hc0
          have hq := HQ.out
          rw [List.drop_eq_getElem_cons hlt, okM, ← Bool.and_assoc] at hq
          obtain ⟨m, hm⟩ : ∃ m, m = l0_8[i] := ⟨_, rfl⟩
          rw [← hm] at hc0 hq
          have ri : IntKind.i64.wrap ((i : Int) + 1) = ((i + 1 : Nat) : Int) := by rw [IntKind.wrap_i64]; omega
          have e5 : l0_8.length - (i + 1) < gk := by omega
          have e6 : i + 1 ≤ l0_8.length := by omega
          have HQ2 := Aside0.mk hq
          clear hq HQ hm hkx
          cases ok with
          | false =>
            go_wp2
            go_roundg (l0_8.length - (i + 1))
            case measure => exact e5
            case rel => exact ⟨i + 1, false, m, rfl, rfl, by first | rfl | (simp [ri]; done), e6, Nat.le_refl _, rfl, Aside0.mk (by rw [← HQ2.out]; simp)⟩
          | true =>
            by_cases g1 : m > last
            rotate_left
            · have gb : decide (last < m) = false := by simpa using g1
              have HG := Aside0.mk (show (decide (m > last)) = false from decide_eq_false g1)
              clear g1
              go_wp2
              go_roundg (l0_8.length - (i + 1))
              case measure => exact e5
              case rel => exact ⟨i + 1, false, m, rfl, rfl, by first | rfl | (simp [ri]; done), e6, Nat.le_refl _, rfl, Aside0.mk (by rw [← HQ2.out, HG.out]; simp)⟩
            have gb : decide (last < m) = true := by simpa using g1
            have HG := Aside0.mk (show (decide (m > last)) = true from decide_eq_true g1)
            clear g1
            by_cases g2 : m ≤ 1073741824
            · have gc : decide (m ≤ 1073741824) = true := decide_eq_true g2
              have HG2 := Aside0.mk gc
              clear g2
              go_wp2
              go_roundg (l0_8.length - (i + 1))
              case measure => exact e5
              case rel => exact ⟨i + 1, true, m, by first | rfl | (simp; done), rfl, by first | rfl | (simp [ri]; done), e6, Nat.le_refl _, rfl, Aside0.mk (by rw [← HQ2.out, HG.out, HG2.out]; simp)⟩
            · have gc : decide (m ≤ 1073741824) = false := decide_eq_false g2
              have HG2 := Aside0.mk gc
              clear g2
              go_wp2
              go_roundg (l0_8.length - (i + 1))
              case measure => exact e5
              case rel => exact ⟨i + 1, false, m, by first | rfl | (simp; done), rfl, by first | rfl | (simp [ri]; done), e6, Nat.le_refl _, rfl, Aside0.mk (by rw [← HQ2.out, HG.out, HG2.out]; simp)⟩
        · have hil2 : i = l0_8.length := by omega
          subst hil2
          have hq := HQ.out
          rw [List.drop_length, okM, Bool.and_true] at hq
          clear HQ hkx
          cases ok with
          | false =>
            have hfz : fin = false := by
              rw [HFIN.out]
              unfold floorOk
              have : (okA a0_0 a0_1 a0_4 a0_5 a0_6 && decide (l0_8.length ≤ 8) && decide (l0_7.length ≤ 4) && okM 0 l0_8) = false := by rw [← HOA.out, ← HOB.out, ← HOKM.out, ← hq]
              rw [this]
              rfl
            have HZ : Aside0 (res = 1) := Aside0.mk (by rw [HRES.out, hfz]; rfl)
            clear hfz hq
            go_wp2
            go_ret
            exact ⟨by rw [HZ.out]; rfl, HB2.out⟩
          | true =>
            have HQ := Aside0.mk hq
            clear hq
            have hboth : ob = true ∧ okM 0 l0_8 = true := by
              have := HOKM.out
              rw [← HQ.out] at this
              exact Bool.and_eq_true_iff.1 this.symm
            have hob3 : okA a0_0 a0_1 a0_4 a0_5 a0_6 = true ∧ l0_8.length ≤ 8 ∧ l0_7.length ≤ 4 := by
              have h1 := HOB.out
              rw [hboth.1, HOA.out] at h1
              have h2 := Bool.and_eq_true_iff.1 h1.symm
              have h3 := Bool.and_eq_true_iff.1 h2.1
              exact ⟨h3.1, of_decide_eq_true h3.2, of_decide_eq_true h2.2⟩
            have HLEN8 := Aside0.mk hob3.2.1
            have HLEN7 := Aside0.mk hob3.2.2
            have HOKA := Aside0.mk hob3.1
            have HM8 := Aside0.mk hboth.2
            have HRISE := Aside0.mk (okM_rise l0_8 0 hboth.2).1
            clear hboth hob3
            have hl7 : l0_7.length ≤ 4 := HLEN7.out
            go_wp2
            obtain ⟨okw, hokw⟩ : ∃ okw, okw = okW l0_8 a0_2 l0_7 7 0 l0_7 := ⟨_, rfl⟩
            have HOKW := Aside0.mk hokw
            clear hokw hx7 hx8 hx8c
            go_loopg [3, 7, 70] l0_7.length (fun kx s3 s7 s70 wr => ∃ (i : Nat) (ok : Bool) (prio : Int), s3 = .bool ok ∧ s7 = .int .i64 prio ∧ s70 = .int .i64 i ∧ i ≤ l0_7.length ∧ l0_7.length - i ≤ kx ∧ Aside0 (Below w.heap.size w wr) ∧ Aside0 (wr.heap[g1]? = some (.cells #[.int .i64 a0_0, .int .i64 a0_1, .int .i64 a0_2, .int .i64 a0_3, .int .i64 a0_4, .int .i64 a0_5, .int .i64 a0_6, .slice A0_7 l0_7.length c0_7, .slice A0_8 l0_8.length c0_8] 28 (0, 0))) ∧ Aside0 ((ok && okW l0_8 a0_2 l0_7 prio i (l0_7.drop i)) = okw))
            case atStart => exact ⟨0, true, 7, rfl, rfl, rfl, Nat.zero_le _, by omega, HB2, BK2, Aside0.mk (by rw [HOKW.out]; rfl)⟩
            case round =>
              clear HB2 BK2 HRW8 HQ
              obtain ⟨i, ok, prio, rfl, rfl, rfl, hil, hkx, HBR, HBK, HQ⟩ := hrel
              obtain ⟨hx0, hx1, hx2, hx3, hx4, hx5, hx6, hx7, hx8⟩ := cells9 HBK.out
              by_cases hlt : i < l0_7.length
              · have hltz : (i : Int) < (l0_7.length : Int) := by omega
                have hiz : (0 : Int) ≤ (i : Int) := by omega
                have HW7 := Aside0.mk (Kd.C_below HR7.out HBR.out)
                have HW8 := Aside0.mk (Kd.C_below HR8.out HBR.out)
                obtain ⟨ad, hA, hc0, hc1⟩ := at_T43 HW7.out (i : Int) hiz hltz
                subst hA
                rw [rdP l0_7 i hlt, Int.toNat_natCast] at hc0 hc1
                have hq := HQ.out
                rw [List.drop_eq_getElem_cons hlt, okW, ← Bool.and_assoc] at hq
                obtain ⟨x, hx⟩ : ∃ x, x = l0_7[i] := ⟨_, rfl⟩
                rw [← hx] at hc0 hc1 hq
                have ri : IntKind.i64.wrap ((i : Int) + 1) = ((i + 1 : Nat) : Int) := by rw [IntKind.wrap_i64]; omega
                have e5 : l0_7.length - (i + 1) < gk := by omega
                have e6 : i + 1 ≤ l0_7.length := by omega
                obtain ⟨fnd, hfnd⟩ : ∃ fnd, fnd = idxP (isWho x.f0) l0_7 0 := ⟨_, rfl⟩
                have HF : Aside0 (floor_find.f a0_0 a0_1 a0_2 a0_3 a0_4 a0_5 a0_6 l0_7 l0_8 x.f0 = some fnd) := Aside0.mk (by rw [hfnd]; rfl)
                rw [← hfnd] at hq
                have HQ2 := Aside0.mk hq
                have hne : ¬ (g1 = wr.heap.size) := Nat.ne_of_lt (blk_lt HBK.out)
                have LT1 := Aside0.mk (blk_lt HBK.out)
                have BKA := Aside0.mk (blk_below HBK.out (below_alloc (Below.refl _ wr) (.cells #[.int .i64 x.f0, .int .i64 x.f1] 43)))
                have BXA := Aside0.mk (heap_alloc_new wr (.cells #[.int .i64 x.f0, .int .i64 x.f1] 43))
                have HBA := Aside0.mk (below_alloc HBR.out (.cells #[.int .i64 x.f0, .int .i64 x.f1] 43))
                have hxA0 : ∀ o, (wr.alloc o).cell? ⟨g1, 0, none⟩ = some (.int .i64 a0_0) := fun o => ((below_alloc (Below.refl _ wr) o).cell LT1.out).trans hx0
                have hxA1 : ∀ o, (wr.alloc o).cell? ⟨g1, 1, none⟩ = some (.int .i64 a0_1) := fun o => ((below_alloc (Below.refl _ wr) o).cell LT1.out).trans hx1
                have hxA2 : ∀ o, (wr.alloc o).cell? ⟨g1, 2, none⟩ = some (.int .i64 a0_2) := fun o => ((below_alloc (Below.refl _ wr) o).cell LT1.out).trans hx2
                have hxA3 : ∀ o, (wr.alloc o).cell? ⟨g1, 3, none⟩ = some (.int .i64 a0_3) := fun o => ((below_alloc (Below.refl _ wr) o).cell LT1.out).trans hx3
                have hxA4 : ∀ o, (wr.alloc o).cell? ⟨g1, 4, none⟩ = some (.int .i64 a0_4) := fun o => ((below_alloc (Below.refl _ wr) o).cell LT1.out).trans hx4
                have hxA5 : ∀ o, (wr.alloc o).cell? ⟨g1, 5, none⟩ = some (.int .i64 a0_5) := fun o => ((below_alloc (Below.refl _ wr) o).cell LT1.out).trans hx5
                have hxA6 : ∀ o, (wr.alloc o).cell? ⟨g1, 6, none⟩ = some (.int .i64 a0_6) := fun o => ((below_alloc (Below.refl _ wr) o).cell LT1.out).trans hx6
                have hxA7 : ∀ o, (wr.alloc o).cell? ⟨g1, 7, none⟩ = some (.slice (some ad) l0_7.length c0_7) := fun o => ((below_alloc (Below.refl _ wr) o).cell LT1.out).trans hx7
                have hxA8 : ∀ o, (wr.alloc o).cell? ⟨g1, 8, none⟩ = some (.slice A0_8 l0_8.length c0_8) := fun o => ((below_alloc (Below.refl _ wr) o).cell LT1.out).trans hx8
                clear hq HQ hx hkx hfnd
                cases ok with
                | false =>
                  go_wp2
                  go_roundg (l0_7.length - (i + 1))
                  case measure => exact e5
                  case rel => exact ⟨i + 1, false, x.f1, by first | rfl | (simp; done), by first | rfl | (simp; done), by first | rfl | (simp [ri]; done), e6, Nat.le_refl _, Aside0.mk HBA.out, Aside0.mk BKA.out, Aside0.mk (by rw [← HQ2.out]; simp)⟩
                | true =>
                  cases hm : decide (x.f0 ∈ l0_8) with
                  | false =>
                    have HM := Aside0.mk hm
                    clear hm
                    have hm : decide (x.f0 ∈ l0_8) = false := HM.out
                    go_wp2_with (go_at_call 45; refine (member_any a0_0 a0_1 a0_2 a0_3 a0_4 a0_5 a0_6 (some ad) c0_7 l0_7 A0_8 c0_8 l0_8 x.f0 _ (Kd.C_alloc HW7.out _) HC7.out (Kd.C_alloc HW8.out _) HC8.out HRISE.out HLEN8.out).mono ?_; rintro e w6 ⟨rfl, hb⟩; have BK6 := Aside0.mk (blk_below BKA.out hb); have BX6 := Aside0.mk (blk_below BXA.out hb); have HB6 := Aside0.mk (below_step HBA.out hb); clear hb; obtain ⟨hy0, hy1, hy2, hy3, hy4, hy5, hy6, hy7, hy8⟩ := cells9 BK6.out; obtain ⟨hd0, hd1⟩ := cells2 BX6.out)
                    go_roundg (l0_7.length - (i + 1))
                    case measure => exact e5
                    case rel => exact ⟨i + 1, false, x.f1, by first | rfl | (simp; done), by first | rfl | (simp; done), by first | rfl | (simp [ri]; done), e6, Nat.le_refl _, Aside0.mk HB6.out, Aside0.mk BK6.out, Aside0.mk (by rw [← HQ2.out, HM.out]; simp)⟩
                  | true =>
                    have HM := Aside0.mk hm
                    cases hn : (x.f0 != a0_2) with
                    | false =>
                      have HN := Aside0.mk hn
                      go_wp2_with (go_at_call 45; refine (member_any a0_0 a0_1 a0_2 a0_3 a0_4 a0_5 a0_6 (some ad) c0_7 l0_7 A0_8 c0_8 l0_8 x.f0 _ (Kd.C_alloc HW7.out _) HC7.out (Kd.C_alloc HW8.out _) HC8.out HRISE.out HLEN8.out).mono ?_; rintro e w6 ⟨rfl, hb⟩; have BK6 := Aside0.mk (blk_below BKA.out hb); have BX6 := Aside0.mk (blk_below BXA.out hb); have HB6 := Aside0.mk (below_step HBA.out hb); clear hb; obtain ⟨hy0, hy1, hy2, hy3, hy4, hy5, hy6, hy7, hy8⟩ := cells9 BK6.out; obtain ⟨hd0, hd1⟩ := cells2 BX6.out)
                      go_roundg (l0_7.length - (i + 1))
                      case measure => exact e5
                      case rel => exact ⟨i + 1, false, x.f1, by first | rfl | (simp; done), by first | rfl | (simp; done), by first | rfl | (simp [ri]; done), e6, Nat.le_refl _, Aside0.mk HB6.out, Aside0.mk BK6.out, Aside0.mk (by rw [← HQ2.out, HM.out, HN.out]; simp)⟩
                    | true =>
                      have HN := Aside0.mk hn
                      cases hv : wiB x.f1 prio with
                      | false =>
                        have HV := Aside0.mk hv
                        go_wp2_with (first | (go_at_call 45; refine (member_any a0_0 a0_1 a0_2 a0_3 a0_4 a0_5 a0_6 (some ad) c0_7 l0_7 A0_8 c0_8 l0_8 x.f0 _ (Kd.C_alloc HW7.out _) HC7.out (Kd.C_alloc HW8.out _) HC8.out HRISE.out HLEN8.out).mono ?_; rintro e w6 ⟨rfl, hb⟩; have BK6 := Aside0.mk (blk_below BKA.out hb); have BX6 := Aside0.mk (blk_below BXA.out hb); have HB6 := Aside0.mk (below_step HBA.out hb); clear hb; obtain ⟨hy0, hy1, hy2, hy3, hy4, hy5, hy6, hy7, hy8⟩ := cells9 BK6.out; obtain ⟨hd0, hd1⟩ := cells2 BX6.out) | (go_at_call 40; refine (within_any _ _ _).mono ?_; rintro e w' ⟨rfl, ⟨nd, rfl⟩⟩))
                        go_roundg (l0_7.length - (i + 1))
                        case measure => exact e5
                        case rel => exact ⟨i + 1, false, x.f1, by first | rfl | (simp; done), by first | rfl | (simp; done), by first | rfl | (simp [ri]; done), e6, Nat.le_refl _, Aside0.mk (pw_below_drewN HB6.out _), Aside0.mk (blk_drewN BK6.out _), Aside0.mk (by rw [← HQ2.out, HM.out, HN.out, HV.out]; simp)⟩
                      | true =>
                        have HV := Aside0.mk hv
                        cases he : (fnd == (i : Int)) with
                        | false =>
                          have HE := Aside0.mk he
                          go_wp2_with (first | (go_at_call 45; refine (member_any a0_0 a0_1 a0_2 a0_3 a0_4 a0_5 a0_6 (some ad) c0_7 l0_7 A0_8 c0_8 l0_8 x.f0 _ (Kd.C_alloc HW7.out _) HC7.out (Kd.C_alloc HW8.out _) HC8.out HRISE.out HLEN8.out).mono ?_; rintro e w6 ⟨rfl, hb⟩; have BK6 := Aside0.mk (blk_below BKA.out hb); have BX6 := Aside0.mk (blk_below BXA.out hb); have HB6 := Aside0.mk (below_step HBA.out hb); clear hb; obtain ⟨hy0, hy1, hy2, hy3, hy4, hy5, hy6, hy7, hy8⟩ := cells9 BK6.out; obtain ⟨hd0, hd1⟩ := cells2 BX6.out) | (go_at_call 40; refine (within_any _ _ _).mono ?_; rintro e w' ⟨rfl, ⟨nd, rfl⟩⟩) | (go_at_call 44; refine (floor_find.calls a0_0 a0_1 a0_2 a0_3 a0_4 a0_5 a0_6 (some ad) c0_7 l0_7 A0_8 c0_8 l0_8 x.f0 fnd _ (Kd.C_drewN (Kd.C_below HR7.out HB6.out) _) HC7.out (Kd.C_drewN (Kd.C_below HR8.out HB6.out) _) HC8.out HF.out).mono ?_; rintro e w8 ⟨rfl, hb⟩; have BK8 := Aside0.mk (blk_below (blk_drewN BK6.out _) hb); have BX8 := Aside0.mk (blk_below (blk_drewN BX6.out _) hb); have HB8 := Aside0.mk (below_step (pw_below_drewN HB6.out _) hb); clear hb hd0 hd1 hy0 hy1 hy2 hy3 hy4 hy5 hy6 hy7 hy8; have hd1 : w8.cell? ⟨wr.heap.size, 1, none⟩ = some (.int .i64 x.f1) := (blk_cell BX8.out 1).trans rfl))
                          go_roundg (l0_7.length - (i + 1))
                          case measure => exact e5
                          case rel => exact ⟨i + 1, false, x.f1, by first | rfl | (simp; done), by first | rfl | (simp; done), by first | rfl | (simp [ri]; done), e6, Nat.le_refl _, Aside0.mk HB8.out, Aside0.mk BK8.out, Aside0.mk (by rw [← HQ2.out, HM.out, HN.out, HV.out, HE.out]; simp)⟩
                        | true =>
                          have HE := Aside0.mk he
                          go_wp2_with (first | (go_at_call 45; refine (member_any a0_0 a0_1 a0_2 a0_3 a0_4 a0_5 a0_6 (some ad) c0_7 l0_7 A0_8 c0_8 l0_8 x.f0 _ (Kd.C_alloc HW7.out _) HC7.out (Kd.C_alloc HW8.out _) HC8.out HRISE.out HLEN8.out).mono ?_; rintro e w6 ⟨rfl, hb⟩; have BK6 := Aside0.mk (blk_below BKA.out hb); have BX6 := Aside0.mk (blk_below BXA.out hb); have HB6 := Aside0.mk (below_step HBA.out hb); clear hb; obtain ⟨hy0, hy1, hy2, hy3, hy4, hy5, hy6, hy7, hy8⟩ := cells9 BK6.out; obtain ⟨hd0, hd1⟩ := cells2 BX6.out) | (go_at_call 40; refine (within_any _ _ _).mono ?_; rintro e w' ⟨rfl, ⟨nd, rfl⟩⟩) | (go_at_call 44; refine (floor_find.calls a0_0 a0_1 a0_2 a0_3 a0_4 a0_5 a0_6 (some ad) c0_7 l0_7 A0_8 c0_8 l0_8 x.f0 fnd _ (Kd.C_drewN (Kd.C_below HR7.out HB6.out) _) HC7.out (Kd.C_drewN (Kd.C_below HR8.out HB6.out) _) HC8.out HF.out).mono ?_; rintro e w8 ⟨rfl, hb⟩; have BK8 := Aside0.mk (blk_below (blk_drewN BK6.out _) hb); have BX8 := Aside0.mk (blk_below (blk_drewN BX6.out _) hb); have HB8 := Aside0.mk (below_step (pw_below_drewN HB6.out _) hb); clear hb hd0 hd1 hy0 hy1 hy2 hy3 hy4 hy5 hy6 hy7 hy8; have hd1 : w8.cell? ⟨wr.heap.size, 1, none⟩ = some (.int .i64 x.f1) := (blk_cell BX8.out 1).trans rfl))
                          go_roundg (l0_7.length - (i + 1))
                          case measure => exact e5
                          case rel => exact ⟨i + 1, true, x.f1, by first | rfl | (simp; done), by first | rfl | (simp; done), by first | rfl | (simp [ri]; done), e6, Nat.le_refl _, Aside0.mk HB8.out, Aside0.mk BK8.out, Aside0.mk (by rw [← HQ2.out, HM.out, HN.out, HV.out, HE.out]; simp)⟩
              · have hil2 : i = l0_7.length := by omega
                subst hil2
                have hq := HQ.out
                rw [List.drop_length, okW, Bool.and_true] at hq
                clear HQ hkx
                have hfl : floorOk a0_0 a0_1 a0_2 a0_3 a0_4 a0_5 a0_6 l0_7 l0_8 = (ok && okS a0_0 a0_1 a0_2 a0_3 a0_4 a0_5 l0_7 l0_8) := by
                  unfold floorOk
                  rw [HOKA.out, decide_eq_true HLEN8.out, decide_eq_true HLEN7.out, HM8.out, hq, HOKW.out]
                  rfl
                have HFL := Aside0.mk (HFIN.out.trans hfl)
                clear hq hfl
                have HW7 := Aside0.mk (Kd.C_below HR7.out HBR.out)
                have HW8 := Aside0.mk (Kd.C_below HR8.out HBR.out)
                cases ok with
                | false =>
                  have HZ : Aside0 (res = 1) := Aside0.mk (by rw [HRES.out, HFL.out]; rfl)
                  by_cases hs : a0_0 = 0
                  · have hsb : (a0_0 == 0) = true := by simpa using hs
                    clear hs
                    go_wp2
                    go_ret
                    exact ⟨by rw [HZ.out]; rfl, HBR.out⟩
                  · have hsb : (a0_0 == 0) = false := by simpa using hs
                    clear hs
                    go_wp2
                    go_ret
                    exact ⟨by rw [HZ.out]; rfl, HBR.out⟩
                | true =>
                  by_cases hs : a0_0 = 0
                  · have hsb : (a0_0 == 0) = true := by simpa using hs
                    have HS := Aside0.mk hs
                    clear hs
                    obtain ⟨b4, hb4⟩ : ∃ b4, b4 = (decide (a0_2 = 0) && decide (a0_3 = 0) && decide (a0_4 = 0) && decide (a0_5 = 0)) := ⟨_, rfl⟩
                    have hokS : okS a0_0 a0_1 a0_2 a0_3 a0_4 a0_5 l0_7 l0_8 = (b4 && decide (l0_7.length = 0)) := by unfold okS; rw [if_pos HS.out, hb4]
                    have heq : ∀ w, (Op.equalIn 10000 72 (.agg #[.int .i64 a0_2, .int .i64 a0_3, .int .i64 a0_4, .int .i64 a0_5]) (.agg #[.int .i64 0, .int .i64 0, .int .i64 0, .int .i64 0])).run Try.prog w = .ok b4 w := fun w => by rw [hb4]; exact eq4 _ _ _ _ w
                    have HOKS := Aside0.mk hokS
                    clear hokS hb4
                    cases b4 with
                    | false =>
                      have HZ : Aside0 (res = 1) := Aside0.mk (by rw [HRES.out, HFL.out, HOKS.out]; rfl)
                      go_wp2
                      go_ret
                      exact ⟨by rw [HZ.out]; rfl, HBR.out⟩
                    | true =>
                      by_cases hw0 : l0_7.length = 0
                      · have hzb : ((l0_7.length : Int) == 0) = true := by simp [hw0]
                        have HZ : Aside0 (res = 0) := Aside0.mk (by rw [HRES.out, HFL.out, HOKS.out, decide_eq_true hw0]; rfl)
                        clear hw0
                        go_wp2
                        go_ret
                        exact ⟨by rw [HZ.out]; rfl, HBR.out⟩
                      · have hzb : ((l0_7.length : Int) == 0) = false := by simpa using hw0
                        have HZ : Aside0 (res = 1) := Aside0.mk (by rw [HRES.out, HFL.out, HOKS.out, decide_eq_false hw0]; rfl)
                        clear hw0
                        go_wp2
                        go_ret
                        exact ⟨by rw [HZ.out]; rfl, HBR.out⟩
                  · have hsb : (a0_0 == 0) = false := by simpa using hs
                    have HS := Aside0.mk hs
                    clear hs
                    have hokS : okS a0_0 a0_1 a0_2 a0_3 a0_4 a0_5 l0_7 l0_8 = (decide (a0_2 ∈ l0_8) && wiB a0_3 7 && decide (a0_1 > 0)) := by unfold okS; rw [if_neg HS.out]
                    have HOKS := Aside0.mk hokS
                    clear hokS
                    cases hm : decide (a0_2 ∈ l0_8) with
                    | false =>
                      have HZ : Aside0 (res = 1) := Aside0.mk (by rw [HRES.out, HFL.out, HOKS.out, hm]; rfl)
                      go_wp2_with (go_at_call 45; refine (member_any a0_0 a0_1 a0_2 a0_3 a0_4 a0_5 a0_6 A0_7 c0_7 l0_7 A0_8 c0_8 l0_8 a0_2 _ HW7.out HC7.out HW8.out HC8.out HRISE.out HLEN8.out).mono ?_; rintro e w6 ⟨rfl, hb⟩; have BK6 := Aside0.mk (blk_below HBK.out hb); have HB6 := Aside0.mk (below_step HBR.out hb); clear hb; obtain ⟨hy0, hy1, hy2, hy3, hy4, hy5, hy6, hy7, hy8⟩ := cells9 BK6.out)
                      go_ret
                      exact ⟨by rw [HZ.out]; rfl, HB6.out⟩
                    | true =>
                      have HM := Aside0.mk hm
                      cases hv : wiB a0_3 7 with
                      | false =>
                        have HZ : Aside0 (res = 1) := Aside0.mk (by rw [HRES.out, HFL.out, HOKS.out, HM.out, hv]; rfl)
                        go_wp2_with (first | (go_at_call 45; refine (member_any a0_0 a0_1 a0_2 a0_3 a0_4 a0_5 a0_6 A0_7 c0_7 l0_7 A0_8 c0_8 l0_8 a0_2 _ HW7.out HC7.out HW8.out HC8.out HRISE.out HLEN8.out).mono ?_; rintro e w6 ⟨rfl, hb⟩; have BK6 := Aside0.mk (blk_below HBK.out hb); have HB6 := Aside0.mk (below_step HBR.out hb); clear hb; obtain ⟨hy0, hy1, hy2, hy3, hy4, hy5, hy6, hy7, hy8⟩ := cells9 BK6.out) | (go_at_call 40; refine (within_any _ _ _).mono ?_; rintro e w' ⟨rfl, ⟨nd, rfl⟩⟩))
                        go_ret
                        exact ⟨by rw [HZ.out]; rfl, pw_below_drewN HB6.out _⟩
                      | true =>
                        have HV := Aside0.mk hv
                        by_cases he : a0_1 > 0
                        · have heb : decide (0 < a0_1) = true := decide_eq_true he
                          have HZ : Aside0 (res = 0) := Aside0.mk (by rw [HRES.out, HFL.out, HOKS.out, HM.out, HV.out, decide_eq_true he]; rfl)
                          clear he
                          go_wp2_with (first | (go_at_call 45; refine (member_any a0_0 a0_1 a0_2 a0_3 a0_4 a0_5 a0_6 A0_7 c0_7 l0_7 A0_8 c0_8 l0_8 a0_2 _ HW7.out HC7.out HW8.out HC8.out HRISE.out HLEN8.out).mono ?_; rintro e w6 ⟨rfl, hb⟩; have BK6 := Aside0.mk (blk_below HBK.out hb); have HB6 := Aside0.mk (below_step HBR.out hb); clear hb; obtain ⟨hy0, hy1, hy2, hy3, hy4, hy5, hy6, hy7, hy8⟩ := cells9 BK6.out) | (go_at_call 40; refine (within_any _ _ _).mono ?_; rintro e w' ⟨rfl, ⟨nd, rfl⟩⟩))
                          go_ret
                          exact ⟨by rw [HZ.out]; rfl, pw_below_drewN HB6.out _⟩
                        · have heb : decide (0 < a0_1) = false := decide_eq_false he
                          have HZ : Aside0 (res = 1) := Aside0.mk (by rw [HRES.out, HFL.out, HOKS.out, HM.out, HV.out, decide_eq_false he]; rfl)
                          clear he
                          go_wp2_with (first | (go_at_call 45; refine (member_any a0_0 a0_1 a0_2 a0_3 a0_4 a0_5 a0_6 A0_7 c0_7 l0_7 A0_8 c0_8 l0_8 a0_2 _ HW7.out HC7.out HW8.out HC8.out HRISE.out HLEN8.out).mono ?_; rintro e w6 ⟨rfl, hb⟩; have BK6 := Aside0.mk (blk_below HBK.out hb); have HB6 := Aside0.mk (below_step HBR.out hb); clear hb; obtain ⟨hy0, hy1, hy2, hy3, hy4, hy5, hy6, hy7, hy8⟩ := cells9 BK6.out) | (go_at_call 40; refine (within_any _ _ _).mono ?_; rintro e w' ⟨rfl, ⟨nd, rfl⟩⟩))
                          go_ret
                          exact ⟨by rw [HZ.out]; rfl, pw_below_drewN HB6.out _⟩
end Go.Proofs.Ytflfmpfmnhpbmaa.PA
