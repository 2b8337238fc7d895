/- JitterOnce: the law's own walk; by hand. -/
import Derived.Test.YtkjgibdbbklejaaJtR
import Derived.Test.YtkjgibdbbklejaaHLivh
import Derived.Test.YtkjgibdbbklejaaHEqJ
namespace Go.Proofs.Ytkjgibdbbklejaa.PA
open Go.RowKit Go.Proofs.YtkjgibdbbklejaaW.PrintWords Go.Proofs.YtkjgibdbbklejaaW.PrintLast Go.Proofs.YtkjgibdbbklejaaW.PrintMore Go.Proofs.Ytkjgibdbbklejaa.Jt
set_option linter.unusedVariables false
set_option linter.unusedSimpArgs false
theorem rdO (l : List S31) (j : Nat) (h : j < l.length) : rd_T31 l (j : Int) = l[j] := by
  unfold rd_T31
  rw [Int.toNat_natCast, List.getD_eq_getElem?_getD, List.getElem?_eq_getElem h]; rfl
theorem depth_b (d : Int) : 1 ≤ wrap64 (1 + Int.tmod (wrap64 (Int.tmod d 16 + 16)) 16) ∧ wrap64 (1 + Int.tmod (wrap64 (Int.tmod d 16 + 16)) 16) ≤ 16 := by
  have := tmod_pos (a := d) (m := 16) (by decide) (by decide)
  rw [w64 (1 + _) (by omega) (by omega)]
  omega
def squelchlaw13_JitterOnce.f (k : Nat) (d : Int) (l : List S31) : Option Bool := some true
def Good31 (y : S31) : Prop := (y.f0.length * 32 ≤ 140737488351232 ∧ y.f0.length ≤ 9223372036854775807 ∧ ∀ p ∈ y.f0, ((Lit.int .i64 p.f0).wf = true ∧ (p.f1.length * 1 ≤ 140737488351232 ∧ p.f1.length ≤ 9223372036854775807 ∧ ∀ b ∈ p.f1, (Lit.int .u8 b).wf = true))) ∧ (Lit.int .i64 y.f1).wf = true
set_option maxHeartbeats 16000000 in
set_option maxRecDepth 100000 in
theorem squelchlaw13_JitterOnce.calls (k : Nat) (dep : Int) (A0 : Option Addr) (c0 : Nat) (l0 : List S31) (r : Bool) (w : World) (hr0 : Kd.C k31 w A0 l0.length l0) (hc0 : l0.length ≤ c0) (hgd : ∀ y ∈ l0, Good31 y) (h : squelchlaw13_JitterOnce.f k dep l0 = some r) (hr_ : r = true) :
    Calls Try.prog 3 #[.int .i64 dep, .slice A0 l0.length c0] w fun e w' => e = .returned (.bool r) ∧ Below w.heap.size w w' := by
  subst hr_
  have HR0 := aM hr0
  have HC0 := aM hc0
  have HGD := aM hgd
  have HB := aM (Below.refl w.heap.size w)
  clear hr0 hc0 h hgd
  by_cases hlen : (l0.length : Int) ≤ 20
  rotate_left
  · have hlb : decide (20 < (l0.length : Int)) = true := decide_eq_true (by omega)
    clear hlen
    go_enter Try.func3, Try.ntmps3
    go_wp2_with (go_at_call 8; refine (live_calls _).mono ?_; rintro e w1 ⟨rfl, hb⟩; have HB1 := aM (below_step HB.out hb); clear hb)
    go_ret
    exact ⟨rfl, HB1.out⟩
  have hlb : decide (20 < (l0.length : Int)) = false := decide_eq_false (by omega)
  have HLEN := aM hlen
  clear hlen
  have HDB := aM (depth_b dep)
  have HN : Aside0 (jitter_New.f (wrap64 (1 + Int.tmod (wrap64 (Int.tmod dep 16 + 16)) 16)) = some (false, 0, wrap64 (1 + Int.tmod (wrap64 (Int.tmod dep 16 + 16)) 16), 0, [], 0)) := aM (new_f HDB.out.1 HDB.out.2)
  go_enter Try.func3, Try.ntmps3
  go_upto_region 7 with (first | (go_at_call 8; refine (live_calls _).mono ?_; rintro e w1 ⟨rfl, hb⟩; have HB1 := aM (below_step HB.out hb); clear hb) | (go_at_call 9; refine (jitter_New.calls _ _ _ _ _ _ _ _ HN.out).mono ?_; rintro e w2 ⟨v4, rfl, hv, hb⟩; have HB2 := aM (below_step HB1.out hb); have HV2 := aM (Kd.R_mono (Kd.R_bound (Kd.S_R hv)) (fun k hk => hk.2.2.1)); obtain ⟨A4, c4, ev⟩ := Kd.R_slice (Kd.S_R hv); subst ev; clear hb hv))
  generalize wrap64 (1 + Int.tmod (wrap64 (Int.tmod dep 16 + 16)) 16) = dp at HDB HN ⊢
  have hfj : FJ (w2.alloc (.cells #[.bool false, .int .i64 0, .int .i64 dp, .int .i64 0, .slice A4 0 c4] 26)) w2.heap.size w.heap.size false 0 dp 0 [] (.slice A4 0 c4) :=
    ⟨heap_alloc_new w2 _, Kd.V_alloc (Kd.V_mono (Kd.R_V HV2.out) (fun k (hk : k < w2.heap.size) => Nat.ne_of_lt hk)) _, HB2.out.size⟩
  have HFJ := aM hfj
  have HB4 := aM (below_alloc HB2.out (.cells #[.bool false, .int .i64 0, .int .i64 dp, .int .i64 0, .slice A4 0 c4] 26))
  clear hfj
  generalize (w2.alloc (.cells #[.bool false, .int .i64 0, .int .i64 dp, .int .i64 0, .slice A4 0 c4] 26)) = w4 at HFJ HB4 ⊢
  generalize w2.heap.size = g6 at HFJ ⊢
  clear HB1 HB2 HB HV2 HN
  go_wp2
  go_loopg [38] l0.length (fun kx s38 wr => ∃ (i : Nat) (on : Bool) (nx dr : Int) (q : List S41) (v : Value), s38 = .int .i64 i ∧ i ≤ l0.length ∧ l0.length - i ≤ kx ∧ Aside0 (Below w.heap.size w wr) ∧ Aside0 (FJ wr g6 w.heap.size on nx dp dr q v) ∧ Aside0 (OK on nx dp dr q ∧ nx ≤ 1099511627777 + 20 * (i : Int)))
  case atStart => exact ⟨0, false, 0, 0, [], _, rfl, Nat.zero_le _, by omega, HB4, HFJ, aM ⟨ok_new HDB.out.1 HDB.out.2, by decide⟩⟩
  case round =>
    clear HB4 HFJ
    obtain ⟨i, on, nx, dr, q, v, rfl, hil, hkx, HBR, HFR, HOK⟩ := hrel
    obtain ⟨A, c, ev⟩ := Kd.V_slice HFR.out.row
    subst ev
    by_cases hlt : i < l0.length
    rotate_left
    · have hltz : ¬ ((i : Int) < (l0.length : Int)) := by omega
      clear hlt hil hkx
      go_wp2
      go_ret
      exact ⟨rfl, HBR.out⟩
    have hltz : (i : Int) < (l0.length : Int) := by omega
    have hiz : (0 : Int) ≤ (i : Int) := by omega
    have HCR := aM (Kd.C_below HR0.out HBR.out)
    obtain ⟨ad, Ao, co, hA, hc0, hc1, hco, hCo⟩ := at_T31 HCR.out (i : Int) hiz hltz
    subst hA
    rw [rdO l0 i hlt, Int.toNat_natCast] at hc0 hc1
    rw [rdO l0 i hlt] at hco hCo
    have hgo := HGD.out l0[i] (List.getElem_mem hlt)
    obtain ⟨o, ho⟩ : ∃ o, o = l0[i] := ⟨_, rfl⟩
    rw [← ho] at hc0 hc1 hco hCo hgo
    have HGO := aM hgo
    have HCO := aM hco
    have RI : Aside0 (IntKind.i64.wrap ((i : Int) + 1) = ((i + 1 : Nat) : Int)) := aM (by rw [IntKind.wrap_i64]; have := HLEN.out; omega)
    have e5 : l0.length - (i + 1) < gk := by omega
    have e6 : i + 1 ≤ l0.length := by omega
    have H56 := aM (And.intro e5 e6)
    have hi20 : (i : Int) < 20 := by have := HLEN.out; omega
    have HI20 := aM hi20
    have hol : o.f0.length < 4398046511104 := by have := hgo.1.1; omega
    obtain ⟨bf, hbf, hfew⟩ := fewl_f o.f0 hol
    have HBF := aM hbf
    have HFEW := aM hfew
    clear ho e5 e6 hkx hil hgo hi20 hol hbf hfew
    go_upto_region 12 with (fail)
    have hb := below_alloc (Below.refl _ wr) (.cells #[.slice Ao o.f0.length co, .int .i64 o.f1] 31)
    have hk9 := heap_alloc_new wr (.cells #[.slice Ao o.f0.length co, .int .i64 o.f1] 31)
    have hF5 := HFR.out.below hb
    have hB5 := below_alloc HBR.out (.cells #[.slice Ao o.f0.length co, .int .i64 o.f1] 31)
    have hC5 := Kd.C_below hCo hb
    generalize (wr.alloc (.cells #[.slice Ao o.f0.length co, .int .i64 o.f1] 31)) = w5 at hk9 hF5 hB5 hC5 ⊢
    generalize wr.heap.size = g9 at hk9 ⊢
    have BK5 := aM hk9
    have HF5 := aM hF5
    have HB5 := aM hB5
    have HC5 := aM hC5
    obtain ⟨ha0, ha1⟩ := cells2 hk9
    clear hb hk9 hF5 hB5 hC5 hCo hco hc0 hc1 HCR HFR HBR
    go_upto_if 46 with (go_at_call 10; refine (squelchlaw13_few.calls (o.f0.length + 1) false 0 0 0 (fun _ => True) none 0 [] _ Ao co o.f0 bf _ (Kd.V_nil k41 41 _ _ _) (Kd.V_mk HCO.out (Kd.C_F k41_heap HC5.out)) HBF.out).mono ?_; rintro e w6 ⟨rfl, hb⟩; have HB6 := aM (below_step HB5.out hb); have HF6 := aM (HF5.out.below hb); have BK6 := aM (blk_below BK5.out hb); have HC6 := aM (Kd.C_below HC5.out hb); clear hb ha0 ha1)
    clear HB5 HF5 BK5 HC5
    cases hb : bf with
    | false =>
      go_wp2
      go_ret
      exact ⟨rfl, HB6.out⟩
    | true =>
      have hol := HFEW.out hb
      subst hb
      have HOL := aM hol
      obtain ⟨p1, p2, p3, p4, p5, p6, p7, hput, hpost⟩ := put_any HOK.out.1 (l := o.f0) (by omega)
      have HPU := aM hput
      have HPO := aM hpost
      clear hol hput hpost
      obtain ⟨ha0, ha1⟩ := cells2 BK6.out
      obtain ⟨hf0, hf1, hf2, hf3, hf4⟩ := cells5 HF6.out.blk
      go_upto_region 15 with (go_at_call 11; refine (jitter_Put.calls 10000 on nx dp dr A c q Ao co o.f0 p1 p2 p3 p4 p5 p6 p7 _ (Kd.V_reads' HF6.out.row).2.2 (Kd.V_reads' HF6.out.row).2.1 HC6.out HCO.out HPU.out).mono ?_; rintro e w7 ⟨v4, v5, rfl, h4, h5, hb⟩; have HV4 := aM (Kd.R_mono (Kd.R_bound (Kd.S_R h4)) (fun k hk => And.intro hk.2.1 hk.2.2.1)); obtain ⟨A4, c4, ev⟩ := Kd.R_slice (Kd.S_R h4); subst ev; obtain ⟨A5, c5, ev⟩ := Kd.R_slice h5; subst ev; have SZ := aM hb.size; have HB7 := aM (below_step HB6.out hb); have HF7 := aM (HF6.out.below hb); have BK7 := aM (blk_below BK6.out hb); clear hb h4 h5 ha0 ha1 hf0 hf1 hf2 hf3 hf4)
      have hb := below_alloc (Below.refl _ w7) (.cells #[.bool p1, .int .i64 p2, .int .i64 p3, .int .i64 p4, .slice A4 p5.length c4] 26)
      have hk10 := heap_alloc_new w7 (.cells #[.bool p1, .int .i64 p2, .int .i64 p3, .int .i64 p4, .slice A4 p5.length c4] 26)
      have hF8 := HF7.out.below hb
      have hBK8 := blk_below BK7.out hb
      have hg6 : g6 < w6.heap.size := blk_lt HF6.out.blk
      have hV8 : Kd.V k41 41 (w7.alloc (.cells #[.bool p1, .int .i64 p2, .int .i64 p3, .int .i64 p4, .slice A4 p5.length c4] 26)) w.heap.size (fun k => k ≠ g6) (.slice A4 p5.length c4) p5 := Kd.V_below (Kd.V_mono (Kd.R_V HV4.out) (fun k hk => Nat.ne_of_gt (Nat.lt_of_lt_of_le hg6 hk.1))) hb
      have hB8 := below_alloc HB7.out (.cells #[.bool p1, .int .i64 p2, .int .i64 p3, .int .i64 p4, .slice A4 p5.length c4] 26)
      generalize (w7.alloc (.cells #[.bool p1, .int .i64 p2, .int .i64 p3, .int .i64 p4, .slice A4 p5.length c4] 26)) = w8 at hk10 hF8 hBK8 hV8 hB8 ⊢
      generalize w7.heap.size = g10 at hk10 ⊢
      have BK8 := aM hBK8
      have BX8 := aM hk10
      have HF8 := aM hF8
      have HV8 := aM hV8
      have HB8 := aM hB8
      clear hb hk10 hF8 hBK8 hg6 hV8 hB8 HF6 HB6 BK6 HC6 HF7 HB7 BK7 HV4 SZ
      by_cases h7 : p7 = 0
      rotate_left
      · have h7b : (p7 != 0) = true := by simpa using h7
        clear h7
        go_wp2
        go_ret
        exact ⟨rfl, HB8.out⟩
      have h7b : (p7 != 0) = false := by simpa using h7
      obtain ⟨rfl, rfl, rfl, rfl, hok5, hl6⟩ := HPO.out h7
      have HOK5 := aM (And.intro hok5 HOK.out.2)
      clear h7 HPO HPU HOK hok5
      obtain ⟨ha0, ha1⟩ := cells2 BK8.out
      obtain ⟨hx0, hx1, hx2, hx3, hx4⟩ := cells5 BX8.out
      obtain ⟨hz0, hz1, hz2, hz3, hz4⟩ := froz5 HF8.out.blk
      obtain ⟨hf0, hf1, hf2, hf3, hf4⟩ := cells5 HF8.out.blk
      have hl6z : ((p6.length : Int) != (o.f0.length : Int)) = false := by rw [hl6]; simp
      obtain ⟨m, hm⟩ : ∃ m : Nat, (m : Int) = Int.tmod (wrap64 (Int.tmod o.f1 20 + 20)) 20 := ⟨(Int.tmod (wrap64 (Int.tmod o.f1 20 + 20)) 20).toNat, by have := tmod_pos (a := o.f1) (m := 20) (by decide) (by decide); omega⟩
      have hm20 : m < 20 := by have := tmod_pos (a := o.f1) (m := 20) (by decide) (by decide); omega
      have HM := aM hm
      have HM20 := aM hm20
      clear hl6 hm hm20
      go_upto_region 20 with (fail)
      have hF9 := FJ.put (on' := p1) (nx' := p2) (dp' := p3) (dr' := p4) HF8.out HV8.out
      have hB9 := bS5 (u0 := .bool p1) (u1 := .int .i64 p2) (u2 := .int .i64 p3) (u3 := .int .i64 p4) (u4 := .slice A4 p5.length c4) HB8.out HF8.out.b6
      have hBK9 : (((((w8.setCell ⟨g6, 0, none⟩ (.bool p1)).setCell ⟨g6, 1, none⟩ (.int .i64 p2)).setCell ⟨g6, 2, none⟩ (.int .i64 p3)).setCell ⟨g6, 3, none⟩ (.int .i64 p4)).setCell ⟨g6, 4, none⟩ (.slice A4 p5.length c4)).heap[g9]? = some (.cells #[.slice Ao o.f0.length co, .int .i64 o.f1] 31 (0, 0)) := by
        have hne : g9 ≠ g6 := by intro e; have q1 := BK8.out; rw [e, HF8.out.blk] at q1; injection q1 with q1; injection q1 with q1 q2; cases q2
        exact blk_far (blk_far (blk_far (blk_far (blk_far BK8.out hne _) hne _) hne _) hne _) hne _
      generalize (((((w8.setCell ⟨g6, 0, none⟩ (.bool p1)).setCell ⟨g6, 1, none⟩ (.int .i64 p2)).setCell ⟨g6, 2, none⟩ (.int .i64 p3)).setCell ⟨g6, 3, none⟩ (.int .i64 p4)).setCell ⟨g6, 4, none⟩ (.slice A4 p5.length c4)) = w9 at hF9 hB9 hBK9 ⊢
      clear ha0 ha1 hx0 hx1 hx2 hx3 hx4 hz0 hz1 hz2 hz3 hz4 hf0 hf1 hf2 hf3 hf4 hl6z
      have HF9 := aM hF9
      have HB9 := aM hB9
      obtain ⟨ha0, ha1⟩ := cells2 hBK9
      have hmm := HM.out.symm
      clear hF9 hB9 hBK9 HF8 HB8 BK8 BX8 HV8
      go_wp2
      clear hmm ha0 ha1
      go_loopg [71] m (fun kx s71 ws => ∃ (j : Nat) (on : Bool) (nx dr : Int) (q : List S41) (v : Value), s71 = .int .i64 j ∧ j ≤ m ∧ m - j ≤ kx ∧ Aside0 (Below w.heap.size w ws) ∧ Aside0 (FJ ws g6 w.heap.size on nx p3 dr q v) ∧ Aside0 (OK on nx p3 dr q ∧ nx ≤ 1099511627777 + 20 * (i : Int) + (j : Int)))
      case atStart => exact ⟨0, p1, p2, p4, p5, _, rfl, Nat.zero_le _, by omega, HB9, HF9, aM ⟨HOK5.out.1, by have := HOK5.out.2; omega⟩⟩
      case round =>
        clear HB9 HF9 HOK5
        obtain ⟨j, on, nx, dr, q, v, rfl, hjl, hjk, HBS, HFS, HOS⟩ := hrel
        obtain ⟨A, c, ev⟩ := Kd.V_slice HFS.out.row
        subst ev
        by_cases hjt : j < m
        rotate_left
        · have hjz : ¬ ((j : Int) < (m : Int)) := by omega
          have hnx : nx ≤ 1099511627777 + 20 * ((i + 1 : Nat) : Int) := by have := HOS.out.2; have := HM20.out; push_cast; omega
          have HNX := aM hnx
          have ri := RI.out
          clear hjt hjl hjk hnx
          go_wp2
          go_roundg (l0.length - (i + 1))
          case measure => exact H56.out.1
          case rel => exact ⟨i + 1, on, nx, dr, q, _, by first | rfl | (simp [ri]; done), H56.out.2, Nat.le_refl _, HBS, HFS, aM ⟨HOS.out.1, HNX.out⟩⟩
        have hjz : (j : Int) < (m : Int) := by omega
        have hnb : nx ≤ 2199023255551 := by have := HOS.out.2; have := HI20.out; have := HM20.out; omega
        obtain ⟨on', nx', dr', q', cc, b, hpull, hpd⟩ := pull_any HOS.out.1 hnb
        have HPL := aM hpull
        have HPD := aM hpd
        have RJ : Aside0 (IntKind.i64.wrap ((j : Int) + 1) = ((j + 1 : Nat) : Int)) := aM (by rw [IntKind.wrap_i64]; have := HM20.out; omega)
        have f5 : m - (j + 1) < gk := by omega
        have f6 : j + 1 ≤ m := by omega
        have HJ := aM (And.intro f5 f6)
        have HNJ : Aside0 (nx' ≤ 1099511627777 + 20 * (i : Int) + ((j + 1 : Nat) : Int)) := aM (by
          have h1 := HOS.out.2
          rcases hpd.way with ⟨_, _, _, _, e, _⟩ | ⟨_, hq, _, e, _⟩ | ⟨_, _, _, e, _⟩ | ⟨_, e, e2, _⟩
          · push_cast; omega
          · have := (gd_iff _).1 (HOS.out.1.gds _ (inc_head HOS.out.1.inc hq).1)
            push_cast; omega
          · push_cast; omega
          · have := hpd.ok.off
            have y := hpd.ok.y1
            rcases this with h3 | h3
            · rw [e] at h3; cases h3
            · push_cast; omega)
        obtain ⟨hf0, hf1, hf2, hf3, hf4⟩ := cells5 HFS.out.blk
        clear f5 f6 hjk hjl hnb hpull hpd
        go_upto_region 23 with (go_at_call 12; refine (jitter_Pull.calls 10000 on nx p3 dr A c q on' nx' p3 dr' q' cc b 0 _ (Kd.V_reads' HFS.out.row).2.2 (Kd.V_reads' HFS.out.row).2.1 HPL.out).mono ?_; rintro e w10 ⟨v4, v6, rfl, h4, h6, hb⟩; have HV10 := aM (Kd.V_bound h4); obtain ⟨A4', c4', ev4⟩ := Kd.V_slice h4; obtain ⟨A6, c6, ev6⟩ := Kd.R_slice h6; subst ev4; subst ev6; have HC10 := aM (Kd.R_reads' h6).2.2; have HB10 := aM (below_step HBS.out hb); have HF10 := aM (HFS.out.below hb); clear h4 h6 hb hf0 hf1 hf2 hf3 hf4)
        have hb := below_alloc (Below.refl _ w10) (.cells #[.bool on', .int .i64 nx', .int .i64 p3, .int .i64 dr', .slice A4' q'.length c4'] 26)
        have hk13 := heap_alloc_new w10 (.cells #[.bool on', .int .i64 nx', .int .i64 p3, .int .i64 dr', .slice A4' q'.length c4'] 26)
        have hF11 := HF10.out.below hb
        have hg6 : g6 < wr.heap.size := blk_lt HFS.out.blk
        have hV11 : Kd.V k41 41 (w10.alloc (.cells #[.bool on', .int .i64 nx', .int .i64 p3, .int .i64 dr', .slice A4' q'.length c4'] 26)) w.heap.size (fun k => k ≠ g6) (.slice A4' q'.length c4') q' := Kd.V_below (Kd.V_mono HV10.out (fun k hk => Nat.ne_of_gt (Nat.lt_of_lt_of_le hg6 hk.1.1))) hb
        have hC11 := Kd.C_below HC10.out hb
        have hB11 := below_alloc HB10.out (.cells #[.bool on', .int .i64 nx', .int .i64 p3, .int .i64 dr', .slice A4' q'.length c4'] 26)
        generalize (w10.alloc (.cells #[.bool on', .int .i64 nx', .int .i64 p3, .int .i64 dr', .slice A4' q'.length c4'] 26)) = w11 at hk13 hF11 hV11 hC11 hB11 ⊢
        generalize w10.heap.size = g13 at hk13 ⊢
        have BX11 := aM hk13
        have HF11 := aM hF11
        have HV11 := aM hV11
        have HC11 := aM hC11
        have HB11 := aM hB11
        obtain ⟨hx0, hx1, hx2, hx3, hx4⟩ := cells5 hk13
        clear hb hk13 hF11 hg6 hV11 hC11 hB11 HFS HBS HB10 HF10 HV10 HC10 HPL
        go_upto_if 86 with (go_at_call 13; refine (squelchref13_Check.calls 1000 on' nx' p3 dr' A4' c4' q' 0 _ (Kd.V_reads' HV11.out).2.2 (Kd.V_reads' HV11.out).2.1 (rcheck_ok HPD.out.ok)).mono ?_; rintro e w12 ⟨rfl, hb⟩; have HB12 := aM (below_step HB11.out hb); have HF12 := aM (HF11.out.below hb); have BX12 := aM (blk_below BX11.out hb); have HV12 := aM (Kd.V_below HV11.out hb); have HC12 := aM (Kd.C_below HC11.out hb); clear hb hx0 hx1 hx2 hx3 hx4)
        clear HB11 HF11 BX11 HV11 HC11
        obtain ⟨hx0, hx1, hx2, hx3, hx4⟩ := cells5 BX12.out
        obtain ⟨hz0, hz1, hz2, hz3, hz4⟩ := froz5 HF12.out.blk
        obtain ⟨hf0, hf1, hf2, hf3, hf4⟩ := cells5 HF12.out.blk
        have rj := RJ.out
        rcases HPD.out.way with ⟨rfl, rfl, hwd, rfl, rfl, rfl, rfl, rfl⟩ | ⟨rfl, hq, hon, hnx, hbx, rfl, hqd⟩ | ⟨rfl, rfl, rfl, hnx, rfl, hqd⟩ | ⟨rfl, rfl, rfl, hdr, rfl⟩
        · have hdb : decide (p3 ≤ (q'.length : Int)) = false := decide_eq_false (by omega)
          have HPK := aM HPD.out.ok
          clear hwd
          go_wp2_with (go_at_call 14; refine (equal_calls false nx' p3 dr' q' A c A4' c4' _ (Kd.V_reads' HF12.out.row).2.2 (Kd.V_reads' HV12.out).2.2).mono ?_; rintro e w13 ⟨rfl, hb⟩; have HB13 := aM (below_step HB12.out hb); have HF13 := aM (HF12.out.below hb); have BX13 := aM (blk_below BX12.out hb); have HV13 := aM (Kd.V_below HV12.out hb); clear hb hx0 hx1 hx2 hx3 hx4 hz0 hz1 hz2 hz3 hz4 hf0 hf1 hf2 hf3 hf4; obtain ⟨hx0, hx1, hx2, hx3, hx4⟩ := cells5 BX13.out; obtain ⟨hz0, hz1, hz2, hz3, hz4⟩ := froz5 HF13.out.blk; obtain ⟨hf0, hf1, hf2, hf3, hf4⟩ := cells5 HF13.out.blk)
          go_roundg (m - (j + 1))
          case measure => exact HJ.out.1
          case rel => exact ⟨j + 1, false, nx', dr', q', _, by first | rfl | (simp [rj]; done), HJ.out.2, Nat.le_refl _, aM (bS5 HB13.out HF13.out.b6), aM (FJ.put HF13.out HV13.out), aM ⟨HPK.out, HNJ.out⟩⟩
        · have hqn : 0 < q.length := List.length_pos_iff.2 hq
          have hqz : (0 : Int) < (q.length : Int) := by omega
          obtain ⟨ad3, A1, c1, hA3, hc0, hc1, hcl, hC1⟩ := at_T41 (Kd.V_reads' HF12.out.row).2.2 0 (Int.le_refl _) hqz
          subst hA3
          rw [show ((0 : Int)).toNat = 0 from rfl, show 0 * 2 = 0 from rfl, Addr.add_zero'] at hc0 hc1
          have hxg := (gd_iff _).1 (HOS.out.1.gds _ (inc_head HOS.out.1.inc hq).1)
          have hlen := HOS.out.1.len
          obtain ⟨x, hx⟩ : ∃ x, x = rd_T41 q 0 := ⟨_, rfl⟩
          rw [← hx] at hc0 hc1 hC1 hon hnx hbx hxg
          have hn2 : (nx' != IntKind.i64.wrap (x.f0 + 1)) = false := by rw [IntKind.wrap_i64, hnx]; simp; omega
          have hn2' : (nx' != wrap64 (x.f0 + 1)) = false := by rw [w64 _ (by omega) (by omega), hnx]; simp
          have hn3 : ((q'.length : Int) != IntKind.i64.wrap ((q.length : Int) - 1)) = false := by rw [IntKind.wrap_i64, hqd, List.length_drop]; simp; omega
          have hn3' : ((q'.length : Int) != wrap64 ((q.length : Int) - 1)) = false := by rw [w64 _ (by omega) (by omega), hqd, List.length_drop]; simp; omega
          have hcv1 := fun o => Kd.C_string (P := Try.prog) (A := A6) (c := c6) Try.underlying36 Try.underlying5 Try.underlying9 (Kd.C_alloc HC12.out o)
          have hcv2 := fun o => Kd.C_string (P := Try.prog) (A := A1) (c := c1) Try.underlying36 Try.underlying5 Try.underlying9 (Kd.C_alloc hC1 o)
          rw [← hbx] at hcv2 hc1
          generalize strOfNums b = sb at hcv1 hcv2
          have hs1 : (sb.toList != sb.toList) = false := by simp
          have hs2 : (sb.toList == sb.toList) = true := by simp
          have hz0' := fun o => (froz5 (blk_alloc HF12.out.blk o)).1
          have HPK := aM HPD.out.ok
          have hba := below_alloc HB12.out (.cells #[.int .i64 x.f0, .slice A1 b.length c1] 41)
          have HBA := aM hba
          have HFA := aM (HF12.out.below (below_alloc (Below.refl _ w12) (.cells #[.int .i64 x.f0, .slice A1 b.length c1] 41)))
          have HVA := aM (Kd.V_alloc HV12.out (.cells #[.int .i64 x.f0, .slice A1 b.length c1] 41))
          have HXA := aM (blk_alloc BX12.out (.cells #[.int .i64 x.f0, .slice A1 b.length c1] 41))
          clear hba hxg hlen hnx hqd hx hcl hC1 hz0' hbx
          go_upto_region 29 with (fail)
          have hg17 := heap_alloc_new w12 (.cells #[.int .i64 x.f0, .slice A1 b.length c1] 41)
          have hcvA := hcv1 (.cells #[.int .i64 x.f0, .slice A1 b.length c1] 41)
          have hcvB := hcv2 (.cells #[.int .i64 x.f0, .slice A1 b.length c1] 41)
          clear hcv1 hcv2 hx0 hx1 hx2 hx3 hx4 hz0 hz1 hz2 hz3 hz4 hf0 hf1 hf2 hf3 hf4
          generalize (w12.alloc (.cells #[.int .i64 x.f0, .slice A1 b.length c1] 41)) = w13 at HBA HFA HVA HXA hg17 hcvA hcvB ⊢
          generalize w12.heap.size = g17 at hg17 ⊢
          obtain ⟨hx0, hx1, hx2, hx3, hx4⟩ := cells5 HXA.out
          obtain ⟨hz0, hz1, hz2, hz3, hz4⟩ := froz5 HFA.out.blk
          obtain ⟨hf0, hf1, hf2, hf3, hf4⟩ := cells5 HFA.out.blk
          obtain ⟨hg0, hg1⟩ := cells2 hg17
          clear hg17 hc0 hc1 HC12
          cases hon2 : on with
          | false =>
            subst hon2
            clear hon
            go_wp2
            go_roundg (m - (j + 1))
            case measure => exact HJ.out.1
            case rel => exact ⟨j + 1, true, nx', dr', q', _, by first | rfl | (simp [rj]; done), HJ.out.2, Nat.le_refl _, aM (bS5 HBA.out HFA.out.b6), aM (FJ.put HFA.out HVA.out), aM ⟨HPK.out, HNJ.out⟩⟩
          | true =>
            have hn4 : (x.f0 != nx) = false := by rw [hon hon2]; simp
            subst hon2
            clear hon
            go_wp2
            go_roundg (m - (j + 1))
            case measure => exact HJ.out.1
            case rel => exact ⟨j + 1, true, nx', dr', q', _, by first | rfl | (simp [rj]; done), HJ.out.2, Nat.le_refl _, aM (bS5 HBA.out HFA.out.b6), aM (FJ.put HFA.out HVA.out), aM ⟨HPK.out, HNJ.out⟩⟩
        · have hn2' : (nx' != wrap64 (nx + 1)) = false := by rw [w64 _ (by have := HOS.out.1.n1; omega) (by have := HOS.out.1.n2; omega), hnx]; simp
          have hn2 : (nx' != IntKind.i64.wrap (nx + 1)) = false := by rw [IntKind.wrap_i64, hnx]; have := HOS.out.1.n1; have := HOS.out.1.n2; simp; omega
          have hn3 : ((q'.length : Int) != (q.length : Int)) = false := by rw [hqd]; simp
          have HPK := aM HPD.out.ok
          clear hnx hqd
          go_wp2
          go_roundg (m - (j + 1))
          case measure => exact HJ.out.1
          case rel => exact ⟨j + 1, true, nx', dr', q', _, by first | rfl | (simp [rj]; done), HJ.out.2, Nat.le_refl _, aM (bS5 HB12.out HF12.out.b6), aM (FJ.put HF12.out HV12.out), aM ⟨HPK.out, HNJ.out⟩⟩
        · have hn2 : (dr != 11) = false := by rw [hdr]; rfl
          have HPK := aM HPD.out.ok
          clear hdr
          go_wp2
          go_roundg (m - (j + 1))
          case measure => exact HJ.out.1
          case rel => exact ⟨j + 1, false, nx', dr', [], _, by first | rfl | (simp [rj]; done), HJ.out.2, Nat.le_refl _, aM (bS5 HB12.out HF12.out.b6), aM (FJ.put HF12.out HV12.out), aM ⟨HPK.out, HNJ.out⟩⟩
end Go.Proofs.Ytkjgibdbbklejaa.PA
